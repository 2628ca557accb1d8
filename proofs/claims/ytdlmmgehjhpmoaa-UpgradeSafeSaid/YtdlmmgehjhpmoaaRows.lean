/-
  No cell of these rows narrows 'for every input' (looked for: loops, veiled, ifaces, maps, wideKeys, modest, calm, conditions, laid).
  DERIVED. THE GIVEN ROWS OF THIS SEAT. 4 by the template 'for every input the law returns true; each argument reads behind the call as it read before'; 0 by the template 'total and deterministic' (their statements: YtdlmmgehjhpmoaaTotals.lean).
  GIVEN WITH THE SEED: the statements are not yours to turn. If you find one false, say at which input.
  Laid BY PROGRAM, IN A SANDBOX (cutbox-rows.mjs): the forced cells as the released guide's own fill.sh prints them over the translation f1258b7bf2389fa8… (all of the seat's roots in one cut). By AI agents, Wed Nov 11 2026. No macro, syntax, notation, axiom, sorry.
-/
import Derived.Test.YtdlmmgehjhpmoaaChecked
import GoSem.Claim
import GoSem.ClaimJoined
import GoSem.ClaimMapViews
import Derived.JoinedTies
import Derived.KernelRfl
namespace Go.Proofs.Ytdlmmgehjhpmoaa
/- THE CELL 'sum', in the pinned program and in every row, IS THE sha256 OF THE DUMP (.gsa) THAT YtdlmmgehjhpmoaaProg.lean LOADS. Nothing in Lean hashes anything: it is a label: what it is worth is what the hold of that sum in a sandbox is worth. -/
noncomputable def Try.pinned : Pinned := { name := "ytdlmmgehjhpmoaa", sum := "f1258b7bf2389fa8b5cf7458495d85201c9dbe5967a94af7ff66f33b8c4b80a2", checked := Try.checked }
namespace Rows
def none {H : Type} : Left H := { results := [], args := [] }

/-- 'transeptlaw23.UpgradeOwn': WHATEVER THE INPUT: true; the input reads as it did. -/
def upgradeOwnSpec : ChangeSpec := { name := "upgradeOwn", fn := fun _ => fun
  | [d1, d2] => { results := [.lit (.bool true)], args := [d1, d2] }
  | _ => none }
def upgradeOwnRow : OpenClaim := { program := "ytdlmmgehjhpmoaa", sum := "f1258b7bf2389fa8b5cf7458495d85201c9dbe5967a94af7ff66f33b8c4b80a2", func := "transept/transeptlaw23.UpgradeOwn", spec := "upgradeOwn", unfollowed := true, recurses := true, apart := false }
def UpgradeOwnSaid : Prop := upgradeOwnRow.holds Try.pinned (OpenSpec.ofChange upgradeOwnSpec)

/-- ITS FALSE NEIGHBOUR: 'it returns false'. Refute it at one input. -/
def upgradeOwnWrong : ChangeSpec := { name := "upgradeOwn", fn := fun _ => fun
  | [d1, d2] => { results := [.lit (.bool false)], args := [d1, d2] }
  | _ => none }
def UpgradeOwnWrongFalsely : Prop := upgradeOwnRow.holds Try.pinned (OpenSpec.ofChange upgradeOwnWrong)

/-- 'transeptlaw23.UpgradeOrder': WHATEVER THE INPUT: true; the input reads as it did. -/
def upgradeOrderSpec : ChangeSpec := { name := "upgradeOrder", fn := fun _ => fun
  | [d1, d2] => { results := [.lit (.bool true)], args := [d1, d2] }
  | _ => none }
def upgradeOrderRow : OpenClaim := { program := "ytdlmmgehjhpmoaa", sum := "f1258b7bf2389fa8b5cf7458495d85201c9dbe5967a94af7ff66f33b8c4b80a2", func := "transept/transeptlaw23.UpgradeOrder", spec := "upgradeOrder", unfollowed := true, recurses := true, apart := false }
def UpgradeOrderSaid : Prop := upgradeOrderRow.holds Try.pinned (OpenSpec.ofChange upgradeOrderSpec)

/-- ITS FALSE NEIGHBOUR: 'it returns false'. Refute it at one input. -/
def upgradeOrderWrong : ChangeSpec := { name := "upgradeOrder", fn := fun _ => fun
  | [d1, d2] => { results := [.lit (.bool false)], args := [d1, d2] }
  | _ => none }
def UpgradeOrderWrongFalsely : Prop := upgradeOrderRow.holds Try.pinned (OpenSpec.ofChange upgradeOrderWrong)

/-- 'transeptlaw23.UpgradeTells': WHATEVER THE INPUT: true; the input reads as it did. -/
def upgradeTellsSpec : ChangeSpec := { name := "upgradeTells", fn := fun _ => fun
  | [d1, d2, d3, d4, d5] => { results := [.lit (.bool true)], args := [d1, d2, d3, d4, d5] }
  | _ => none }
def upgradeTellsRow : OpenClaim := { program := "ytdlmmgehjhpmoaa", sum := "f1258b7bf2389fa8b5cf7458495d85201c9dbe5967a94af7ff66f33b8c4b80a2", func := "transept/transeptlaw23.UpgradeTells", spec := "upgradeTells", unfollowed := true, recurses := true, apart := false }
def UpgradeTellsSaid : Prop := upgradeTellsRow.holds Try.pinned (OpenSpec.ofChange upgradeTellsSpec)

/-- ITS FALSE NEIGHBOUR: 'it returns false'. Refute it at one input. -/
def upgradeTellsWrong : ChangeSpec := { name := "upgradeTells", fn := fun _ => fun
  | [d1, d2, d3, d4, d5] => { results := [.lit (.bool false)], args := [d1, d2, d3, d4, d5] }
  | _ => none }
def UpgradeTellsWrongFalsely : Prop := upgradeTellsRow.holds Try.pinned (OpenSpec.ofChange upgradeTellsWrong)

/-- 'transeptlaw23.UpgradeSafe': WHATEVER THE INPUT: true; the input reads as it did. -/
def upgradeSafeSpec : ChangeSpec := { name := "upgradeSafe", fn := fun _ => fun
  | [d1, d2, d3] => { results := [.lit (.bool true)], args := [d1, d2, d3] }
  | _ => none }
def upgradeSafeRow : OpenClaim := { program := "ytdlmmgehjhpmoaa", sum := "f1258b7bf2389fa8b5cf7458495d85201c9dbe5967a94af7ff66f33b8c4b80a2", func := "transept/transeptlaw23.UpgradeSafe", spec := "upgradeSafe", unfollowed := true, recurses := true, apart := false }
def UpgradeSafeSaid : Prop := upgradeSafeRow.holds Try.pinned (OpenSpec.ofChange upgradeSafeSpec)

/-- ITS FALSE NEIGHBOUR: 'it returns false'. Refute it at one input. -/
def upgradeSafeWrong : ChangeSpec := { name := "upgradeSafe", fn := fun _ => fun
  | [d1, d2, d3] => { results := [.lit (.bool false)], args := [d1, d2, d3] }
  | _ => none }
def UpgradeSafeWrongFalsely : Prop := upgradeSafeRow.holds Try.pinned (OpenSpec.ofChange upgradeSafeWrong)

/- THE SECOND FORM. 'bulk': how many values and letters a reading holds, each counted each time it is reached (what is shared counts as often as it is met; a slice's spare places count too). A statement '..UptoSaid' is the law's where the arguments, and the package variables that the reading takes, are together of bulk at most 1048576: NARROWER than '..Said'. Prove '..Said' where nothing that the law and all that it calls make is longer than what came in: it says more and counts as full. Else prove '..UptoSaid'. A law counts once. -/
mutual
def uptoBulk {H : Type} : DataW H → Nat
  | .lit (.string bytes) => bytes.length + 1
  | .lit _ => 1
  | .nil => 1
  | .ptr d => uptoBulk d + 1
  | .slice elems spare => uptoBulkAll elems + uptoBulkAll spare + 1
  | .agg parts => uptoBulkAll parts + 1
  | .iface _ d => uptoBulk d + 1
  | .map entries => uptoBulkEntries entries + 1
  | .held _ => 1
def uptoBulkAll {H : Type} : List (DataW H) → Nat
  | [] => 0
  | d :: r => uptoBulk d + uptoBulkAll r
def uptoBulkEntries {H : Type} : List (Lit × DataW H) → Nat
  | [] => 0
  | x :: r => uptoBulkEntry x + uptoBulkEntries r
def uptoBulkEntry {H : Type} : Lit × DataW H → Nat
  | (.string bytes, d) => bytes.length + uptoBulk d + 1
  | (_, d) => uptoBulk d + 1
 end
def uptoSmall : (H : Type) → List (DataW H) → Bool := fun _ ds => decide (uptoBulkAll ds ≤ 1048576)
def OpenSpec.upto (s : _root_.Go.ChangeSpec) : _root_.Go.OpenSpec := { _root_.Go.OpenSpec.ofChange s with cond := some uptoSmall }

/-- 'transeptlaw23.UpgradeOwn', WHERE WHAT IT READS IS OF BULK AT MOST 1048576: true; the input reads as it did. -/
def upgradeOwnUptoRow : OpenClaim := { program := "ytdlmmgehjhpmoaa", sum := "f1258b7bf2389fa8b5cf7458495d85201c9dbe5967a94af7ff66f33b8c4b80a2", func := "transept/transeptlaw23.UpgradeOwn", spec := "upgradeOwn", unfollowed := true, recurses := true, apart := false, narrowed := true }
def UpgradeOwnUptoSaid : Prop := upgradeOwnUptoRow.holds Try.pinned (OpenSpec.upto upgradeOwnSpec)

/-- 'transeptlaw23.UpgradeOrder', WHERE WHAT IT READS IS OF BULK AT MOST 1048576: true; the input reads as it did. -/
def upgradeOrderUptoRow : OpenClaim := { program := "ytdlmmgehjhpmoaa", sum := "f1258b7bf2389fa8b5cf7458495d85201c9dbe5967a94af7ff66f33b8c4b80a2", func := "transept/transeptlaw23.UpgradeOrder", spec := "upgradeOrder", unfollowed := true, recurses := true, apart := false, narrowed := true }
def UpgradeOrderUptoSaid : Prop := upgradeOrderUptoRow.holds Try.pinned (OpenSpec.upto upgradeOrderSpec)

/-- 'transeptlaw23.UpgradeTells', WHERE WHAT IT READS IS OF BULK AT MOST 1048576: true; the input reads as it did. -/
def upgradeTellsUptoRow : OpenClaim := { program := "ytdlmmgehjhpmoaa", sum := "f1258b7bf2389fa8b5cf7458495d85201c9dbe5967a94af7ff66f33b8c4b80a2", func := "transept/transeptlaw23.UpgradeTells", spec := "upgradeTells", unfollowed := true, recurses := true, apart := false, narrowed := true }
def UpgradeTellsUptoSaid : Prop := upgradeTellsUptoRow.holds Try.pinned (OpenSpec.upto upgradeTellsSpec)

/-- 'transeptlaw23.UpgradeSafe', WHERE WHAT IT READS IS OF BULK AT MOST 1048576: true; the input reads as it did. -/
def upgradeSafeUptoRow : OpenClaim := { program := "ytdlmmgehjhpmoaa", sum := "f1258b7bf2389fa8b5cf7458495d85201c9dbe5967a94af7ff66f33b8c4b80a2", func := "transept/transeptlaw23.UpgradeSafe", spec := "upgradeSafe", unfollowed := true, recurses := true, apart := false, narrowed := true }
def UpgradeSafeUptoSaid : Prop := upgradeSafeUptoRow.holds Try.pinned (OpenSpec.upto upgradeSafeSpec)

end Rows
end Go.Proofs.Ytdlmmgehjhpmoaa
