/-
  No cell of these rows narrows 'for every input' (looked for: loops, veiled, ifaces, maps, wideKeys, modest, calm, conditions, laid).
  DERIVED. THE GIVEN ROWS OF THIS SEAT. 5 by the template 'for every input the law returns true; each argument reads behind the call as it read before'; 0 by the template 'total and deterministic' (their statements: YtpjaebbgbmhneaaTotals.lean).
  GIVEN WITH THE SEED: the statements are not yours to turn. If you find one false, say at which input.
  Laid BY PROGRAM, IN A SANDBOX (cutbox-rows.mjs): the forced cells as the released guide's own fill.sh prints them over the translation dcc22cad06547f59… (all of the seat's roots in one cut). By AI agents, Wed Nov 11 2026. No macro, syntax, notation, axiom, sorry.
-/
import Derived.Test.YtpjaebbgbmhneaaChecked
import GoSem.Claim
import GoSem.ClaimJoined
import GoSem.ClaimMapViews
import Derived.JoinedTies
import Derived.KernelRfl
namespace Go.Proofs.Ytpjaebbgbmhneaa
/- THE CELL 'sum', in the pinned program and in every row, IS THE sha256 OF THE DUMP (.gsa) THAT YtpjaebbgbmhneaaProg.lean LOADS. Nothing in Lean hashes anything: it is a label: what it is worth is what the hold of that sum in a sandbox is worth. -/
noncomputable def Try.pinned : Pinned := { name := "ytpjaebbgbmhneaa", sum := "dcc22cad06547f590119165bab3e5ab20d0a346e2a205a072642eacb2e54b4da", checked := Try.checked }
namespace Rows
def none {H : Type} : Left H := { results := [], args := [] }

/-- 'transeptlaw13.CommandBoth': WHATEVER THE INPUT: true; the input reads as it did. -/
def commandBothSpec : ChangeSpec := { name := "commandBoth", fn := fun _ => fun
  | [d] => { results := [.lit (.bool true)], args := [d] }
  | _ => none }
def commandBothRow : OpenClaim := { program := "ytpjaebbgbmhneaa", sum := "dcc22cad06547f590119165bab3e5ab20d0a346e2a205a072642eacb2e54b4da", func := "transept/transeptlaw13.CommandBoth", spec := "commandBoth", unfollowed := true, recurses := true, apart := false }
def CommandBothSaid : Prop := commandBothRow.holds Try.pinned (OpenSpec.ofChange commandBothSpec)

/-- ITS FALSE NEIGHBOUR: 'it returns false'. Refute it at one input. -/
def commandBothWrong : ChangeSpec := { name := "commandBoth", fn := fun _ => fun
  | [d] => { results := [.lit (.bool false)], args := [d] }
  | _ => none }
def CommandBothWrongFalsely : Prop := commandBothRow.holds Try.pinned (OpenSpec.ofChange commandBothWrong)

/-- 'transeptlaw13.CommandTells': WHATEVER THE INPUT: true; the input reads as it did. -/
def commandTellsSpec : ChangeSpec := { name := "commandTells", fn := fun _ => fun
  | [d1, d2, d3] => { results := [.lit (.bool true)], args := [d1, d2, d3] }
  | _ => none }
def commandTellsRow : OpenClaim := { program := "ytpjaebbgbmhneaa", sum := "dcc22cad06547f590119165bab3e5ab20d0a346e2a205a072642eacb2e54b4da", func := "transept/transeptlaw13.CommandTells", spec := "commandTells", unfollowed := true, recurses := true, apart := false }
def CommandTellsSaid : Prop := commandTellsRow.holds Try.pinned (OpenSpec.ofChange commandTellsSpec)

/-- ITS FALSE NEIGHBOUR: 'it returns false'. Refute it at one input. -/
def commandTellsWrong : ChangeSpec := { name := "commandTells", fn := fun _ => fun
  | [d1, d2, d3] => { results := [.lit (.bool false)], args := [d1, d2, d3] }
  | _ => none }
def CommandTellsWrongFalsely : Prop := commandTellsRow.holds Try.pinned (OpenSpec.ofChange commandTellsWrong)

/-- 'transeptlaw13.CommandBack': WHATEVER THE INPUT: true; the input reads as it did. -/
def commandBackSpec : ChangeSpec := { name := "commandBack", fn := fun _ => fun
  | [d1, d2] => { results := [.lit (.bool true)], args := [d1, d2] }
  | _ => none }
def commandBackRow : OpenClaim := { program := "ytpjaebbgbmhneaa", sum := "dcc22cad06547f590119165bab3e5ab20d0a346e2a205a072642eacb2e54b4da", func := "transept/transeptlaw13.CommandBack", spec := "commandBack", unfollowed := true, recurses := true, apart := false }
def CommandBackSaid : Prop := commandBackRow.holds Try.pinned (OpenSpec.ofChange commandBackSpec)

/-- ITS FALSE NEIGHBOUR: 'it returns false'. Refute it at one input. -/
def commandBackWrong : ChangeSpec := { name := "commandBack", fn := fun _ => fun
  | [d1, d2] => { results := [.lit (.bool false)], args := [d1, d2] }
  | _ => none }
def CommandBackWrongFalsely : Prop := commandBackRow.holds Try.pinned (OpenSpec.ofChange commandBackWrong)

/-- 'transeptlaw13.CommandCut': WHATEVER THE INPUT: true; the input reads as it did. -/
def commandCutSpec : ChangeSpec := { name := "commandCut", fn := fun _ => fun
  | [d1, d2, d3] => { results := [.lit (.bool true)], args := [d1, d2, d3] }
  | _ => none }
def commandCutRow : OpenClaim := { program := "ytpjaebbgbmhneaa", sum := "dcc22cad06547f590119165bab3e5ab20d0a346e2a205a072642eacb2e54b4da", func := "transept/transeptlaw13.CommandCut", spec := "commandCut", unfollowed := true, recurses := true, apart := false }
def CommandCutSaid : Prop := commandCutRow.holds Try.pinned (OpenSpec.ofChange commandCutSpec)

/-- ITS FALSE NEIGHBOUR: 'it returns false'. Refute it at one input. -/
def commandCutWrong : ChangeSpec := { name := "commandCut", fn := fun _ => fun
  | [d1, d2, d3] => { results := [.lit (.bool false)], args := [d1, d2, d3] }
  | _ => none }
def CommandCutWrongFalsely : Prop := commandCutRow.holds Try.pinned (OpenSpec.ofChange commandCutWrong)

/-- 'transeptlaw13.CommandOwn': WHATEVER THE INPUT: true; the input reads as it did. -/
def commandOwnSpec : ChangeSpec := { name := "commandOwn", fn := fun _ => fun
  | [d] => { results := [.lit (.bool true)], args := [d] }
  | _ => none }
def commandOwnRow : OpenClaim := { program := "ytpjaebbgbmhneaa", sum := "dcc22cad06547f590119165bab3e5ab20d0a346e2a205a072642eacb2e54b4da", func := "transept/transeptlaw13.CommandOwn", spec := "commandOwn", unfollowed := true, recurses := true, apart := false }
def CommandOwnSaid : Prop := commandOwnRow.holds Try.pinned (OpenSpec.ofChange commandOwnSpec)

/-- ITS FALSE NEIGHBOUR: 'it returns false'. Refute it at one input. -/
def commandOwnWrong : ChangeSpec := { name := "commandOwn", fn := fun _ => fun
  | [d] => { results := [.lit (.bool false)], args := [d] }
  | _ => none }
def CommandOwnWrongFalsely : Prop := commandOwnRow.holds Try.pinned (OpenSpec.ofChange commandOwnWrong)

/- THE SECOND FORM. 'bulk': how many values and letters a reading holds, each counted each time it is reached (what is shared counts as often as it is met; a slice's spare places count too). A statement '..UptoSaid' is the law's where the arguments, and the package variables that the reading takes, are together of bulk at most 1048576: NARROWER than '..Said'. Prove '..Said' where nothing that the law and all that it calls make is longer than what came in: it says more and counts as full. Else prove '..UptoSaid'. A law counts once. -/
mutual
def uptoBulk {H : Type} : DataW H → Nat
  | .lit (.string bytes) => bytes.length + 1
  | .lit _ => 1
  | .nil => 1
  | .ptr d => uptoBulk d + 1
  | .slice elems spare => uptoBulkAll elems + uptoBulkAll spare + 1
  | .agg parts => uptoBulkAll parts + 1
  | .iface _ d => uptoBulk d + 1
  | .map entries => uptoBulkEntries entries + 1
  | .held _ => 1
def uptoBulkAll {H : Type} : List (DataW H) → Nat
  | [] => 0
  | d :: r => uptoBulk d + uptoBulkAll r
def uptoBulkEntries {H : Type} : List (Lit × DataW H) → Nat
  | [] => 0
  | x :: r => uptoBulkEntry x + uptoBulkEntries r
def uptoBulkEntry {H : Type} : Lit × DataW H → Nat
  | (.string bytes, d) => bytes.length + uptoBulk d + 1
  | (_, d) => uptoBulk d + 1
 end
def uptoSmall : (H : Type) → List (DataW H) → Bool := fun _ ds => decide (uptoBulkAll ds ≤ 1048576)
def OpenSpec.upto (s : _root_.Go.ChangeSpec) : _root_.Go.OpenSpec := { _root_.Go.OpenSpec.ofChange s with cond := some uptoSmall }

/-- 'transeptlaw13.CommandBoth', WHERE WHAT IT READS IS OF BULK AT MOST 1048576: true; the input reads as it did. -/
def commandBothUptoRow : OpenClaim := { program := "ytpjaebbgbmhneaa", sum := "dcc22cad06547f590119165bab3e5ab20d0a346e2a205a072642eacb2e54b4da", func := "transept/transeptlaw13.CommandBoth", spec := "commandBoth", unfollowed := true, recurses := true, apart := false, narrowed := true }
def CommandBothUptoSaid : Prop := commandBothUptoRow.holds Try.pinned (OpenSpec.upto commandBothSpec)

/-- 'transeptlaw13.CommandTells', WHERE WHAT IT READS IS OF BULK AT MOST 1048576: true; the input reads as it did. -/
def commandTellsUptoRow : OpenClaim := { program := "ytpjaebbgbmhneaa", sum := "dcc22cad06547f590119165bab3e5ab20d0a346e2a205a072642eacb2e54b4da", func := "transept/transeptlaw13.CommandTells", spec := "commandTells", unfollowed := true, recurses := true, apart := false, narrowed := true }
def CommandTellsUptoSaid : Prop := commandTellsUptoRow.holds Try.pinned (OpenSpec.upto commandTellsSpec)

/-- 'transeptlaw13.CommandBack', WHERE WHAT IT READS IS OF BULK AT MOST 1048576: true; the input reads as it did. -/
def commandBackUptoRow : OpenClaim := { program := "ytpjaebbgbmhneaa", sum := "dcc22cad06547f590119165bab3e5ab20d0a346e2a205a072642eacb2e54b4da", func := "transept/transeptlaw13.CommandBack", spec := "commandBack", unfollowed := true, recurses := true, apart := false, narrowed := true }
def CommandBackUptoSaid : Prop := commandBackUptoRow.holds Try.pinned (OpenSpec.upto commandBackSpec)

/-- 'transeptlaw13.CommandCut', WHERE WHAT IT READS IS OF BULK AT MOST 1048576: true; the input reads as it did. -/
def commandCutUptoRow : OpenClaim := { program := "ytpjaebbgbmhneaa", sum := "dcc22cad06547f590119165bab3e5ab20d0a346e2a205a072642eacb2e54b4da", func := "transept/transeptlaw13.CommandCut", spec := "commandCut", unfollowed := true, recurses := true, apart := false, narrowed := true }
def CommandCutUptoSaid : Prop := commandCutUptoRow.holds Try.pinned (OpenSpec.upto commandCutSpec)

/-- 'transeptlaw13.CommandOwn', WHERE WHAT IT READS IS OF BULK AT MOST 1048576: true; the input reads as it did. -/
def commandOwnUptoRow : OpenClaim := { program := "ytpjaebbgbmhneaa", sum := "dcc22cad06547f590119165bab3e5ab20d0a346e2a205a072642eacb2e54b4da", func := "transept/transeptlaw13.CommandOwn", spec := "commandOwn", unfollowed := true, recurses := true, apart := false, narrowed := true }
def CommandOwnUptoSaid : Prop := commandOwnUptoRow.holds Try.pinned (OpenSpec.upto commandOwnSpec)

end Rows
end Go.Proofs.Ytpjaebbgbmhneaa
