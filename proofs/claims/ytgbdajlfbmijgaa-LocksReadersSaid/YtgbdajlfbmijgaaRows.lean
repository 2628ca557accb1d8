/-
  No cell of these rows narrows 'for every input' (looked for: loops, veiled, ifaces, maps, wideKeys, modest, calm, conditions, laid).
  DERIVED. THE GIVEN ROWS OF THIS SEAT. 5 by the template 'for every input the law returns true; each argument reads behind the call as it read before'; 0 by the template 'total and deterministic' (their statements: YtgbdajlfbmijgaaTotals.lean).
  GIVEN WITH THE SEED: the statements are not yours to turn. If you find one false, say at which input.
  Laid BY PROGRAM, IN A SANDBOX (cutbox-rows.mjs): the forced cells as the released guide's own fill.sh prints them over the translation 7fc5776fda7eeeb3… (all of the seat's roots in one cut). By AI agents, Wed Nov 11 2026. No macro, syntax, notation, axiom, sorry.
-/
import Derived.Test.YtgbdajlfbmijgaaChecked
import GoSem.Claim
import GoSem.ClaimJoined
import GoSem.ClaimMapViews
import Derived.JoinedTies
import Derived.KernelRfl
namespace Go.Proofs.Ytgbdajlfbmijgaa
/- THE CELL 'sum', in the pinned program and in every row, IS THE sha256 OF THE DUMP (.gsa) THAT YtgbdajlfbmijgaaProg.lean LOADS. Nothing in Lean hashes anything: it is a label: what it is worth is what the hold of that sum in a sandbox is worth. -/
noncomputable def Try.pinned : Pinned := { name := "ytgbdajlfbmijgaa", sum := "7fc5776fda7eeeb37fe14990b734efc934180f82f71b1e4319abe1010a697014", checked := Try.checked }
namespace Rows
def none {H : Type} : Left H := { results := [], args := [] }

/-- 'transeptlaw19.LocksBack': WHATEVER THE INPUT: true; the input reads as it did. -/
def locksBackSpec : ChangeSpec := { name := "locksBack", fn := fun _ => fun
  | [d1, d2, d3, d4] => { results := [.lit (.bool true)], args := [d1, d2, d3, d4] }
  | _ => none }
def locksBackRow : OpenClaim := { program := "ytgbdajlfbmijgaa", sum := "7fc5776fda7eeeb37fe14990b734efc934180f82f71b1e4319abe1010a697014", func := "transept/transeptlaw19.LocksBack", spec := "locksBack", inPlace := ["slices.overlaps[transept/locks.Hold]"], unfollowed := true, recurses := true, apart := false }
def LocksBackSaid : Prop := locksBackRow.holds Try.pinned (OpenSpec.ofChange locksBackSpec)

/-- ITS FALSE NEIGHBOUR: 'it returns false'. Refute it at one input. -/
def locksBackWrong : ChangeSpec := { name := "locksBack", fn := fun _ => fun
  | [d1, d2, d3, d4] => { results := [.lit (.bool false)], args := [d1, d2, d3, d4] }
  | _ => none }
def LocksBackWrongFalsely : Prop := locksBackRow.holds Try.pinned (OpenSpec.ofChange locksBackWrong)

/-- 'transeptlaw19.LocksOwn': WHATEVER THE INPUT: true; the input reads as it did. -/
def locksOwnSpec : ChangeSpec := { name := "locksOwn", fn := fun _ => fun
  | [d1, d2, d3] => { results := [.lit (.bool true)], args := [d1, d2, d3] }
  | _ => none }
def locksOwnRow : OpenClaim := { program := "ytgbdajlfbmijgaa", sum := "7fc5776fda7eeeb37fe14990b734efc934180f82f71b1e4319abe1010a697014", func := "transept/transeptlaw19.LocksOwn", spec := "locksOwn", inPlace := ["slices.overlaps[transept/locks.Hold]"], unfollowed := true, recurses := true, apart := false }
def LocksOwnSaid : Prop := locksOwnRow.holds Try.pinned (OpenSpec.ofChange locksOwnSpec)

/-- ITS FALSE NEIGHBOUR: 'it returns false'. Refute it at one input. -/
def locksOwnWrong : ChangeSpec := { name := "locksOwn", fn := fun _ => fun
  | [d1, d2, d3] => { results := [.lit (.bool false)], args := [d1, d2, d3] }
  | _ => none }
def LocksOwnWrongFalsely : Prop := locksOwnRow.holds Try.pinned (OpenSpec.ofChange locksOwnWrong)

/-- 'transeptlaw19.LocksTells': WHATEVER THE INPUT: true; the input reads as it did. -/
def locksTellsSpec : ChangeSpec := { name := "locksTells", fn := fun _ => fun
  | [d1, d2, d3, d4] => { results := [.lit (.bool true)], args := [d1, d2, d3, d4] }
  | _ => none }
def locksTellsRow : OpenClaim := { program := "ytgbdajlfbmijgaa", sum := "7fc5776fda7eeeb37fe14990b734efc934180f82f71b1e4319abe1010a697014", func := "transept/transeptlaw19.LocksTells", spec := "locksTells", inPlace := ["slices.overlaps[transept/locks.Hold]"], unfollowed := true, recurses := true, apart := false }
def LocksTellsSaid : Prop := locksTellsRow.holds Try.pinned (OpenSpec.ofChange locksTellsSpec)

/-- ITS FALSE NEIGHBOUR: 'it returns false'. Refute it at one input. -/
def locksTellsWrong : ChangeSpec := { name := "locksTells", fn := fun _ => fun
  | [d1, d2, d3, d4] => { results := [.lit (.bool false)], args := [d1, d2, d3, d4] }
  | _ => none }
def LocksTellsWrongFalsely : Prop := locksTellsRow.holds Try.pinned (OpenSpec.ofChange locksTellsWrong)

/-- 'transeptlaw19.LocksApart': WHATEVER THE INPUT: true; the input reads as it did. -/
def locksApartSpec : ChangeSpec := { name := "locksApart", fn := fun _ => fun
  | [d] => { results := [.lit (.bool true)], args := [d] }
  | _ => none }
def locksApartRow : OpenClaim := { program := "ytgbdajlfbmijgaa", sum := "7fc5776fda7eeeb37fe14990b734efc934180f82f71b1e4319abe1010a697014", func := "transept/transeptlaw19.LocksApart", spec := "locksApart", inPlace := ["slices.overlaps[transept/locks.Hold]"], unfollowed := true, recurses := true, apart := false }
def LocksApartSaid : Prop := locksApartRow.holds Try.pinned (OpenSpec.ofChange locksApartSpec)

/-- ITS FALSE NEIGHBOUR: 'it returns false'. Refute it at one input. -/
def locksApartWrong : ChangeSpec := { name := "locksApart", fn := fun _ => fun
  | [d] => { results := [.lit (.bool false)], args := [d] }
  | _ => none }
def LocksApartWrongFalsely : Prop := locksApartRow.holds Try.pinned (OpenSpec.ofChange locksApartWrong)

/-- 'transeptlaw19.LocksReaders': WHATEVER THE INPUT: true; the input reads as it did. -/
def locksReadersSpec : ChangeSpec := { name := "locksReaders", fn := fun _ => fun
  | [d1, d2] => { results := [.lit (.bool true)], args := [d1, d2] }
  | _ => none }
def locksReadersRow : OpenClaim := { program := "ytgbdajlfbmijgaa", sum := "7fc5776fda7eeeb37fe14990b734efc934180f82f71b1e4319abe1010a697014", func := "transept/transeptlaw19.LocksReaders", spec := "locksReaders", inPlace := ["slices.overlaps[transept/locks.Hold]"], unfollowed := true, recurses := true, apart := false }
def LocksReadersSaid : Prop := locksReadersRow.holds Try.pinned (OpenSpec.ofChange locksReadersSpec)

/-- ITS FALSE NEIGHBOUR: 'it returns false'. Refute it at one input. -/
def locksReadersWrong : ChangeSpec := { name := "locksReaders", fn := fun _ => fun
  | [d1, d2] => { results := [.lit (.bool false)], args := [d1, d2] }
  | _ => none }
def LocksReadersWrongFalsely : Prop := locksReadersRow.holds Try.pinned (OpenSpec.ofChange locksReadersWrong)

/- THE SECOND FORM. 'bulk': how many values and letters a reading holds, each counted each time it is reached (what is shared counts as often as it is met; a slice's spare places count too). A statement '..UptoSaid' is the law's where the arguments, and the package variables that the reading takes, are together of bulk at most 1048576: NARROWER than '..Said'. Prove '..Said' where nothing that the law and all that it calls make is longer than what came in: it says more and counts as full. Else prove '..UptoSaid'. A law counts once. -/
mutual
def uptoBulk {H : Type} : DataW H → Nat
  | .lit (.string bytes) => bytes.length + 1
  | .lit _ => 1
  | .nil => 1
  | .ptr d => uptoBulk d + 1
  | .slice elems spare => uptoBulkAll elems + uptoBulkAll spare + 1
  | .agg parts => uptoBulkAll parts + 1
  | .iface _ d => uptoBulk d + 1
  | .map entries => uptoBulkEntries entries + 1
  | .held _ => 1
def uptoBulkAll {H : Type} : List (DataW H) → Nat
  | [] => 0
  | d :: r => uptoBulk d + uptoBulkAll r
def uptoBulkEntries {H : Type} : List (Lit × DataW H) → Nat
  | [] => 0
  | x :: r => uptoBulkEntry x + uptoBulkEntries r
def uptoBulkEntry {H : Type} : Lit × DataW H → Nat
  | (.string bytes, d) => bytes.length + uptoBulk d + 1
  | (_, d) => uptoBulk d + 1
 end
def uptoSmall : (H : Type) → List (DataW H) → Bool := fun _ ds => decide (uptoBulkAll ds ≤ 1048576)
def OpenSpec.upto (s : _root_.Go.ChangeSpec) : _root_.Go.OpenSpec := { _root_.Go.OpenSpec.ofChange s with cond := some uptoSmall }

/-- 'transeptlaw19.LocksBack', WHERE WHAT IT READS IS OF BULK AT MOST 1048576: true; the input reads as it did. -/
def locksBackUptoRow : OpenClaim := { program := "ytgbdajlfbmijgaa", sum := "7fc5776fda7eeeb37fe14990b734efc934180f82f71b1e4319abe1010a697014", func := "transept/transeptlaw19.LocksBack", spec := "locksBack", inPlace := ["slices.overlaps[transept/locks.Hold]"], unfollowed := true, recurses := true, apart := false, narrowed := true }
def LocksBackUptoSaid : Prop := locksBackUptoRow.holds Try.pinned (OpenSpec.upto locksBackSpec)

/-- 'transeptlaw19.LocksOwn', WHERE WHAT IT READS IS OF BULK AT MOST 1048576: true; the input reads as it did. -/
def locksOwnUptoRow : OpenClaim := { program := "ytgbdajlfbmijgaa", sum := "7fc5776fda7eeeb37fe14990b734efc934180f82f71b1e4319abe1010a697014", func := "transept/transeptlaw19.LocksOwn", spec := "locksOwn", inPlace := ["slices.overlaps[transept/locks.Hold]"], unfollowed := true, recurses := true, apart := false, narrowed := true }
def LocksOwnUptoSaid : Prop := locksOwnUptoRow.holds Try.pinned (OpenSpec.upto locksOwnSpec)

/-- 'transeptlaw19.LocksTells', WHERE WHAT IT READS IS OF BULK AT MOST 1048576: true; the input reads as it did. -/
def locksTellsUptoRow : OpenClaim := { program := "ytgbdajlfbmijgaa", sum := "7fc5776fda7eeeb37fe14990b734efc934180f82f71b1e4319abe1010a697014", func := "transept/transeptlaw19.LocksTells", spec := "locksTells", inPlace := ["slices.overlaps[transept/locks.Hold]"], unfollowed := true, recurses := true, apart := false, narrowed := true }
def LocksTellsUptoSaid : Prop := locksTellsUptoRow.holds Try.pinned (OpenSpec.upto locksTellsSpec)

/-- 'transeptlaw19.LocksApart', WHERE WHAT IT READS IS OF BULK AT MOST 1048576: true; the input reads as it did. -/
def locksApartUptoRow : OpenClaim := { program := "ytgbdajlfbmijgaa", sum := "7fc5776fda7eeeb37fe14990b734efc934180f82f71b1e4319abe1010a697014", func := "transept/transeptlaw19.LocksApart", spec := "locksApart", inPlace := ["slices.overlaps[transept/locks.Hold]"], unfollowed := true, recurses := true, apart := false, narrowed := true }
def LocksApartUptoSaid : Prop := locksApartUptoRow.holds Try.pinned (OpenSpec.upto locksApartSpec)

/-- 'transeptlaw19.LocksReaders', WHERE WHAT IT READS IS OF BULK AT MOST 1048576: true; the input reads as it did. -/
def locksReadersUptoRow : OpenClaim := { program := "ytgbdajlfbmijgaa", sum := "7fc5776fda7eeeb37fe14990b734efc934180f82f71b1e4319abe1010a697014", func := "transept/transeptlaw19.LocksReaders", spec := "locksReaders", inPlace := ["slices.overlaps[transept/locks.Hold]"], unfollowed := true, recurses := true, apart := false, narrowed := true }
def LocksReadersUptoSaid : Prop := locksReadersUptoRow.holds Try.pinned (OpenSpec.upto locksReadersSpec)

end Rows
end Go.Proofs.Ytgbdajlfbmijgaa
