/- What is left of LocksBack: a statement on numbers and lists. Written by pp.py. -/
import Derived.Test.YtgbdajlfbmijgaaPrint6
import Derived.Test.YtgbdajlfbmijgaaOks
namespace Go.Proofs.Ytgbdajlfbmijgaa.Print
open Go.RowKit Go.Proofs.YtgbdajlfbmijgaaW.PrintWords Go.Proofs.YtgbdajlfbmijgaaW.PrintLast
def transeptlaw19_LocksBack.Pure : Prop := ∀ (l0 : List (S56)) (a1 : Int) (l2 : List ByteArray) (a3 : Bool), (l0.length * 32 ≤ 140737488351232 ∧ ∀ x_ ∈ l0, ok56 x_) → ((Lit.int .i64 a1).wf = true) → (l2.length * 16 ≤ 140737488351232 ∧ ∀ x_ ∈ l2, x_.size ≤ 140737488351232) → ∃ k, transeptlaw19_LocksBack.f k l0 a1 l2 a3 = some true
end Go.Proofs.Ytgbdajlfbmijgaa.Print
