/- What is left of ResolveSays: a statement on numbers and lists. Written by pp.py. -/
import Derived.Test.YtijebbbfofcocaaPrint7
import Derived.Test.YtijebbbfofcocaaOks
namespace Go.Proofs.Ytijebbbfofcocaa.Print
open Go.RowKit Go.Proofs.YtijebbbfofcocaaW.PrintWords Go.Proofs.YtijebbbfofcocaaW.PrintLast
def transeptlaw22_ResolveSays.Pure : Prop := ∀ (a0 : Bool) (a1 : Int) (l2 : List (S31)), ((Lit.int .i64 a1).wf = true) → (l2.length * 24 ≤ 140737488351232 ∧ ∀ x_ ∈ l2, ok31 x_) → ∃ k, transeptlaw22_ResolveSays.f k a0 a1 l2 = some true
end Go.Proofs.Ytijebbbfofcocaa.Print
