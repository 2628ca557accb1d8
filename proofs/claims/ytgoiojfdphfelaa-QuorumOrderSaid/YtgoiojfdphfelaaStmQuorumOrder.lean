/- What is left of QuorumOrder: a statement on numbers and lists. Written by pp.py. -/
import Derived.Test.YtgoiojfdphfelaaPrint2
import Derived.Test.YtgoiojfdphfelaaOks
namespace Go.Proofs.Ytgoiojfdphfelaa.Print
open Go.RowKit Go.Proofs.YtgoiojfdphfelaaW.PrintWords Go.Proofs.YtgoiojfdphfelaaW.PrintLast
def transeptlaw14_QuorumOrder.Pure : Prop := ∀ (l0 : List Int) (l1 : List Int), (l0.length * 8 ≤ 140737488351232 ∧ ∀ x_ ∈ l0, (Lit.int .i64 x_).wf = true) → (l1.length * 8 ≤ 140737488351232 ∧ ∀ x_ ∈ l1, (Lit.int .i64 x_).wf = true) → ∃ k, transeptlaw14_QuorumOrder.f k l0 l1 = some true
end Go.Proofs.Ytgoiojfdphfelaa.Print
