/- What is left of QuorumTells: a statement on numbers and lists. Written by pp.py. -/
import Derived.Test.YtgoiojfdphfelaaPrint4
import Derived.Test.YtgoiojfdphfelaaOks
namespace Go.Proofs.Ytgoiojfdphfelaa.Print
open Go.RowKit Go.Proofs.YtgoiojfdphfelaaW.PrintWords Go.Proofs.YtgoiojfdphfelaaW.PrintLast
def transeptlaw14_QuorumTells.Pure : Prop := ∀ (a0 : Int) (l1 : List Int) (a2 : Int) (a3 : Int) (l4 : List Bool), ((Lit.int .i64 a0).wf = true) → (l1.length * 8 ≤ 140737488351232 ∧ ∀ x_ ∈ l1, (Lit.int .i64 x_).wf = true) → ((Lit.int .i64 a2).wf = true) → ((Lit.int .i64 a3).wf = true) → (l4.length * 1 ≤ 140737488351232 ∧ ∀ x_ ∈ l4, True) → ∃ k, transeptlaw14_QuorumTells.f k a0 l1 a2 a3 l4 = some true
end Go.Proofs.Ytgoiojfdphfelaa.Print
