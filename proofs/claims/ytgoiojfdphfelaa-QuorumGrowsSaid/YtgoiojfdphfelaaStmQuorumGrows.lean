/- What is left of QuorumGrows: a statement on numbers and lists. Written by pp.py. -/
import Derived.Test.YtgoiojfdphfelaaPrint2
import Derived.Test.YtgoiojfdphfelaaOks
namespace Go.Proofs.Ytgoiojfdphfelaa.Print
open Go.RowKit Go.Proofs.YtgoiojfdphfelaaW.PrintWords Go.Proofs.YtgoiojfdphfelaaW.PrintLast
def transeptlaw14_QuorumGrows.Pure : Prop := ∀ (l0 : List Int) (a1 : Int) (a2 : Int) (a3 : Int) (a4 : Int), (l0.length * 8 ≤ 140737488351232 ∧ ∀ x_ ∈ l0, (Lit.int .i64 x_).wf = true) → ((Lit.int .i64 a1).wf = true) → ((Lit.int .i64 a2).wf = true) → ((Lit.int .i64 a3).wf = true) → ((Lit.int .i64 a4).wf = true) → ∃ k, transeptlaw14_QuorumGrows.f k l0 a1 a2 a3 a4 = some true
end Go.Proofs.Ytgoiojfdphfelaa.Print
