/- What is left of QuorumShares: a statement on numbers and lists. Written by pp.py. -/
import Derived.Test.YtgoiojfdphfelaaPrint2
import Derived.Test.YtgoiojfdphfelaaOks
namespace Go.Proofs.Ytgoiojfdphfelaa.Print
open Go.RowKit Go.Proofs.YtgoiojfdphfelaaW.PrintWords Go.Proofs.YtgoiojfdphfelaaW.PrintLast
def transeptlaw14_QuorumShares.Pure : Prop := ∀ (l0 : List Bool) (l1 : List Bool), (l0.length * 1 ≤ 140737488351232 ∧ ∀ x_ ∈ l0, True) → (l1.length * 1 ≤ 140737488351232 ∧ ∀ x_ ∈ l1, True) → ∃ k, transeptlaw14_QuorumShares.f k l0 l1 = some true
end Go.Proofs.Ytgoiojfdphfelaa.Print
