/- What is left of LocksApart: a statement on numbers and lists. Written by pp.py. -/
import Derived.Test.YtgbdajlfbmijgaaPrint12
import Derived.Test.YtgbdajlfbmijgaaOks
namespace Go.Proofs.Ytgbdajlfbmijgaa.Print
open Go.RowKit Go.Proofs.YtgbdajlfbmijgaaW.PrintWords Go.Proofs.YtgbdajlfbmijgaaW.PrintLast
def transeptlaw19_LocksApart.Pure : Prop := ∀ (l0 : List (S53)), (l0.length * 40 ≤ 140737488351232 ∧ ∀ x_ ∈ l0, ok53 x_) → ∃ k, transeptlaw19_LocksApart.f k l0 = some true
end Go.Proofs.Ytgbdajlfbmijgaa.Print
