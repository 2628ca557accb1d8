/- What is left of LocksOwn: a statement on numbers and lists. Written by pp.py. -/
import Derived.Test.YtgbdajlfbmijgaaPrint9
import Derived.Test.YtgbdajlfbmijgaaOks
namespace Go.Proofs.Ytgbdajlfbmijgaa.Print
open Go.RowKit Go.Proofs.YtgbdajlfbmijgaaW.PrintWords Go.Proofs.YtgbdajlfbmijgaaW.PrintLast
def transeptlaw19_LocksOwn.Pure : Prop := ∀ (l0 : List (S56)) (a1 : Int) (a2 : ByteArray), (l0.length * 32 ≤ 140737488351232 ∧ ∀ x_ ∈ l0, ok56 x_) → ((Lit.int .i64 a1).wf = true) → (a2.size ≤ 140737488351232) → ∃ k, transeptlaw19_LocksOwn.f k l0 a1 a2 = some true
end Go.Proofs.Ytgbdajlfbmijgaa.Print
