/- What is left of LocksReaders: a statement on numbers and lists. Written by pp.py. -/
import Derived.Test.YtgbdajlfbmijgaaPrint13
import Derived.Test.YtgbdajlfbmijgaaOks
namespace Go.Proofs.Ytgbdajlfbmijgaa.Print
open Go.RowKit Go.Proofs.YtgbdajlfbmijgaaW.PrintWords Go.Proofs.YtgbdajlfbmijgaaW.PrintLast
def transeptlaw19_LocksReaders.Pure : Prop := ∀ (a0 : ByteArray) (l1 : List Int), (a0.size ≤ 140737488351232) → (l1.length * 8 ≤ 140737488351232 ∧ ∀ x_ ∈ l1, (Lit.int .i64 x_).wf = true) → ∃ k, transeptlaw19_LocksReaders.f k a0 l1 = some true
end Go.Proofs.Ytgbdajlfbmijgaa.Print
