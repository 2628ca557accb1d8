/- What is left of CommandBack: a statement on numbers and lists. Written by pp.py. -/
import Derived.Test.YtpjaebbgbmhneaaPrint8
import Derived.Test.YtpjaebbgbmhneaaOks
namespace Go.Proofs.Ytpjaebbgbmhneaa.Print
open Go.RowKit Go.Proofs.YtpjaebbgbmhneaaW.PrintWords Go.Proofs.YtpjaebbgbmhneaaW.PrintLast
def transeptlaw13_CommandBack.Pure : Prop := ∀ (s0 : S24) (l1 : List Int), (ok24 s0) → (l1.length * 1 ≤ 140737488351232 ∧ ∀ x_ ∈ l1, (Lit.int .u8 x_).wf = true) → ∃ k, transeptlaw13_CommandBack.f k s0.f0 s0.f1 s0.f2 s0.f3 s0.f4 l1 = some true
end Go.Proofs.Ytpjaebbgbmhneaa.Print
