/- What is left of CommandTells: a statement on numbers and lists. Written by pp.py. -/
import Derived.Test.YtpjaebbgbmhneaaPrint15
import Derived.Test.YtpjaebbgbmhneaaOks
namespace Go.Proofs.Ytpjaebbgbmhneaa.Print
open Go.RowKit Go.Proofs.YtpjaebbgbmhneaaW.PrintWords Go.Proofs.YtpjaebbgbmhneaaW.PrintLast
def transeptlaw13_CommandTells.Pure : Prop := ∀ (s0 : S24) (a1 : Int) (l2 : List Int), (ok24 s0) → ((Lit.int .i64 a1).wf = true) → (l2.length * 1 ≤ 140737488351232 ∧ ∀ x_ ∈ l2, (Lit.int .u8 x_).wf = true) → ∃ k, transeptlaw13_CommandTells.f k s0.f0 s0.f1 s0.f2 s0.f3 s0.f4 a1 l2 = some true
end Go.Proofs.Ytpjaebbgbmhneaa.Print
