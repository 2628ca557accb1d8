/- What is left of CommandCut: a statement on numbers and lists. Written by pp.py. -/
import Derived.Test.YtpjaebbgbmhneaaPrint6
import Derived.Test.YtpjaebbgbmhneaaOks
namespace Go.Proofs.Ytpjaebbgbmhneaa.Print
open Go.RowKit Go.Proofs.YtpjaebbgbmhneaaW.PrintWords Go.Proofs.YtpjaebbgbmhneaaW.PrintLast
def transeptlaw13_CommandCut.Pure : Prop := ∀ (s0 : S24) (a1 : Int) (a2 : Int), (ok24 s0) → ((Lit.int .i64 a1).wf = true) → ((Lit.int .i64 a2).wf = true) → ∃ k, transeptlaw13_CommandCut.f k s0.f0 s0.f1 s0.f2 s0.f3 s0.f4 a1 a2 = some true
end Go.Proofs.Ytpjaebbgbmhneaa.Print
