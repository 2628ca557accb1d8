/- What is left of CommandOwn: a statement on numbers and lists. Written by pp.py. -/
import Derived.Test.YtpjaebbgbmhneaaPrint8
import Derived.Test.YtpjaebbgbmhneaaOks
namespace Go.Proofs.Ytpjaebbgbmhneaa.Print
open Go.RowKit Go.Proofs.YtpjaebbgbmhneaaW.PrintWords Go.Proofs.YtpjaebbgbmhneaaW.PrintLast
def transeptlaw13_CommandOwn.Pure : Prop := ∀ (s0 : S24), (ok24 s0) → ∃ k, transeptlaw13_CommandOwn.f k s0.f0 s0.f1 s0.f2 s0.f3 s0.f4 = some true
end Go.Proofs.Ytpjaebbgbmhneaa.Print
