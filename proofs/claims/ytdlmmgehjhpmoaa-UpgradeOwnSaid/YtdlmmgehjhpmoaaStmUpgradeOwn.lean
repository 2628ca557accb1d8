/- What is left of UpgradeOwn: a statement on numbers and lists. Written by pp.py. -/
import Derived.Test.YtdlmmgehjhpmoaaPrint5
import Derived.Test.YtdlmmgehjhpmoaaOks
namespace Go.Proofs.Ytdlmmgehjhpmoaa.Print
open Go.RowKit Go.Proofs.YtdlmmgehjhpmoaaW.PrintWords Go.Proofs.YtdlmmgehjhpmoaaW.PrintLast
def transeptlaw23_UpgradeOwn.Pure : Prop := ∀ (s0 : S24) (a1 : Int), (ok24 s0) → ((Lit.int .i64 a1).wf = true) → ∃ k, transeptlaw23_UpgradeOwn.f k s0.f0 s0.f1 a1 = some true
end Go.Proofs.Ytdlmmgehjhpmoaa.Print
