/- Pruned by prune.py, a program of this project, out of what the print and its words (or this project) wrote: what this claim does not reach is struck. -/
import Derived.Test.YtdlmmgehjhpmoaaPrint13
import Derived.Test.YtdlmmgehjhpmoaaOks
namespace Go.Proofs.Ytdlmmgehjhpmoaa.Print
open Go.RowKit Go.Proofs.YtdlmmgehjhpmoaaW.PrintWords Go.Proofs.YtdlmmgehjhpmoaaW.PrintLast
def transeptlaw23_UpgradeTells.Pure : Prop := ∀ (s0 : S24) (a1 : Int) (a2 : Int) (a3 : Int) (s4 : S43), (ok24 s0) → ((Lit.int .i64 a1).wf = true) → ((Lit.int .i64 a2).wf = true) → ((Lit.int .i64 a3).wf = true) → (ok43 s4) → ∃ k, transeptlaw23_UpgradeTells.f k s0.f0 s0.f1 a1 a2 a3 s4.f0 s4.f1 s4.f2 s4.f3 s4.f4 = some true
end Go.Proofs.Ytdlmmgehjhpmoaa.Print
