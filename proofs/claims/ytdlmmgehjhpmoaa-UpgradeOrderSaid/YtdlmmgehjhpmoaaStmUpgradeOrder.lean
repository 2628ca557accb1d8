/- What is left of UpgradeOrder: a statement on numbers and lists. Written by pp.py. -/
import Derived.Test.YtdlmmgehjhpmoaaPrint6
import Derived.Test.YtdlmmgehjhpmoaaOks
namespace Go.Proofs.Ytdlmmgehjhpmoaa.Print
open Go.RowKit Go.Proofs.YtdlmmgehjhpmoaaW.PrintWords Go.Proofs.YtdlmmgehjhpmoaaW.PrintLast
def transeptlaw23_UpgradeOrder.Pure : Prop := ∀ (a0 : Int) (l1 : List Int), ((Lit.int .i64 a0).wf = true) → (l1.length * 8 ≤ 140737488351232 ∧ ∀ x_ ∈ l1, (Lit.int .i64 x_).wf = true) → ∃ k, transeptlaw23_UpgradeOrder.f k a0 l1 = some true
end Go.Proofs.Ytdlmmgehjhpmoaa.Print
