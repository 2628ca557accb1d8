/- What is left of UpgradeSafe: a statement on numbers and lists. Written by pp.py. -/
import Derived.Test.YtdlmmgehjhpmoaaPrint6
import Derived.Test.YtdlmmgehjhpmoaaOks
namespace Go.Proofs.Ytdlmmgehjhpmoaa.Print
open Go.RowKit Go.Proofs.YtdlmmgehjhpmoaaW.PrintWords Go.Proofs.YtdlmmgehjhpmoaaW.PrintLast
def transeptlaw23_UpgradeSafe.Pure : Prop := ∀ (a0 : Int) (l1 : List (S56)) (s2 : S43), ((Lit.int .i64 a0).wf = true) → (l1.length * 24 ≤ 140737488351232 ∧ ∀ x_ ∈ l1, ok56 x_) → (ok43 s2) → ∃ k, transeptlaw23_UpgradeSafe.f k a0 l1 s2.f0 s2.f1 s2.f2 s2.f3 s2.f4 = some true
end Go.Proofs.Ytdlmmgehjhpmoaa.Print
