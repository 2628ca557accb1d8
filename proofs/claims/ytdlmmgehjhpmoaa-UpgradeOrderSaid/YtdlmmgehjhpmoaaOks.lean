/- What the laws' arguments read as, type by type. Written by pp.py. -/
import Derived.Test.YtdlmmgehjhpmoaaPrint0
import Derived.Test.YtdlmmgehjhpmoaaOpen
namespace Go.Proofs.Ytdlmmgehjhpmoaa.Print
open Go.RowKit Go.Proofs.YtdlmmgehjhpmoaaW.PrintWords Go.Proofs.YtdlmmgehjhpmoaaW.PrintLast Go.Proofs.Ytdlmmgehjhpmoaa.Op
set_option linter.unusedSimpArgs false
def ok24 (x : S24) : Prop := (x.f0.length * 8 ≤ 140737488351232 ∧ ∀ x_ ∈ x.f0, (Lit.int .i64 x_).wf = true) ∧ (True)
theorem op24 : Opens Try.prog 24 k24 ok24 := opens_imp (opens_struct (f := fun x : S24 => (x.f0, x.f1)) (fun y => (⟨y.1, y.2⟩ : S24)) (fun _ => rfl) Try.underlying24 (by kernel_rfl) (fields_cons (by kernel_rfl) (opens_slice Try.underlying22 (by kernel_rfl) (by kernel_rfl) (opens_int Try.underlying3)) (fields_one (by kernel_rfl) (opens_bool Try.underlying4)))) (fun x h => by simpa [ok24, and_assoc] using h)
end Go.Proofs.Ytdlmmgehjhpmoaa.Print
