/- Pruned by prune.py, a program of this project, out of what the print and its words (or this project) wrote: what this claim does not reach is struck. -/
import Derived.Test.YtdlmmgehjhpmoaaPrint0
import Derived.Test.YtdlmmgehjhpmoaaOpen
namespace Go.Proofs.Ytdlmmgehjhpmoaa.Print
open Go.RowKit Go.Proofs.YtdlmmgehjhpmoaaW.PrintWords Go.Proofs.YtdlmmgehjhpmoaaW.PrintLast Go.Proofs.Ytdlmmgehjhpmoaa.Op
set_option linter.unusedSimpArgs false
def ok24 (x : S24) : Prop := (x.f0.length * 8 ≤ 140737488351232 ∧ ∀ x_ ∈ x.f0, (Lit.int .i64 x_).wf = true) ∧ (True)
theorem op24 : Opens Try.prog 24 k24 ok24 := opens_imp (opens_struct (f := fun x : S24 => (x.f0, x.f1)) (fun y => (⟨y.1, y.2⟩ : S24)) (fun _ => rfl) Try.underlying24 (by kernel_rfl) (fields_cons (by kernel_rfl) (opens_slice Try.underlying22 (by kernel_rfl) (by kernel_rfl) (opens_int Try.underlying3)) (fields_one (by kernel_rfl) (opens_bool Try.underlying4)))) (fun x h => by simpa [ok24, and_assoc] using h)
def ok77 (x : S77) : Prop := ((Lit.int .i64 x.f0).wf = true) ∧ (x.f1.size ≤ 140737488351232) ∧ (x.f2.size ≤ 140737488351232)
theorem op77 : Opens Try.prog 77 k77 ok77 := opens_imp (opens_struct (f := fun x : S77 => (x.f0, x.f1, x.f2)) (fun y => (⟨y.1, y.2.1, y.2.2⟩ : S77)) (fun _ => rfl) Try.underlying77 (by kernel_rfl) (fields_cons (by kernel_rfl) (opens_int Try.underlying3) (fields_cons (by kernel_rfl) (opens_string Try.underlying9) (fields_one (by kernel_rfl) (opens_string Try.underlying9))))) (fun x h => by simpa [ok77, and_assoc] using h)
def ok43 (x : S43) : Prop := ((Lit.int .i64 x.f0).wf = true) ∧ ((Lit.int .i64 x.f1).wf = true) ∧ ((Lit.int .i64 x.f2).wf = true) ∧ ((Lit.int .i64 x.f3).wf = true) ∧ (x.f4.length * 40 ≤ 140737488351232 ∧ ∀ x_ ∈ x.f4, ok77 x_)
theorem op43 : Opens Try.prog 43 k43 ok43 := opens_imp (opens_struct (f := fun x : S43 => (x.f0, x.f1, x.f2, x.f3, x.f4)) (fun y => (⟨y.1, y.2.1, y.2.2.1, y.2.2.2.1, y.2.2.2.2⟩ : S43)) (fun _ => rfl) Try.underlying43 (by kernel_rfl) (fields_cons (by kernel_rfl) (opens_int Try.underlying3) (fields_cons (by kernel_rfl) (opens_int Try.underlying3) (fields_cons (by kernel_rfl) (opens_int Try.underlying3) (fields_cons (by kernel_rfl) (opens_int Try.underlying3) (fields_one (by kernel_rfl) (opens_slice Try.underlying41 (by kernel_rfl) (by kernel_rfl) op77))))))) (fun x h => by simpa [ok43, and_assoc] using h)
end Go.Proofs.Ytdlmmgehjhpmoaa.Print
