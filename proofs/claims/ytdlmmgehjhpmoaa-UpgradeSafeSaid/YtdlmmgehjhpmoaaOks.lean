/- What the laws' arguments read as, type by type. Written by pp.py. -/
import Derived.Test.YtdlmmgehjhpmoaaPrint0
import Derived.Test.YtdlmmgehjhpmoaaOpen
namespace Go.Proofs.Ytdlmmgehjhpmoaa.Print
open Go.RowKit Go.Proofs.YtdlmmgehjhpmoaaW.PrintWords Go.Proofs.YtdlmmgehjhpmoaaW.PrintLast Go.Proofs.Ytdlmmgehjhpmoaa.Op
set_option linter.unusedSimpArgs false
def ok56 (x : S56) : Prop := ((Lit.int .i64 x.f0).wf = true) ∧ ((Lit.int .i64 x.f1).wf = true) ∧ ((Lit.int .i64 x.f2).wf = true)
theorem op56 : Opens Try.prog 56 k56 ok56 := opens_imp (opens_struct (f := fun x : S56 => (x.f0, x.f1, x.f2)) (fun y => (⟨y.1, y.2.1, y.2.2⟩ : S56)) (fun _ => rfl) Try.underlying56 (by kernel_rfl) (fields_cons (by kernel_rfl) (opens_int Try.underlying3) (fields_cons (by kernel_rfl) (opens_int Try.underlying3) (fields_one (by kernel_rfl) (opens_int Try.underlying3))))) (fun x h => by simpa [ok56, and_assoc] using h)
def ok77 (x : S77) : Prop := ((Lit.int .i64 x.f0).wf = true) ∧ (x.f1.size ≤ 140737488351232) ∧ (x.f2.size ≤ 140737488351232)
theorem op77 : Opens Try.prog 77 k77 ok77 := opens_imp (opens_struct (f := fun x : S77 => (x.f0, x.f1, x.f2)) (fun y => (⟨y.1, y.2.1, y.2.2⟩ : S77)) (fun _ => rfl) Try.underlying77 (by kernel_rfl) (fields_cons (by kernel_rfl) (opens_int Try.underlying3) (fields_cons (by kernel_rfl) (opens_string Try.underlying9) (fields_one (by kernel_rfl) (opens_string Try.underlying9))))) (fun x h => by simpa [ok77, and_assoc] using h)
def ok43 (x : S43) : Prop := ((Lit.int .i64 x.f0).wf = true) ∧ ((Lit.int .i64 x.f1).wf = true) ∧ ((Lit.int .i64 x.f2).wf = true) ∧ ((Lit.int .i64 x.f3).wf = true) ∧ (x.f4.length * 40 ≤ 140737488351232 ∧ ∀ x_ ∈ x.f4, ok77 x_)
theorem op43 : Opens Try.prog 43 k43 ok43 := opens_imp (opens_struct (f := fun x : S43 => (x.f0, x.f1, x.f2, x.f3, x.f4)) (fun y => (⟨y.1, y.2.1, y.2.2.1, y.2.2.2.1, y.2.2.2.2⟩ : S43)) (fun _ => rfl) Try.underlying43 (by kernel_rfl) (fields_cons (by kernel_rfl) (opens_int Try.underlying3) (fields_cons (by kernel_rfl) (opens_int Try.underlying3) (fields_cons (by kernel_rfl) (opens_int Try.underlying3) (fields_cons (by kernel_rfl) (opens_int Try.underlying3) (fields_one (by kernel_rfl) (opens_slice Try.underlying41 (by kernel_rfl) (by kernel_rfl) op77))))))) (fun x h => by simpa [ok43, and_assoc] using h)
end Go.Proofs.Ytdlmmgehjhpmoaa.Print
