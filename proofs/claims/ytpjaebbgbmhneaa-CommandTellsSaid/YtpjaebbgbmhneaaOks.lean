/- What the laws' arguments read as, type by type. Written by pp.py. -/
import Derived.Test.YtpjaebbgbmhneaaPrint0
import Derived.Test.YtpjaebbgbmhneaaOpen
namespace Go.Proofs.Ytpjaebbgbmhneaa.Print
open Go.RowKit Go.Proofs.YtpjaebbgbmhneaaW.PrintWords Go.Proofs.YtpjaebbgbmhneaaW.PrintLast Go.Proofs.Ytpjaebbgbmhneaa.Op
set_option linter.unusedSimpArgs false
def ok48 (x : S48) : Prop := ((Lit.int .i64 x.f0).wf = true) ∧ (x.f1.size ≤ 140737488351232) ∧ (x.f2.size ≤ 140737488351232)
theorem op48 : Opens Try.prog 48 k48 ok48 := opens_imp (opens_struct (f := fun x : S48 => (x.f0, x.f1, x.f2)) (fun y => (⟨y.1, y.2.1, y.2.2⟩ : S48)) (fun _ => rfl) Try.underlying48 (by kernel_rfl) (fields_cons (by kernel_rfl) (opens_int Try.underlying3) (fields_cons (by kernel_rfl) (opens_string Try.underlying9) (fields_one (by kernel_rfl) (opens_string Try.underlying9))))) (fun x h => by simpa [ok48, and_assoc] using h)
def ok24 (x : S24) : Prop := ((Lit.int .i64 x.f0).wf = true) ∧ ((Lit.int .i64 x.f1).wf = true) ∧ ((Lit.int .i64 x.f2).wf = true) ∧ ((Lit.int .i64 x.f3).wf = true) ∧ (x.f4.length * 40 ≤ 140737488351232 ∧ ∀ x_ ∈ x.f4, ok48 x_)
theorem op24 : Opens Try.prog 24 k24 ok24 := opens_imp (opens_struct (f := fun x : S24 => (x.f0, x.f1, x.f2, x.f3, x.f4)) (fun y => (⟨y.1, y.2.1, y.2.2.1, y.2.2.2.1, y.2.2.2.2⟩ : S24)) (fun _ => rfl) Try.underlying24 (by kernel_rfl) (fields_cons (by kernel_rfl) (opens_int Try.underlying3) (fields_cons (by kernel_rfl) (opens_int Try.underlying3) (fields_cons (by kernel_rfl) (opens_int Try.underlying3) (fields_cons (by kernel_rfl) (opens_int Try.underlying3) (fields_one (by kernel_rfl) (opens_slice Try.underlying22 (by kernel_rfl) (by kernel_rfl) op48))))))) (fun x h => by simpa [ok24, and_assoc] using h)
end Go.Proofs.Ytpjaebbgbmhneaa.Print
