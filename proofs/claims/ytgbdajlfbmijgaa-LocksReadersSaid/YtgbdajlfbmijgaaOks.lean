/- What the laws' arguments read as, type by type. Written by pp.py. -/
import Derived.Test.YtgbdajlfbmijgaaPrint0
import Derived.Test.YtgbdajlfbmijgaaOpen
namespace Go.Proofs.Ytgbdajlfbmijgaa.Print
open Go.RowKit Go.Proofs.YtgbdajlfbmijgaaW.PrintWords Go.Proofs.YtgbdajlfbmijgaaW.PrintLast Go.Proofs.Ytgbdajlfbmijgaa.Op
set_option linter.unusedSimpArgs false
def ok56 (x : S56) : Prop := (x.f0.size ≤ 140737488351232) ∧ ((Lit.int .i64 x.f1).wf = true) ∧ (True)
theorem op56 : Opens Try.prog 56 k56 ok56 := opens_imp (opens_struct (f := fun x : S56 => (x.f0, x.f1, x.f2)) (fun y => (⟨y.1, y.2.1, y.2.2⟩ : S56)) (fun _ => rfl) Try.underlying56 (by kernel_rfl) (fields_cons (by kernel_rfl) (opens_string Try.underlying9) (fields_cons (by kernel_rfl) (opens_int Try.underlying3) (fields_one (by kernel_rfl) (opens_bool Try.underlying4))))) (fun x h => by simpa [ok56, and_assoc] using h)
def ok53 (x : S53) : Prop := ((Lit.int .i64 x.f0).wf = true) ∧ ((Lit.int .i64 x.f1).wf = true) ∧ (x.f2.size ≤ 140737488351232) ∧ (True)
theorem op53 : Opens Try.prog 53 k53 ok53 := opens_imp (opens_struct (f := fun x : S53 => (x.f0, x.f1, x.f2, x.f3)) (fun y => (⟨y.1, y.2.1, y.2.2.1, y.2.2.2⟩ : S53)) (fun _ => rfl) Try.underlying53 (by kernel_rfl) (fields_cons (by kernel_rfl) (opens_int Try.underlying3) (fields_cons (by kernel_rfl) (opens_int Try.underlying3) (fields_cons (by kernel_rfl) (opens_string Try.underlying9) (fields_one (by kernel_rfl) (opens_bool Try.underlying4)))))) (fun x h => by simpa [ok53, and_assoc] using h)
end Go.Proofs.Ytgbdajlfbmijgaa.Print
