/- What the laws' arguments read as, type by type. Written by pp.py. -/
import Derived.Test.YtijebbbfofcocaaPrint0
import Derived.Test.YtijebbbfofcocaaOpen
namespace Go.Proofs.Ytijebbbfofcocaa.Print
open Go.RowKit Go.Proofs.YtijebbbfofcocaaW.PrintWords Go.Proofs.YtijebbbfofcocaaW.PrintLast Go.Proofs.Ytijebbbfofcocaa.Op
set_option linter.unusedSimpArgs false
def ok31 (x : S31) : Prop := ((Lit.int .i64 x.f0).wf = true) ∧ (True) ∧ ((Lit.int .i64 x.f2).wf = true)
theorem op31 : Opens Try.prog 31 k31 ok31 := opens_imp (opens_struct (f := fun x : S31 => (x.f0, x.f1, x.f2)) (fun y => (⟨y.1, y.2.1, y.2.2⟩ : S31)) (fun _ => rfl) Try.underlying31 (by kernel_rfl) (fields_cons (by kernel_rfl) (opens_int Try.underlying3) (fields_cons (by kernel_rfl) (opens_bool Try.underlying4) (fields_one (by kernel_rfl) (opens_int Try.underlying3))))) (fun x h => by simpa [ok31, and_assoc] using h)
end Go.Proofs.Ytijebbbfofcocaa.Print
