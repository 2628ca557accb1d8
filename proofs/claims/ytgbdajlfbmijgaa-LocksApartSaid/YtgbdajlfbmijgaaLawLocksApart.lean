/- LocksApart: at every input the law answers true, and its arguments read as they did. No condition. (The row, out of the pure statement and the walk: written by pp.py.) -/
import Derived.Test.YtgbdajlfbmijgaaRows
import Derived.Test.YtgbdajlfbmijgaaPrint12
import Derived.Test.YtgbdajlfbmijgaaStmLocksApart
import Derived.Test.YtgbdajlfbmijgaaPureLocksApart
import Derived.WalkKit
import Derived.ProofKit
import Derived.OpenShut
import Derived.ShutString
import Derived.ChangeOld
import Derived.Below
import Derived.SizedLaws
namespace Go.Proofs.Ytgbdajlfbmijgaa.locksApart
open Go.ChangeShapes Go.WideShapes Go.ChangeAt Go.RowKit Go.Proofs.YtgbdajlfbmijgaaW.PrintWords Go.Proofs.YtgbdajlfbmijgaaW.PrintLast Go.Proofs.Ytgbdajlfbmijgaa.Print Go.Proofs.Ytgbdajlfbmijgaa.Op
set_option linter.unusedVariables false
theorem own : ownKnob Try.prog.godebug = none := by kernel_rfl
theorem laidOut : laidOutB Try.prog = true := by kernel_rfl
set_option maxRecDepth 100000 in
theorem lifted (os : Os) (started : os.Started) (H : Type) (enc : TypeId × Value → H) :
    ReturnsInHanded {} Try.checked os 6 .any (Rows.locksApartSpec.pre6 enc Try.prog Try.f6 Rows.locksApartRow.domain false) (Rows.locksApartSpec.post enc Try.prog Try.f6 false true false false) := by
  refine returnsInHanded_of_change_sized (C := Try.checked) own started (by kernel_rfl) Try.func6
    (ChangeSpec.witness6 (enc := enc) (C := Try.checked) false ⟨#[], #[.slice none 0 0], []⟩ 8 (by kernel_rfl) (by kernel_rfl) (by kernel_rfl) (by kernel_rfl)) ?_
  intro W base args ds gs before hval0 hW hcnd hsz0 _
  have hsz : (DataW.weightsEach Try.prog (Try.f6.params.toList ++ Rows.locksApartSpec.plain.varTypes Try.prog) (ds ++ gs)).all (· ≤ reachBytes) = true := hsz0
  have hval : ∀ (j : Nat) t v, Try.f6.params[j]? = some t → args[j]? = some v → Value.okWide Try.prog W .any base t v := hval0
  have hW' := hW
  obtain ⟨p, q, hA0, hV, rfl, hfz, hnd⟩ := hW
  have hA : DataW.TrodAll enc Try.prog W 0 (fun _ => true) true Try.f6.params.toList args.toList ds p := hA0
  rw [Try.params6] at hA hval hsz
  obtain ⟨v0, vs0, d0, ds0, p0, q0, hargs, rfl, rfl, h0, r0⟩ := trodAll_cons hA
  obtain ⟨rfl, rfl, rfl⟩ := trodAll_nil r0
  obtain rfl : args = #[v0] := by cases args; simp_all
  obtain ⟨rfl, rfl⟩ := trodVars_none hV
  have k0 := h0
  have lt0 : ∀ x ∈ p0, x.block < W.heap.size := by obtain ⟨m, hm⟩ := k0; exact DataW.trod_lt m _ _ _ hm
  obtain ⟨l0, ⟨A0, c0, hcs0, hl0, hr0⟩, ok_0⟩ := opens_arg (opens_slice Try.underlying51 (by kernel_rfl) (by kernel_rfl) op53) hsz (j := 0) (t := 51) rfl rfl h0
  obtain rfl : v0 = .slice A0 l0.length c0 := val_slice Try.underlying51 (hval 0 51 v0 rfl rfl) hcs0
  obtain ⟨kk, hf⟩ := Pure.LocksApart l0 ok_0
  refine (Print.transeptlaw19_LocksApart.calls kk A0 c0 l0 true W hr0 hl0 hf).mono fun e W' ⟨he, bel0⟩ => ?_
  have bel : Below W.heap.size W W' := bel0
  subst he
  exact ⟨_, rfl, _, _, _, [], _, [], hW', trodAll_mk1 (shut_bool Try.underlying4 _), (trodAll_cons_mk (Below.trod laidOut (by kernel_rfl) (of_decide_eq_true (by kernel_rfl)) k0 bel lt0) trodAll_mk0), rfl, bel.frame _, fun h => by cases h⟩
theorem over : Rows.locksApartRow.holds Try.pinned (OpenSpec.ofChange Rows.locksApartSpec) :=
  OpenClaim.holds_of_wide 6 Try.f6 rfl rfl rfl rfl rfl rfl rfl ⟨rfl, rfl, rfl, rfl, rfl⟩ rfl rfl rfl rfl rfl (by kernel_rfl) Try.func6 (by kernel_rfl)
    (of_decide_eq_true (by kernel_rfl)) (by unfold Func.isWrapper; first | (rw [if_pos (by decide +kernel)]; kernel_rfl) | (rw [if_neg (by decide +kernel)]; exact ⟨rfl, rfl⟩))
    (fun os started H enc _ => lifted os started H enc)
theorem proved : Rows.LocksApartSaid := over
#print axioms proved
end Go.Proofs.Ytgbdajlfbmijgaa.locksApart
namespace Go.Proofs.Ytgbdajlfbmijgaa
/-- The row, under a short name, for the claim. -/
theorem locksApart_holds : Rows.LocksApartSaid := locksApart.proved
end Go.Proofs.Ytgbdajlfbmijgaa
