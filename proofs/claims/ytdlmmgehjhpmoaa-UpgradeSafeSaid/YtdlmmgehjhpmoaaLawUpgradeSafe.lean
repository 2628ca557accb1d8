/- UpgradeSafe: at every input the law answers true, and its arguments read as they did. No condition. (The row, out of the pure statement and the walk: written by pp.py.) -/
import Derived.Test.YtdlmmgehjhpmoaaRows
import Derived.Test.YtdlmmgehjhpmoaaPrint6
import Derived.Test.YtdlmmgehjhpmoaaStmUpgradeSafe
import Derived.Test.YtdlmmgehjhpmoaaPureUpgradeSafe
import Derived.WalkKit
import Derived.ProofKit
import Derived.OpenShut
import Derived.ShutString
import Derived.ChangeOld
import Derived.Below
import Derived.SizedLaws
namespace Go.Proofs.Ytdlmmgehjhpmoaa.upgradeSafe
open Go.ChangeShapes Go.WideShapes Go.ChangeAt Go.RowKit Go.Proofs.YtdlmmgehjhpmoaaW.PrintWords Go.Proofs.YtdlmmgehjhpmoaaW.PrintLast Go.Proofs.Ytdlmmgehjhpmoaa.Print Go.Proofs.Ytdlmmgehjhpmoaa.Op
set_option linter.unusedVariables false
theorem own : ownKnob Try.prog.godebug = none := by kernel_rfl
theorem laidOut : laidOutB Try.prog = true := by kernel_rfl
set_option maxRecDepth 100000 in
theorem lifted (os : Os) (started : os.Started) (H : Type) (enc : TypeId × Value → H) :
    ReturnsInHanded {} Try.checked os 6 .any (Rows.upgradeSafeSpec.pre6 enc Try.prog Try.f6 Rows.upgradeSafeRow.domain false) (Rows.upgradeSafeSpec.post enc Try.prog Try.f6 false true false false) := by
  refine returnsInHanded_of_change_sized (C := Try.checked) own started (by kernel_rfl) Try.func6
    (ChangeSpec.witness6 (enc := enc) (C := Try.checked) false ⟨#[], #[.int .i64 0, .slice none 0 0, .agg #[.int .i64 0, .int .i64 0, .int .i64 0, .int .i64 0, .slice none 0 0]], []⟩ 8 (by kernel_rfl) (by kernel_rfl) (by kernel_rfl) (by kernel_rfl)) ?_
  intro W base args ds gs before hval0 hW hcnd hsz0 _
  have hsz : (DataW.weightsEach Try.prog (Try.f6.params.toList ++ Rows.upgradeSafeSpec.plain.varTypes Try.prog) (ds ++ gs)).all (· ≤ reachBytes) = true := hsz0
  have hval : ∀ (j : Nat) t v, Try.f6.params[j]? = some t → args[j]? = some v → Value.okWide Try.prog W .any base t v := hval0
  have hW' := hW
  obtain ⟨p, q, hA0, hV, rfl, hfz, hnd⟩ := hW
  have hA : DataW.TrodAll enc Try.prog W 0 (fun _ => true) true Try.f6.params.toList args.toList ds p := hA0
  rw [Try.params6] at hA hval hsz
  obtain ⟨v0, vs0, d0, ds0, p0, q0, hargs, rfl, rfl, h0, r0⟩ := trodAll_cons hA
  obtain ⟨v1, vs1, d1, ds1, p1, q1, rfl, rfl, rfl, h1, r1⟩ := trodAll_cons r0
  obtain ⟨v2, vs2, d2, ds2, p2, q2, rfl, rfl, rfl, h2, r2⟩ := trodAll_cons r1
  obtain ⟨rfl, rfl, rfl⟩ := trodAll_nil r2
  obtain rfl : args = #[v0, v1, v2] := by cases args; simp_all
  obtain ⟨rfl, rfl⟩ := trodVars_none hV
  have k0 := h0
  have lt0 : ∀ x ∈ p0, x.block < W.heap.size := by obtain ⟨m, hm⟩ := k0; exact DataW.trod_lt m _ _ _ hm
  obtain ⟨a0, rfl, rfl, rfl, ok_0⟩ := open_int Try.underlying3 (hval 0 3 v0 rfl rfl) h0
  have k1 := h1
  have lt1 : ∀ x ∈ p1, x.block < W.heap.size := by obtain ⟨m, hm⟩ := k1; exact DataW.trod_lt m _ _ _ hm
  obtain ⟨l1, ⟨A1, c1, hcs1, hl1, hr1⟩, ok_1⟩ := opens_arg (opens_slice Try.underlying54 (by kernel_rfl) (by kernel_rfl) op56) hsz (j := 1) (t := 54) rfl rfl h1
  obtain rfl : v1 = .slice A1 l1.length c1 := val_slice Try.underlying54 (hval 1 54 v1 rfl rfl) hcs1
  have k2 := h2
  have lt2 : ∀ x ∈ p2, x.block < W.heap.size := by obtain ⟨m, hm⟩ := k2; exact DataW.trod_lt m _ _ _ hm
  obtain ⟨s2, hK2, ok_2⟩ := opens_arg op43 hsz (j := 2) (t := 43) rfl rfl h2
  obtain ⟨A2_4, c2_4, hcs2, hl2_4, hr2_4⟩ := k43_open hK2
  obtain rfl : v2 = .agg #[.int .i64 s2.f0, .int .i64 s2.f1, .int .i64 s2.f2, .int .i64 s2.f3, .slice A2_4 s2.f4.length c2_4] := val_agg Try.underlying43 (hval 2 43 v2 rfl rfl) hcs2
  obtain ⟨kk, hf⟩ := Pure.UpgradeSafe a0 l1 s2 ok_0 ok_1 ok_2
  refine (Print.transeptlaw23_UpgradeSafe.calls kk a0 A1 c1 l1 s2.f0 s2.f1 s2.f2 s2.f3 A2_4 c2_4 s2.f4 true W hr1 hl1 hr2_4 hl2_4 hf).mono fun e W' ⟨he, bel0⟩ => ?_
  have bel : Below W.heap.size W W' := bel0
  subst he
  exact ⟨_, rfl, _, _, _, [], _, [], hW', trodAll_mk1 (shut_bool Try.underlying4 _), (trodAll_cons_mk (Below.trod laidOut (by kernel_rfl) (of_decide_eq_true (by kernel_rfl)) k0 bel lt0) (trodAll_cons_mk (Below.trod laidOut (by kernel_rfl) (of_decide_eq_true (by kernel_rfl)) k1 bel lt1) (trodAll_cons_mk (Below.trod laidOut (by kernel_rfl) (of_decide_eq_true (by kernel_rfl)) k2 bel lt2) trodAll_mk0))), rfl, bel.frame _, fun h => by cases h⟩
theorem over : Rows.upgradeSafeRow.holds Try.pinned (OpenSpec.ofChange Rows.upgradeSafeSpec) :=
  OpenClaim.holds_of_wide 6 Try.f6 rfl rfl rfl rfl rfl rfl rfl ⟨rfl, rfl, rfl, rfl, rfl⟩ rfl rfl rfl rfl rfl (by kernel_rfl) Try.func6 (by kernel_rfl)
    (of_decide_eq_true (by kernel_rfl)) (by unfold Func.isWrapper; first | (rw [if_pos (by decide +kernel)]; kernel_rfl) | (rw [if_neg (by decide +kernel)]; exact ⟨rfl, rfl⟩))
    (fun os started H enc _ => lifted os started H enc)
theorem proved : Rows.UpgradeSafeSaid := over
#print axioms proved
end Go.Proofs.Ytdlmmgehjhpmoaa.upgradeSafe
namespace Go.Proofs.Ytdlmmgehjhpmoaa
/-- The row, under a short name, for the claim. -/
theorem upgradeSafe_holds : Rows.UpgradeSafeSaid := upgradeSafe.proved
end Go.Proofs.Ytdlmmgehjhpmoaa
