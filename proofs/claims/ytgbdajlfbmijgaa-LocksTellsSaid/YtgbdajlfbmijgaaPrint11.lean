/- Written by pp.py, a program of this project that runs the kit's print over the translation, with functions proved by hand put in. Lean checks it. -/
import Derived.Test.YtgbdajlfbmijgaaPrint0
import Derived.Test.YtgbdajlfbmijgaaPrint3
import Derived.Test.YtgbdajlfbmijgaaPrint4
import Derived.Test.YtgbdajlfbmijgaaPrint5
import Derived.Test.YtgbdajlfbmijgaaPrint7
import Derived.Test.YtgbdajlfbmijgaaPrint8
import Derived.Test.YtgbdajlfbmijgaaPrint9
import Derived.Test.YtgbdajlfbmijgaaPrint10
namespace Go.Proofs.Ytgbdajlfbmijgaa.Print
open Go.RowKit Go.Proofs.YtgbdajlfbmijgaaW.PrintWords Go.Proofs.YtgbdajlfbmijgaaW.PrintLast Go.Proofs.YtgbdajlfbmijgaaW.PrintMore
attribute [local go_sem] max2_int min2_int max_two min_two max_three min_three max_four min_four   -- for this text's walks alone
set_option linter.unusedVariables false
set_option linter.unusedSimpArgs false

/-! ### transeptlaw19_LocksTells: function 5 -/
def transeptlaw19_LocksTells.j0 : Nat → List (S56) → List (S34) → Bool → Option (Bool)
  | 0, _, _, _ => none
  | k + 1, x0, x9, x115 => if x115 = true then (none) else ((locks_Check.f x9).bind fun t294 => ((transeptlaw19_num.f t294).bind fun t295 => ((transeptref19_Check.f k x0).bind fun t296 => (if t295 = t296 then ((transeptlaw19_Alike.f k x9 x0).bind fun t297 => (if t297 = 0 then ((transeptlaw19_alive.f).bind fun t298 => (some t298)) else (none))) else (none)))))
def transeptlaw19_LocksTells.f (k : Nat) (l0 : List (S56)) (a1 : Int) (a2 : ByteArray) (a3 : Bool) : Option (Bool) := (transeptlaw19_Of.f k l0).bind fun t257 => ((locks_Acquire.f t257 a1 a2 a3).bind fun bt260 => ((transeptref19_Acquire.f k l0 a1 a2 a3).bind fun bt264 => ((locks_Release.f t257 a1).bind fun bt268 => ((transeptref19_Release.f k l0 a1).bind fun bt273 => ((locks_Held.f k t257 a2).bind fun bt278 => ((transeptref19_Held.f k l0 a2).bind fun bt283 => ((transeptlaw19_Alike.f k bt260.1 bt264.1).bind fun t288 => (if t288 = 0 then ((transeptlaw19_num.f bt260.2).bind fun t289 => (if t289 = bt264.2 then ((transeptlaw19_Alike.f k bt268.1 bt273.1).bind fun t290 => (if t290 = 0 then (if bt268.2.1 = bt273.2.1 then ((transeptlaw19_num.f bt268.2.2).bind fun t291 => (if t291 = bt273.2.2 then ((transeptplain_SameInts.f k bt278.1 bt283.1).bind fun t292 => (if t292 = true then (if (bt278.2.1 != bt283.2.1) = true then (none) else ((transeptlaw19_num.f bt278.2.2).bind fun t293 => (transeptlaw19_LocksTells.j0 k l0 t257 (t293 != bt283.2.2)))) else (none))) else (none))) else (none)) else (none))) else (none))) else (none)))))))))
theorem transeptlaw19_LocksTells.mono_l : ∀ k, (∀ y0 y1 y2, LeO (transeptlaw19_LocksTells.j0 k y0 y1 y2) (transeptlaw19_LocksTells.j0 (k + 1) y0 y1 y2))
  | 0 => fun _ _ _ r h => by simp [transeptlaw19_LocksTells.j0] at h
  | k + 1 => by
    have ih0 := transeptlaw19_LocksTells.mono_l k
    · intro y0 y1 y2
      unfold transeptlaw19_LocksTells.j0
      repeat' first
      | (with_reducible exact ih0 _ _ _)
      | (with_reducible exact locks_Held.mono _ _ _)
      | (with_reducible exact transeptlaw19_Alike.mono _ _ _)
      | (with_reducible exact transeptlaw19_Of.mono _ _)
      | (with_reducible exact transeptplain_SameInts.mono _ _ _)
      | (with_reducible exact transeptref19_Acquire.mono _ _ _ _ _)
      | (with_reducible exact transeptref19_Check.mono _ _)
      | (with_reducible exact transeptref19_Held.mono _ _ _)
      | (with_reducible exact transeptref19_Release.mono _ _ _)
      | (with_reducible exact LeO.refl _)
      | (with_reducible exact LeO.none _)
      | (with_reducible refine LeO.ite ?_ ?_)
      | (with_reducible refine LeO.bind ?_ (fun _ => ?_))
      | exact ih0 _ _ _
      | exact locks_Held.mono _ _ _
      | exact transeptlaw19_Alike.mono _ _ _
      | exact transeptlaw19_Of.mono _ _
      | exact transeptplain_SameInts.mono _ _ _
      | exact transeptref19_Acquire.mono _ _ _ _ _
      | exact transeptref19_Check.mono _ _
      | exact transeptref19_Held.mono _ _ _
      | exact transeptref19_Release.mono _ _ _
      | exact LeO.none _
      | refine LeO.ite ?_ ?_
      | refine LeO.bind ?_ (fun _ => ?_)
theorem transeptlaw19_LocksTells.mono : ∀ a0 a1 a2 a3 k, LeO (transeptlaw19_LocksTells.f k a0 a1 a2 a3) (transeptlaw19_LocksTells.f (k + 1) a0 a1 a2 a3) := by
  intro a0 a1 a2 a3 k
  have ih0 := transeptlaw19_LocksTells.mono_l k
  unfold transeptlaw19_LocksTells.f
  repeat' first
      | (with_reducible exact ih0 _ _ _)
      | (with_reducible exact locks_Held.mono _ _ _)
      | (with_reducible exact transeptlaw19_Alike.mono _ _ _)
      | (with_reducible exact transeptlaw19_Of.mono _ _)
      | (with_reducible exact transeptplain_SameInts.mono _ _ _)
      | (with_reducible exact transeptref19_Acquire.mono _ _ _ _ _)
      | (with_reducible exact transeptref19_Check.mono _ _)
      | (with_reducible exact transeptref19_Held.mono _ _ _)
      | (with_reducible exact transeptref19_Release.mono _ _ _)
      | (with_reducible exact LeO.refl _)
      | (with_reducible exact LeO.none _)
      | (with_reducible refine LeO.ite ?_ ?_)
      | (with_reducible refine LeO.bind ?_ (fun _ => ?_))
      | exact ih0 _ _ _
      | exact locks_Held.mono _ _ _
      | exact transeptlaw19_Alike.mono _ _ _
      | exact transeptlaw19_Of.mono _ _
      | exact transeptplain_SameInts.mono _ _ _
      | exact transeptref19_Acquire.mono _ _ _ _ _
      | exact transeptref19_Check.mono _ _
      | exact transeptref19_Held.mono _ _ _
      | exact transeptref19_Release.mono _ _ _
      | exact LeO.none _
      | refine LeO.ite ?_ ?_
      | refine LeO.bind ?_ (fun _ => ?_)
set_option maxHeartbeats 8000000 in
set_option maxRecDepth 100000 in
theorem transeptlaw19_LocksTells.calls (k : Nat) (A0 : Option Addr) (c0 : Nat) (l0 : List (S56)) (a1 : Int) (a2 : ByteArray) (a3 : Bool) (r : Bool) (w : World) (hr0 : Kd.C k56 w A0 l0.length l0) (hc0 : l0.length ≤ c0) (h : transeptlaw19_LocksTells.f k l0 a1 a2 a3 = some r) :
    Calls Try.prog 5 #[.slice A0 l0.length c0, .int .i64 a1, .string a2, .bool a3] w fun e w' => e = .returned (.bool r) ∧ Below w.heap.size w w' := by
  have HR0 := Aside0.mk hr0
  have HC0 := Aside0.mk hc0
  clear hr0 hc0
  have HB := Aside0.mk (Below.refl w.heap.size w)
  have H : ((transeptlaw19_Of.f k l0).bind fun t257 => ((locks_Acquire.f t257 a1 a2 a3).bind fun bt260 => ((transeptref19_Acquire.f k l0 a1 a2 a3).bind fun bt264 => ((locks_Release.f t257 a1).bind fun bt268 => ((transeptref19_Release.f k l0 a1).bind fun bt273 => ((locks_Held.f k t257 a2).bind fun bt278 => ((transeptref19_Held.f k l0 a2).bind fun bt283 => ((transeptlaw19_Alike.f k bt260.1 bt264.1).bind fun t288 => (if t288 = 0 then ((transeptlaw19_num.f bt260.2).bind fun t289 => (if t289 = bt264.2 then ((transeptlaw19_Alike.f k bt268.1 bt273.1).bind fun t290 => (if t290 = 0 then (if bt268.2.1 = bt273.2.1 then ((transeptlaw19_num.f bt268.2.2).bind fun t291 => (if t291 = bt273.2.2 then ((transeptplain_SameInts.f k bt278.1 bt283.1).bind fun t292 => (if t292 = true then (if (bt278.2.1 != bt283.2.1) = true then (none) else ((transeptlaw19_num.f bt278.2.2).bind fun t293 => (transeptlaw19_LocksTells.j0 k l0 t257 (t293 != bt283.2.2)))) else (none))) else (none))) else (none)) else (none))) else (none))) else (none)))))))))) = some r := h
  clear h
  replace H := Option.bind_eq_some_iff.mp H
  obtain ⟨t257, A50, H⟩ := H
  replace H : ((locks_Acquire.f t257 a1 a2 a3).bind fun bt260 => ((transeptref19_Acquire.f k l0 a1 a2 a3).bind fun bt264 => ((locks_Release.f t257 a1).bind fun bt268 => ((transeptref19_Release.f k l0 a1).bind fun bt273 => ((locks_Held.f k t257 a2).bind fun bt278 => ((transeptref19_Held.f k l0 a2).bind fun bt283 => ((transeptlaw19_Alike.f k bt260.1 bt264.1).bind fun t288 => (if t288 = 0 then ((transeptlaw19_num.f bt260.2).bind fun t289 => (if t289 = bt264.2 then ((transeptlaw19_Alike.f k bt268.1 bt273.1).bind fun t290 => (if t290 = 0 then (if bt268.2.1 = bt273.2.1 then ((transeptlaw19_num.f bt268.2.2).bind fun t291 => (if t291 = bt273.2.2 then ((transeptplain_SameInts.f k bt278.1 bt283.1).bind fun t292 => (if t292 = true then (if (bt278.2.1 != bt283.2.1) = true then (none) else ((transeptlaw19_num.f bt278.2.2).bind fun t293 => (transeptlaw19_LocksTells.j0 k l0 t257 (t293 != bt283.2.2)))) else (none))) else (none))) else (none)) else (none))) else (none))) else (none))))))))) = some r := H
  have A5 := Aside0.mk A50
  clear A50
  replace H := Option.bind_eq_some_iff.mp H
  obtain ⟨⟨t260, t261⟩, A60, H⟩ := H
  replace H : ((transeptref19_Acquire.f k l0 a1 a2 a3).bind fun bt264 => ((locks_Release.f t257 a1).bind fun bt268 => ((transeptref19_Release.f k l0 a1).bind fun bt273 => ((locks_Held.f k t257 a2).bind fun bt278 => ((transeptref19_Held.f k l0 a2).bind fun bt283 => ((transeptlaw19_Alike.f k t260 bt264.1).bind fun t288 => (if t288 = 0 then ((transeptlaw19_num.f t261).bind fun t289 => (if t289 = bt264.2 then ((transeptlaw19_Alike.f k bt268.1 bt273.1).bind fun t290 => (if t290 = 0 then (if bt268.2.1 = bt273.2.1 then ((transeptlaw19_num.f bt268.2.2).bind fun t291 => (if t291 = bt273.2.2 then ((transeptplain_SameInts.f k bt278.1 bt283.1).bind fun t292 => (if t292 = true then (if (bt278.2.1 != bt283.2.1) = true then (none) else ((transeptlaw19_num.f bt278.2.2).bind fun t293 => (transeptlaw19_LocksTells.j0 k l0 t257 (t293 != bt283.2.2)))) else (none))) else (none))) else (none)) else (none))) else (none))) else (none)))))))) = some r := H
  have A6 := Aside0.mk A60
  clear A60
  replace H := Option.bind_eq_some_iff.mp H
  obtain ⟨⟨t264, t265⟩, A70, H⟩ := H
  replace H : ((locks_Release.f t257 a1).bind fun bt268 => ((transeptref19_Release.f k l0 a1).bind fun bt273 => ((locks_Held.f k t257 a2).bind fun bt278 => ((transeptref19_Held.f k l0 a2).bind fun bt283 => ((transeptlaw19_Alike.f k t260 t264).bind fun t288 => (if t288 = 0 then ((transeptlaw19_num.f t261).bind fun t289 => (if t289 = t265 then ((transeptlaw19_Alike.f k bt268.1 bt273.1).bind fun t290 => (if t290 = 0 then (if bt268.2.1 = bt273.2.1 then ((transeptlaw19_num.f bt268.2.2).bind fun t291 => (if t291 = bt273.2.2 then ((transeptplain_SameInts.f k bt278.1 bt283.1).bind fun t292 => (if t292 = true then (if (bt278.2.1 != bt283.2.1) = true then (none) else ((transeptlaw19_num.f bt278.2.2).bind fun t293 => (transeptlaw19_LocksTells.j0 k l0 t257 (t293 != bt283.2.2)))) else (none))) else (none))) else (none)) else (none))) else (none))) else (none))))))) = some r := H
  have A7 := Aside0.mk A70
  clear A70
  replace H := Option.bind_eq_some_iff.mp H
  obtain ⟨⟨t268, t269, t270⟩, A80, H⟩ := H
  replace H : ((transeptref19_Release.f k l0 a1).bind fun bt273 => ((locks_Held.f k t257 a2).bind fun bt278 => ((transeptref19_Held.f k l0 a2).bind fun bt283 => ((transeptlaw19_Alike.f k t260 t264).bind fun t288 => (if t288 = 0 then ((transeptlaw19_num.f t261).bind fun t289 => (if t289 = t265 then ((transeptlaw19_Alike.f k t268 bt273.1).bind fun t290 => (if t290 = 0 then (if t269 = bt273.2.1 then ((transeptlaw19_num.f t270).bind fun t291 => (if t291 = bt273.2.2 then ((transeptplain_SameInts.f k bt278.1 bt283.1).bind fun t292 => (if t292 = true then (if (bt278.2.1 != bt283.2.1) = true then (none) else ((transeptlaw19_num.f bt278.2.2).bind fun t293 => (transeptlaw19_LocksTells.j0 k l0 t257 (t293 != bt283.2.2)))) else (none))) else (none))) else (none)) else (none))) else (none))) else (none)))))) = some r := H
  have A8 := Aside0.mk A80
  clear A80
  replace H := Option.bind_eq_some_iff.mp H
  obtain ⟨⟨t273, t274, t275⟩, A90, H⟩ := H
  replace H : ((locks_Held.f k t257 a2).bind fun bt278 => ((transeptref19_Held.f k l0 a2).bind fun bt283 => ((transeptlaw19_Alike.f k t260 t264).bind fun t288 => (if t288 = 0 then ((transeptlaw19_num.f t261).bind fun t289 => (if t289 = t265 then ((transeptlaw19_Alike.f k t268 t273).bind fun t290 => (if t290 = 0 then (if t269 = t274 then ((transeptlaw19_num.f t270).bind fun t291 => (if t291 = t275 then ((transeptplain_SameInts.f k bt278.1 bt283.1).bind fun t292 => (if t292 = true then (if (bt278.2.1 != bt283.2.1) = true then (none) else ((transeptlaw19_num.f bt278.2.2).bind fun t293 => (transeptlaw19_LocksTells.j0 k l0 t257 (t293 != bt283.2.2)))) else (none))) else (none))) else (none)) else (none))) else (none))) else (none))))) = some r := H
  have A9 := Aside0.mk A90
  clear A90
  replace H := Option.bind_eq_some_iff.mp H
  obtain ⟨⟨t278, t279, t280⟩, A100, H⟩ := H
  replace H : ((transeptref19_Held.f k l0 a2).bind fun bt283 => ((transeptlaw19_Alike.f k t260 t264).bind fun t288 => (if t288 = 0 then ((transeptlaw19_num.f t261).bind fun t289 => (if t289 = t265 then ((transeptlaw19_Alike.f k t268 t273).bind fun t290 => (if t290 = 0 then (if t269 = t274 then ((transeptlaw19_num.f t270).bind fun t291 => (if t291 = t275 then ((transeptplain_SameInts.f k t278 bt283.1).bind fun t292 => (if t292 = true then (if (t279 != bt283.2.1) = true then (none) else ((transeptlaw19_num.f t280).bind fun t293 => (transeptlaw19_LocksTells.j0 k l0 t257 (t293 != bt283.2.2)))) else (none))) else (none))) else (none)) else (none))) else (none))) else (none)))) = some r := H
  have A10 := Aside0.mk A100
  clear A100
  replace H := Option.bind_eq_some_iff.mp H
  obtain ⟨⟨t283, t284, t285⟩, A110, H⟩ := H
  replace H : ((transeptlaw19_Alike.f k t260 t264).bind fun t288 => (if t288 = 0 then ((transeptlaw19_num.f t261).bind fun t289 => (if t289 = t265 then ((transeptlaw19_Alike.f k t268 t273).bind fun t290 => (if t290 = 0 then (if t269 = t274 then ((transeptlaw19_num.f t270).bind fun t291 => (if t291 = t275 then ((transeptplain_SameInts.f k t278 t283).bind fun t292 => (if t292 = true then (if (t279 != t284) = true then (none) else ((transeptlaw19_num.f t280).bind fun t293 => (transeptlaw19_LocksTells.j0 k l0 t257 (t293 != t285)))) else (none))) else (none))) else (none)) else (none))) else (none))) else (none))) = some r := H
  have A11 := Aside0.mk A110
  clear A110
  have HC12 := Aside0.mk H
  clear H
  go_enter Try.func5, Try.ntmps5
  go_upto_region 8 with (first | ((with_reducible refine gate_callee (f := 9) rfl ?_); refine goesL_ (some 27) rfl rfl Try.func9 (by kernel_rfl) rfl #[.slice A0 l0.length c0] rfl (by (try simp only [List.map_toArray, List.map_cons, List.map_nil]); first | done | rfl | (simp only [List.length_drop, List.length_take]; rfl)) ?_; (with_reducible refine (transeptlaw19_Of.calls k _ _ l0 t257 _ ?side1 ?side2 A5.out).mono ?_); (case side1 => repeat (first | exact HR0.out | (with_reducible refine Kd.C_alloc ?_ _) | (with_reducible refine Kd.C_drewN ?_ _) | (with_reducible refine Kd.C_drew ?_))); (case side2 => exact HC0.out); rintro e w13 ⟨v258, rfl, ho0, hb⟩; refine ⟨_, rfl, ?_⟩; have n0_ := Aside0.mk (Kd.R_lower ho0 (below_size (by repeat (first | (with_reducible first | exact HB.out | apply below_alloc | apply pw_below_drewN | apply below_drew1) | exact HB.out)))); have n1_ := Aside0.mk (below_step (by repeat (first | (with_reducible first | exact HB.out | apply below_alloc | apply pw_below_drewN | apply below_drew1) | exact HB.out)) hb); clear HB; have HO259 := n0_; have HB := n1_; clear n0_ n1_; (try clear hb); (try clear hb2); (try clear hk); (try clear hi); (try clear ho0); obtain ⟨Ao14, co14, eo14⟩ := Kd.R_slice HO259.out; subst eo14) | ((with_reducible refine gate_callee (f := 12) rfl ?_); refine goesL_ (some 33) rfl rfl Try.func12 (by kernel_rfl) rfl #[.slice Ao14 t257.length co14, .int .i64 a1, .string a2, .bool a3] rfl (by (try simp only [List.map_toArray, List.map_cons, List.map_nil]); first | done | rfl | (simp only [List.length_drop, List.length_take]; rfl)) ?_; (with_reducible refine (locks_Acquire.calls _ _ t257 a1 a2 a3 t260 t261 _ ?side1 ?side2 A6.out).mono ?_); (case side1 => repeat (first | exact (Kd.R_reads' HO259.out).2.2 | (with_reducible refine Kd.C_alloc ?_ _) | (with_reducible refine Kd.C_drewN ?_ _) | (with_reducible refine Kd.C_drew ?_))); (case side2 => exact (Kd.R_reads' HO259.out).2.1); rintro e w15 ⟨v262, rfl, ho0, hb⟩; refine ⟨_, rfl, ?_⟩; have n0_ := Aside0.mk (Kd.R_elder' (by (with_reducible repeat (first | apply Kd.R_alloc | apply Kd.R_drewN | apply Kd.R_drew)); exact HO259.out) (Kd.R_base ho0) hb); have n1_ := Aside0.mk (Kd.R_lower (Kd.R_new' ho0 (Kd.R_lt (by (with_reducible repeat (first | apply Kd.R_alloc | apply Kd.R_drewN | apply Kd.R_drew)); exact HO259.out))) (below_size (by repeat (first | (with_reducible first | exact HB.out | apply below_alloc | apply pw_below_drewN | apply below_drew1) | exact HB.out)))); have n2_ := Aside0.mk (below_step (by repeat (first | (with_reducible first | exact HB.out | apply below_alloc | apply pw_below_drewN | apply below_drew1) | exact HB.out)) hb); clear HO259; clear HB; have HO259 := n0_; have HO263 := n1_; have HB := n2_; clear n0_ n1_ n2_; (try clear hb); (try clear hb2); (try clear hk); (try clear hi); (try clear ho0)) | ((with_reducible refine gate_callee (f := 13) rfl ?_); refine goesL_ (some 41) rfl rfl Try.func13 (by kernel_rfl) rfl #[.slice A0 l0.length c0, .int .i64 a1, .string a2, .bool a3] rfl (by (try simp only [List.map_toArray, List.map_cons, List.map_nil]); first | done | rfl | (simp only [List.length_drop, List.length_take]; rfl)) ?_; (with_reducible refine (transeptref19_Acquire.calls k _ _ l0 a1 a2 a3 t264 t265 _ ?side1 ?side2 A7.out).mono ?_); (case side1 => repeat (first | exact (Kd.C_below HR0.out HB.out) | (with_reducible refine Kd.C_alloc ?_ _) | (with_reducible refine Kd.C_drewN ?_ _) | (with_reducible refine Kd.C_drew ?_))); (case side2 => exact HC0.out); rintro e w16 ⟨v266, rfl, ho0, hb⟩; refine ⟨_, rfl, ?_⟩; have n0_ := Aside0.mk (Kd.R_below (by (with_reducible repeat (first | apply Kd.R_alloc | apply Kd.R_drewN | apply Kd.R_drew)); exact HO259.out) hb); have n1_ := Aside0.mk (Kd.R_below (by (with_reducible repeat (first | apply Kd.R_alloc | apply Kd.R_drewN | apply Kd.R_drew)); exact HO263.out) hb); have n2_ := Aside0.mk (Kd.R_lower ho0 (below_size (by repeat (first | (with_reducible first | exact HB.out | apply below_alloc | apply pw_below_drewN | apply below_drew1) | exact HB.out)))); have n3_ := Aside0.mk (below_step (by repeat (first | (with_reducible first | exact HB.out | apply below_alloc | apply pw_below_drewN | apply below_drew1) | exact HB.out)) hb); clear HO259; clear HO263; clear HB; have HO259 := n0_; have HO263 := n1_; have HO267 := n2_; have HB := n3_; clear n0_ n1_ n2_ n3_; (try clear hb); (try clear hb2); (try clear hk); (try clear hi); (try clear ho0)) | ((with_reducible refine gate_callee (f := 10) rfl ?_); refine goesL_ (some 47) rfl rfl Try.func10 (by kernel_rfl) rfl #[.slice Ao14 t257.length co14, .int .i64 a1] rfl (by (try simp only [List.map_toArray, List.map_cons, List.map_nil]); first | done | rfl | (simp only [List.length_drop, List.length_take]; rfl)) ?_; (with_reducible refine (locks_Release.calls _ _ t257 a1 t268 t269 t270 _ ?side1 ?side2 A8.out).mono ?_); (case side1 => repeat (first | exact (Kd.R_reads' HO259.out).2.2 | (with_reducible refine Kd.C_alloc ?_ _) | (with_reducible refine Kd.C_drewN ?_ _) | (with_reducible refine Kd.C_drew ?_))); (case side2 => exact (Kd.R_reads' HO259.out).2.1); rintro e w17 ⟨v271, rfl, ho0, hb⟩; refine ⟨_, rfl, ?_⟩; have n0_ := Aside0.mk (Kd.R_elder' (by (with_reducible repeat (first | apply Kd.R_alloc | apply Kd.R_drewN | apply Kd.R_drew)); exact HO259.out) (Kd.R_base ho0) hb); have n1_ := Aside0.mk (Kd.R_elder' (by (with_reducible repeat (first | apply Kd.R_alloc | apply Kd.R_drewN | apply Kd.R_drew)); exact HO263.out) (Kd.R_base ho0) hb); have n2_ := Aside0.mk (Kd.R_below (by (with_reducible repeat (first | apply Kd.R_alloc | apply Kd.R_drewN | apply Kd.R_drew)); exact HO267.out) hb); have n3_ := Aside0.mk (Kd.R_lower (Kd.R_new' (Kd.R_new' ho0 (Kd.R_lt (by (with_reducible repeat (first | apply Kd.R_alloc | apply Kd.R_drewN | apply Kd.R_drew)); exact HO259.out))) (Kd.R_lt (by (with_reducible repeat (first | apply Kd.R_alloc | apply Kd.R_drewN | apply Kd.R_drew)); exact HO263.out))) (below_size (by repeat (first | (with_reducible first | exact HB.out | apply below_alloc | apply pw_below_drewN | apply below_drew1) | exact HB.out)))); have n4_ := Aside0.mk (below_step (by repeat (first | (with_reducible first | exact HB.out | apply below_alloc | apply pw_below_drewN | apply below_drew1) | exact HB.out)) hb); clear HO259; clear HO263; clear HO267; clear HB; have HO259 := n0_; have HO263 := n1_; have HO267 := n2_; have HO272 := n3_; have HB := n4_; clear n0_ n1_ n2_ n3_ n4_; (try clear hb); (try clear hb2); (try clear hk); (try clear hi); (try clear ho0)) | ((with_reducible refine gate_callee (f := 15) rfl ?_); refine goesL_ (some 54) rfl rfl Try.func15 (by kernel_rfl) rfl #[.slice A0 l0.length c0, .int .i64 a1] rfl (by (try simp only [List.map_toArray, List.map_cons, List.map_nil]); first | done | rfl | (simp only [List.length_drop, List.length_take]; rfl)) ?_; (with_reducible refine (transeptref19_Release.calls k _ _ l0 a1 t273 t274 t275 _ ?side1 ?side2 A9.out).mono ?_); (case side1 => repeat (first | exact (Kd.C_below HR0.out HB.out) | (with_reducible refine Kd.C_alloc ?_ _) | (with_reducible refine Kd.C_drewN ?_ _) | (with_reducible refine Kd.C_drew ?_))); (case side2 => exact HC0.out); rintro e w18 ⟨v276, rfl, ho0, hb⟩; refine ⟨_, rfl, ?_⟩; have n0_ := Aside0.mk (Kd.R_below (by (with_reducible repeat (first | apply Kd.R_alloc | apply Kd.R_drewN | apply Kd.R_drew)); exact HO259.out) hb); have n1_ := Aside0.mk (Kd.R_below (by (with_reducible repeat (first | apply Kd.R_alloc | apply Kd.R_drewN | apply Kd.R_drew)); exact HO263.out) hb); have n2_ := Aside0.mk (Kd.R_elder' (by (with_reducible repeat (first | apply Kd.R_alloc | apply Kd.R_drewN | apply Kd.R_drew)); exact HO267.out) (Kd.R_base ho0) hb); have n3_ := Aside0.mk (Kd.R_below (by (with_reducible repeat (first | apply Kd.R_alloc | apply Kd.R_drewN | apply Kd.R_drew)); exact HO272.out) hb); have n4_ := Aside0.mk (Kd.R_lower (Kd.R_new' ho0 (Kd.R_lt (by (with_reducible repeat (first | apply Kd.R_alloc | apply Kd.R_drewN | apply Kd.R_drew)); exact HO267.out))) (below_size (by repeat (first | (with_reducible first | exact HB.out | apply below_alloc | apply pw_below_drewN | apply below_drew1) | exact HB.out)))); have n5_ := Aside0.mk (below_step (by repeat (first | (with_reducible first | exact HB.out | apply below_alloc | apply pw_below_drewN | apply below_drew1) | exact HB.out)) hb); clear HO259; clear HO263; clear HO267; clear HO272; clear HB; have HO259 := n0_; have HO263 := n1_; have HO267 := n2_; have HO272 := n3_; have HO277 := n4_; have HB := n5_; clear n0_ n1_ n2_ n3_ n4_ n5_; (try clear hb); (try clear hb2); (try clear hk); (try clear hi); (try clear ho0)) | ((with_reducible refine gate_callee (f := 16) rfl ?_); refine goesL_ (some 61) rfl rfl Try.func16 (by kernel_rfl) rfl #[.slice Ao14 t257.length co14, .string a2] rfl (by (try simp only [List.map_toArray, List.map_cons, List.map_nil]); first | done | rfl | (simp only [List.length_drop, List.length_take]; rfl)) ?_; (with_reducible refine (locks_Held.calls k _ _ t257 a2 t278 t279 t280 _ ?side1 ?side2 A10.out).mono ?_); (case side1 => repeat (first | exact (Kd.R_reads' HO259.out).2.2 | (with_reducible refine Kd.C_alloc ?_ _) | (with_reducible refine Kd.C_drewN ?_ _) | (with_reducible refine Kd.C_drew ?_))); (case side2 => exact (Kd.R_reads' HO259.out).2.1); rintro e w19 ⟨v281, rfl, ho0, hb⟩; refine ⟨_, rfl, ?_⟩; have n0_ := Aside0.mk (Kd.R_below (by (with_reducible repeat (first | apply Kd.R_alloc | apply Kd.R_drewN | apply Kd.R_drew)); exact HO259.out) hb); have n1_ := Aside0.mk (Kd.R_below (by (with_reducible repeat (first | apply Kd.R_alloc | apply Kd.R_drewN | apply Kd.R_drew)); exact HO263.out) hb); have n2_ := Aside0.mk (Kd.R_below (by (with_reducible repeat (first | apply Kd.R_alloc | apply Kd.R_drewN | apply Kd.R_drew)); exact HO267.out) hb); have n3_ := Aside0.mk (Kd.R_below (by (with_reducible repeat (first | apply Kd.R_alloc | apply Kd.R_drewN | apply Kd.R_drew)); exact HO272.out) hb); have n4_ := Aside0.mk (Kd.R_below (by (with_reducible repeat (first | apply Kd.R_alloc | apply Kd.R_drewN | apply Kd.R_drew)); exact HO277.out) hb); have n5_ := Aside0.mk (Kd.R_lower ho0 (below_size (by repeat (first | (with_reducible first | exact HB.out | apply below_alloc | apply pw_below_drewN | apply below_drew1) | exact HB.out)))); have n6_ := Aside0.mk (below_step (by repeat (first | (with_reducible first | exact HB.out | apply below_alloc | apply pw_below_drewN | apply below_drew1) | exact HB.out)) hb); clear HO259; clear HO263; clear HO267; clear HO272; clear HO277; clear HB; have HO259 := n0_; have HO263 := n1_; have HO267 := n2_; have HO272 := n3_; have HO277 := n4_; have HO282 := n5_; have HB := n6_; clear n0_ n1_ n2_ n3_ n4_ n5_ n6_; (try clear hb); (try clear hb2); (try clear hk); (try clear hi); (try clear ho0)) | ((with_reducible refine gate_callee (f := 17) rfl ?_); refine goesL_ (some 68) rfl rfl Try.func17 (by kernel_rfl) rfl #[.slice A0 l0.length c0, .string a2] rfl (by (try simp only [List.map_toArray, List.map_cons, List.map_nil]); first | done | rfl | (simp only [List.length_drop, List.length_take]; rfl)) ?_; (with_reducible refine (transeptref19_Held.calls k _ _ l0 a2 t283 t284 t285 _ ?side1 ?side2 A11.out).mono ?_); (case side1 => repeat (first | exact (Kd.C_below HR0.out HB.out) | (with_reducible refine Kd.C_alloc ?_ _) | (with_reducible refine Kd.C_drewN ?_ _) | (with_reducible refine Kd.C_drew ?_))); (case side2 => exact HC0.out); rintro e w20 ⟨v286, rfl, ho0, hb⟩; refine ⟨_, rfl, ?_⟩; have n0_ := Aside0.mk (Kd.R_below (by (with_reducible repeat (first | apply Kd.R_alloc | apply Kd.R_drewN | apply Kd.R_drew)); exact HO259.out) hb); have n1_ := Aside0.mk (Kd.R_below (by (with_reducible repeat (first | apply Kd.R_alloc | apply Kd.R_drewN | apply Kd.R_drew)); exact HO263.out) hb); have n2_ := Aside0.mk (Kd.R_below (by (with_reducible repeat (first | apply Kd.R_alloc | apply Kd.R_drewN | apply Kd.R_drew)); exact HO267.out) hb); have n3_ := Aside0.mk (Kd.R_below (by (with_reducible repeat (first | apply Kd.R_alloc | apply Kd.R_drewN | apply Kd.R_drew)); exact HO272.out) hb); have n4_ := Aside0.mk (Kd.R_below (by (with_reducible repeat (first | apply Kd.R_alloc | apply Kd.R_drewN | apply Kd.R_drew)); exact HO277.out) hb); have n5_ := Aside0.mk (Kd.R_elder' (by (with_reducible repeat (first | apply Kd.R_alloc | apply Kd.R_drewN | apply Kd.R_drew)); exact HO282.out) (Kd.R_base ho0) hb); have n6_ := Aside0.mk (Kd.R_lower (Kd.R_new' ho0 (Kd.R_lt (by (with_reducible repeat (first | apply Kd.R_alloc | apply Kd.R_drewN | apply Kd.R_drew)); exact HO282.out))) (below_size (by repeat (first | (with_reducible first | exact HB.out | apply below_alloc | apply pw_below_drewN | apply below_drew1) | exact HB.out)))); have n7_ := Aside0.mk (below_step (by repeat (first | (with_reducible first | exact HB.out | apply below_alloc | apply pw_below_drewN | apply below_drew1) | exact HB.out)) hb); clear HO259; clear HO263; clear HO267; clear HO272; clear HO277; clear HO282; clear HB; have HO259 := n0_; have HO263 := n1_; have HO267 := n2_; have HO272 := n3_; have HO277 := n4_; have HO282 := n5_; have HO287 := n6_; have HB := n7_; clear n0_ n1_ n2_ n3_ n4_ n5_ n6_ n7_; (try clear hb); (try clear hb2); (try clear hk); (try clear hi); (try clear ho0)))
  (try simp only [Act.put, List.setIfInBounds_toArray, List.set_cons_zero, List.set_cons_succ])
  go_cut [115] (fun v115 wc => ∃ (kq : Nat) (x115_11 : Bool), v115 = .bool x115_11 ∧ Aside0 (transeptlaw19_LocksTells.j0 kq l0 t257 x115_11 = some r) ∧ Aside0 (kq ≤ k) ∧ Aside0 (Kd.R k34 34 wc w.heap.size (fun _ => True) (.slice Ao14 t257.length co14) t257) ∧ Aside0 (Below w.heap.size w wc))
  case first =>
    have H := HC12.out
    clear HC12
    replace H := Option.bind_eq_some_iff.mp H
    obtain ⟨t288, A210, H⟩ := H
    replace H : (if t288 = 0 then ((transeptlaw19_num.f t261).bind fun t289 => (if t289 = t265 then ((transeptlaw19_Alike.f k t268 t273).bind fun t290 => (if t290 = 0 then (if t269 = t274 then ((transeptlaw19_num.f t270).bind fun t291 => (if t291 = t275 then ((transeptplain_SameInts.f k t278 t283).bind fun t292 => (if t292 = true then (if (t279 != t284) = true then (none) else ((transeptlaw19_num.f t280).bind fun t293 => (transeptlaw19_LocksTells.j0 k l0 t257 (t293 != t285)))) else (none))) else (none))) else (none)) else (none))) else (none))) else (none)) = some r := H
    have A21 := Aside0.mk A210
    clear A210
    by_cases c22 : t288 = 0
    · rw [if_pos c22] at H
      have c22b0 : (t288 == 0) = true := beq_iff_eq.mpr c22
      have c22b1 : (t288 != 0) = false := bne_eq_false_iff_eq.mpr c22
      clear c22
      (first | rw [c22b0] | (simp only [i64_w, i32_w]; rw [c22b0]) | skip)
      replace H := Option.bind_eq_some_iff.mp H
      obtain ⟨t289, A230, H⟩ := H
      replace H : (if t289 = t265 then ((transeptlaw19_Alike.f k t268 t273).bind fun t290 => (if t290 = 0 then (if t269 = t274 then ((transeptlaw19_num.f t270).bind fun t291 => (if t291 = t275 then ((transeptplain_SameInts.f k t278 t283).bind fun t292 => (if t292 = true then (if (t279 != t284) = true then (none) else ((transeptlaw19_num.f t280).bind fun t293 => (transeptlaw19_LocksTells.j0 k l0 t257 (t293 != t285)))) else (none))) else (none))) else (none)) else (none))) else (none)) = some r := H
      have A23 := Aside0.mk A230
      clear A230
      by_cases c24 : t289 = t265
      · rw [if_pos c24] at H
        have c24b0 : (t289 == t265) = true := beq_iff_eq.mpr c24
        have c24b1 : (t289 != t265) = false := bne_eq_false_iff_eq.mpr c24
        clear c24
        replace H := Option.bind_eq_some_iff.mp H
        obtain ⟨t290, A250, H⟩ := H
        replace H : (if t290 = 0 then (if t269 = t274 then ((transeptlaw19_num.f t270).bind fun t291 => (if t291 = t275 then ((transeptplain_SameInts.f k t278 t283).bind fun t292 => (if t292 = true then (if (t279 != t284) = true then (none) else ((transeptlaw19_num.f t280).bind fun t293 => (transeptlaw19_LocksTells.j0 k l0 t257 (t293 != t285)))) else (none))) else (none))) else (none)) else (none)) = some r := H
        have A25 := Aside0.mk A250
        clear A250
        by_cases c26 : t290 = 0
        · rw [if_pos c26] at H
          have c26b0 : (t290 == 0) = true := beq_iff_eq.mpr c26
          have c26b1 : (t290 != 0) = false := bne_eq_false_iff_eq.mpr c26
          clear c26
          by_cases c27 : t269 = t274
          · rw [if_pos c27] at H
            have c27b0 : (t269 == t274) = true := beq_iff_eq.mpr c27
            have c27b1 : (t269 != t274) = false := bne_eq_false_iff_eq.mpr c27
            clear c27
            replace H := Option.bind_eq_some_iff.mp H
            obtain ⟨t291, A280, H⟩ := H
            replace H : (if t291 = t275 then ((transeptplain_SameInts.f k t278 t283).bind fun t292 => (if t292 = true then (if (t279 != t284) = true then (none) else ((transeptlaw19_num.f t280).bind fun t293 => (transeptlaw19_LocksTells.j0 k l0 t257 (t293 != t285)))) else (none))) else (none)) = some r := H
            have A28 := Aside0.mk A280
            clear A280
            by_cases c29 : t291 = t275
            · rw [if_pos c29] at H
              have c29b0 : (t291 == t275) = true := beq_iff_eq.mpr c29
              have c29b1 : (t291 != t275) = false := bne_eq_false_iff_eq.mpr c29
              clear c29
              replace H := Option.bind_eq_some_iff.mp H
              obtain ⟨t292, A300, H⟩ := H
              replace H : (if t292 = true then (if (t279 != t284) = true then (none) else ((transeptlaw19_num.f t280).bind fun t293 => (transeptlaw19_LocksTells.j0 k l0 t257 (t293 != t285)))) else (none)) = some r := H
              have A30 := Aside0.mk A300
              clear A300
              by_cases c31 : t292 = true
              · subst c31
                have H1 : (if (t279 != t284) = true then (none) else ((transeptlaw19_num.f t280).bind fun t293 => (transeptlaw19_LocksTells.j0 k l0 t257 (t293 != t285)))) = some r := by rw [if_pos rfl] at H; exact H
                clear H
                have H := H1
                clear H1
                by_cases c32 : (t279 != t284) = true
                · rw [if_pos c32] at H
                  exact absurd H (by simp)
                · rw [if_neg c32] at H
                  have c32b0 : (t279 != t284) = false := by simpa using c32
                  (try (have c32b1 : decide (t279 = t284) = true := by simpa using c32))
                  (try (have c32b2 : (t279 == t284) = true := by simpa using c32))
                  clear c32
                  replace H := Option.bind_eq_some_iff.mp H
                  obtain ⟨t293, A330, H⟩ := H
                  replace H : (transeptlaw19_LocksTells.j0 k l0 t257 (t293 != t285)) = some r := H
                  have A33 := Aside0.mk A330
                  clear A330
                  have H' := Aside0.mk H
                  clear H
                  obtain ⟨Ao34, co34, eo34⟩ := Kd.R_slice HO263.out
                  subst eo34
                  obtain ⟨Ao35, co35, eo35⟩ := Kd.R_slice HO267.out
                  subst eo35
                  go_wp2_with (first | ((with_reducible refine gate_callee (f := 14) rfl ?_); refine goesL_ (some 74) rfl rfl Try.func14 (by kernel_rfl) rfl #[.slice Ao34 t260.length co34, .slice Ao35 t264.length co35] rfl (by (try simp only [List.map_toArray, List.map_cons, List.map_nil]); first | done | rfl | (simp only [List.length_drop, List.length_take]; rfl)) ?_; (with_reducible refine (transeptlaw19_Alike.calls k _ _ t260 _ _ t264 t288 _ ?side1 ?side2 ?side3 ?side4 A21.out).mono ?_); (case side1 => repeat (first | exact (Kd.R_reads' HO263.out).2.2 | (with_reducible refine Kd.C_alloc ?_ _) | (with_reducible refine Kd.C_drewN ?_ _) | (with_reducible refine Kd.C_drew ?_))); (case side2 => exact (Kd.R_reads' HO263.out).2.1); (case side3 => repeat (first | exact (Kd.R_reads' HO267.out).2.2 | (with_reducible refine Kd.C_alloc ?_ _) | (with_reducible refine Kd.C_drewN ?_ _) | (with_reducible refine Kd.C_drew ?_))); (case side4 => exact (Kd.R_reads' HO267.out).2.1); rintro e w' ⟨rfl, ⟨nd, rfl⟩⟩; refine ⟨_, rfl, ?_⟩) | (go_at_call 11; (with_reducible refine (transeptlaw19_num.calls t261 t289 _ A23.out).mono ?_); rintro e w' ⟨rfl, ⟨nd, rfl⟩⟩; obtain ⟨Ao36, co36, eo36⟩ := Kd.R_slice HO272.out; subst eo36; obtain ⟨Ao37, co37, eo37⟩ := Kd.R_slice HO277.out; subst eo37) | (go_at_call 14; (with_reducible refine (transeptlaw19_Alike.calls k _ _ t268 _ _ t273 t290 _ ?side1 ?side2 ?side3 ?side4 A25.out).mono ?_); (case side1 => repeat (first | exact (Kd.R_reads' HO272.out).2.2 | (with_reducible refine Kd.C_alloc ?_ _) | (with_reducible refine Kd.C_drewN ?_ _) | (with_reducible refine Kd.C_drew ?_))); (case side2 => exact (Kd.R_reads' HO272.out).2.1); (case side3 => repeat (first | exact (Kd.R_reads' HO277.out).2.2 | (with_reducible refine Kd.C_alloc ?_ _) | (with_reducible refine Kd.C_drewN ?_ _) | (with_reducible refine Kd.C_drew ?_))); (case side4 => exact (Kd.R_reads' HO277.out).2.1); rintro e w' ⟨rfl, ⟨nd, rfl⟩⟩) | (go_at_call 11; (with_reducible refine (transeptlaw19_num.calls t270 t291 _ A28.out).mono ?_); rintro e w' ⟨rfl, ⟨nd, rfl⟩⟩; obtain ⟨Ao38, co38, eo38⟩ := Kd.R_slice HO282.out; subst eo38; obtain ⟨Ao39, co39, eo39⟩ := Kd.R_slice HO287.out; subst eo39) | (go_at_call 18; (with_reducible refine (transeptplain_SameInts.calls k _ _ t278 _ _ t283 true _ ?side1 ?side2 ?side3 ?side4 A30.out).mono ?_); (case side1 => repeat (first | exact (Kd.R_reads' HO282.out).2.2 | (with_reducible refine Kd.C_alloc ?_ _) | (with_reducible refine Kd.C_drewN ?_ _) | (with_reducible refine Kd.C_drew ?_))); (case side2 => exact (Kd.R_reads' HO282.out).2.1); (case side3 => repeat (first | exact (Kd.R_reads' HO287.out).2.2 | (with_reducible refine Kd.C_alloc ?_ _) | (with_reducible refine Kd.C_drewN ?_ _) | (with_reducible refine Kd.C_drew ?_))); (case side4 => exact (Kd.R_reads' HO287.out).2.1); rintro e w' ⟨rfl, ⟨nd, rfl⟩⟩) | (go_at_call 11; (with_reducible refine (transeptlaw19_num.calls t280 t293 _ A33.out).mono ?_); rintro e w' ⟨rfl, ⟨nd, rfl⟩⟩))
                  go_meet
                  case rel => exact ⟨_, ((t293 != t285)), (by first | rfl | (simp; done) | (simp [*]; done)), H', ⟨by first | omega | exact Nat.le_refl _⟩, ⟨by (with_reducible repeat (first | apply Kd.R_alloc | apply Kd.R_drewN | apply Kd.R_drew)); exact Kd.R_mono HO259.out (fun _ hk => trivial)⟩, ⟨by repeat (first | (with_reducible first | exact HB.out | apply below_alloc | apply pw_below_drewN | apply below_drew1) | exact HB.out)⟩⟩
              · replace c31 := Bool.eq_false_iff.mpr c31
                subst c31
                have H1 : (none) = some r := by rw [if_neg (show ¬ (false = true) by decide)] at H; exact H
                clear H
                have H := H1
                clear H1
                exact absurd H (by simp)
            · rw [if_neg c29] at H
              exact absurd H (by simp)
          · rw [if_neg c27] at H
            exact absurd H (by simp)
        · rw [if_neg c26] at H
          exact absurd H (by simp)
      · rw [if_neg c24] at H
        exact absurd H (by simp)
    · rw [if_neg c22] at H
      exact absurd H (by simp)
  case rest =>
    clear HC12
    try clear c1
    try clear c2
    try clear p2
    try clear c3
    try clear c5
    try clear c9
    try clear c10
    try clear c12
    try clear c13
    try clear c14
    try clear c15
    try clear c16
    try clear c17
    try clear c22
    try clear c22b0
    try clear c22b1
    try clear c24
    try clear c24b0
    try clear c24b1
    try clear c26
    try clear c26b0
    try clear c26b1
    try clear c27
    try clear c27b0
    try clear c27b1
    try clear c29
    try clear c29b0
    try clear c29b1
    try clear c31
    try clear c32
    try clear c32b0
    try clear c32b1
    try clear c32b2
    obtain ⟨kq, x115_11, rfl, HA, HJ11, HO_9, HB⟩ := hcut
    cases kq with
    | zero => exact absurd HA.out (by simp [transeptlaw19_LocksTells.j0])
    | succ kj11 =>
      have H := HA.out
      clear HA
      simp only [transeptlaw19_LocksTells.j0] at H
      by_cases c40 : x115_11 = true
      · subst c40
        have H1 : (none) = some r := by rw [if_pos rfl] at H; exact H
        clear H
        have H := H1
        clear H1
        exact absurd H (by simp)
      · replace c40 := Bool.eq_false_iff.mpr c40
        subst c40
        have H1 : ((locks_Check.f t257).bind fun t294 => ((transeptlaw19_num.f t294).bind fun t295 => ((transeptref19_Check.f kj11 l0).bind fun t296 => (if t295 = t296 then ((transeptlaw19_Alike.f kj11 t257 l0).bind fun t297 => (if t297 = 0 then ((transeptlaw19_alive.f).bind fun t298 => (some t298)) else (none))) else (none))))) = some r := by rw [if_neg (show ¬ (false = true) by decide)] at H; exact H
        clear H
        have H := H1
        clear H1
        replace H := Option.bind_eq_some_iff.mp H
        obtain ⟨t294, A410, H⟩ := H
        replace H : ((transeptlaw19_num.f t294).bind fun t295 => ((transeptref19_Check.f kj11 l0).bind fun t296 => (if t295 = t296 then ((transeptlaw19_Alike.f kj11 t257 l0).bind fun t297 => (if t297 = 0 then ((transeptlaw19_alive.f).bind fun t298 => (some t298)) else (none))) else (none)))) = some r := H
        have A41 := Aside0.mk A410
        clear A410
        replace H := Option.bind_eq_some_iff.mp H
        obtain ⟨t295, A420, H⟩ := H
        replace H : ((transeptref19_Check.f kj11 l0).bind fun t296 => (if t295 = t296 then ((transeptlaw19_Alike.f kj11 t257 l0).bind fun t297 => (if t297 = 0 then ((transeptlaw19_alive.f).bind fun t298 => (some t298)) else (none))) else (none))) = some r := H
        have A42 := Aside0.mk A420
        clear A420
        replace H := Option.bind_eq_some_iff.mp H
        obtain ⟨t296, A430, H⟩ := H
        replace H : (if t295 = t296 then ((transeptlaw19_Alike.f kj11 t257 l0).bind fun t297 => (if t297 = 0 then ((transeptlaw19_alive.f).bind fun t298 => (some t298)) else (none))) else (none)) = some r := H
        have A43 := Aside0.mk A430
        clear A430
        by_cases c44 : t295 = t296
        · rw [if_pos c44] at H
          have c44b0 : (t295 == t296) = true := beq_iff_eq.mpr c44
          have c44b1 : (t295 != t296) = false := bne_eq_false_iff_eq.mpr c44
          clear c44
          replace H := Option.bind_eq_some_iff.mp H
          obtain ⟨t297, A450, H⟩ := H
          replace H : (if t297 = 0 then ((transeptlaw19_alive.f).bind fun t298 => (some t298)) else (none)) = some r := H
          have A45 := Aside0.mk A450
          clear A450
          by_cases c46 : t297 = 0
          · rw [if_pos c46] at H
            have c46b0 : (t297 == 0) = true := beq_iff_eq.mpr c46
            have c46b1 : (t297 != 0) = false := bne_eq_false_iff_eq.mpr c46
            clear c46
            replace H := Option.bind_eq_some_iff.mp H
            obtain ⟨t298, A470, H⟩ := H
            replace H : (some t298) = some r := H
            have A47 := Aside0.mk A470
            clear A470
            obtain rfl := Option.some.inj H
            go_wp2_with (first | ((with_reducible refine gate_callee (f := 19) rfl ?_); refine goesL_ (some 117) rfl rfl Try.func19 (by kernel_rfl) rfl #[.slice Ao14 t257.length co14] rfl (by (try simp only [List.map_toArray, List.map_cons, List.map_nil]); first | done | rfl | (simp only [List.length_drop, List.length_take]; rfl)) ?_; (with_reducible refine (locks_Check.calls _ _ t257 t294 _ ?side1 ?side2 A41.out).mono ?_); (case side1 => repeat (first | exact (Kd.R_reads' HO_9.out).2.2 | (with_reducible refine Kd.C_alloc ?_ _) | (with_reducible refine Kd.C_drewN ?_ _) | (with_reducible refine Kd.C_drew ?_))); (case side2 => exact (Kd.R_reads' HO_9.out).2.1); rintro e w48 ⟨rfl, hb⟩; refine ⟨_, rfl, ?_⟩; have n0_ := Aside0.mk (Kd.R_below (by (with_reducible repeat (first | apply Kd.R_alloc | apply Kd.R_drewN | apply Kd.R_drew)); exact HO_9.out) hb); have n1_ := Aside0.mk (below_step (by repeat (first | (with_reducible first | exact HB.out | apply below_alloc | apply pw_below_drewN | apply below_drew1) | exact HB.out)) hb); clear HO_9; clear HB; have HO_9 := n0_; have HB := n1_; clear n0_ n1_; (try clear hb); (try clear hb2); (try clear hk); (try clear hi)) | ((with_reducible refine gate_callee (f := 11) rfl ?_); refine goesL_ (some 118) rfl rfl Try.func11 (by kernel_rfl) rfl #[.int .i64 t294] rfl (by (try simp only [List.map_toArray, List.map_cons, List.map_nil]); first | done | rfl | (simp only [List.length_drop, List.length_take]; rfl)) ?_; (with_reducible refine (transeptlaw19_num.calls t294 t295 _ A42.out).mono ?_); rintro e w' ⟨rfl, ⟨nd, rfl⟩⟩; refine ⟨_, rfl, ?_⟩) | ((with_reducible refine gate_callee (f := 20) rfl ?_); refine goesL_ (some 120) rfl rfl Try.func20 (by kernel_rfl) rfl #[.slice A0 l0.length c0] rfl (by (try simp only [List.map_toArray, List.map_cons, List.map_nil]); first | done | rfl | (simp only [List.length_drop, List.length_take]; rfl)) ?_; (with_reducible refine (transeptref19_Check.calls kj11 _ _ l0 t296 _ ?side1 ?side2 A43.out).mono ?_); (case side1 => repeat (first | exact (Kd.C_below HR0.out (by repeat (first | (with_reducible first | exact HB.out | apply below_alloc | apply pw_below_drewN | apply below_drew1) | exact HB.out))) | (with_reducible refine Kd.C_alloc ?_ _) | (with_reducible refine Kd.C_drewN ?_ _) | (with_reducible refine Kd.C_drew ?_))); (case side2 => exact HC0.out); rintro e w' ⟨rfl, ⟨nd, rfl⟩⟩; refine ⟨_, rfl, ?_⟩) | (go_at_call 14; (with_reducible refine (transeptlaw19_Alike.calls kj11 _ _ t257 _ _ l0 t297 _ ?side1 ?side2 ?side3 ?side4 A45.out).mono ?_); (case side1 => repeat (first | exact (Kd.R_reads' HO_9.out).2.2 | (with_reducible refine Kd.C_alloc ?_ _) | (with_reducible refine Kd.C_drewN ?_ _) | (with_reducible refine Kd.C_drew ?_))); (case side2 => exact (Kd.R_reads' HO_9.out).2.1); (case side3 => repeat (first | exact (Kd.C_below HR0.out (by repeat (first | (with_reducible first | exact HB.out | apply below_alloc | apply pw_below_drewN | apply below_drew1) | exact HB.out))) | (with_reducible refine Kd.C_alloc ?_ _) | (with_reducible refine Kd.C_drewN ?_ _) | (with_reducible refine Kd.C_drew ?_))); (case side4 => exact HC0.out); rintro e w' ⟨rfl, ⟨nd, rfl⟩⟩) | (go_at_call 8; (with_reducible refine (transeptlaw19_alive.calls  t298 _ A47.out).mono ?_); rintro e w49 ⟨rfl, hb⟩; have n0_ := Aside0.mk (Kd.R_below (by (with_reducible repeat (first | apply Kd.R_alloc | apply Kd.R_drewN | apply Kd.R_drew)); exact HO_9.out) hb); have n1_ := Aside0.mk (below_step (by repeat (first | (with_reducible first | exact HB.out | apply below_alloc | apply pw_below_drewN | apply below_drew1) | exact HB.out)) hb); clear HO_9; clear HB; have HO_9 := n0_; have HB := n1_; clear n0_ n1_; (try clear hb); (try clear hb2); (try clear hk); (try clear hi)))
            go_ret
            exact ⟨by first | rfl | (simp [errW_none, errW_some] <;> rfl) | (simp [*, errW_none, errW_some] <;> rfl), by repeat (first | (with_reducible first | exact HB.out | apply below_alloc | apply pw_below_drewN | apply below_drew1) | exact HB.out)⟩
          · rw [if_neg c46] at H
            exact absurd H (by simp)
        · rw [if_neg c44] at H
          exact absurd H (by simp)

end Go.Proofs.Ytgbdajlfbmijgaa.Print
