/- Written by pp.py, a program of this project that runs the kit's print over the translation, with functions proved by hand put in. Lean checks it. -/
import Derived.Test.YtgoiojfdphfelaaPrint0
namespace Go.Proofs.Ytgoiojfdphfelaa.Print
open Go.RowKit Go.Proofs.YtgoiojfdphfelaaW.PrintWords Go.Proofs.YtgoiojfdphfelaaW.PrintLast Go.Proofs.YtgoiojfdphfelaaW.PrintMore
attribute [local go_sem] max2_int min2_int max_two min_two max_three min_three max_four min_four   -- for this text's walks alone
set_option linter.unusedVariables false
set_option linter.unusedSimpArgs false

/-! ### quorum_Majority: function 14 -/
def quorum_Majority.f (a0 : Int) : Option (Int × Int) := if a0 < 1 then (some (0, 4)) else (if a0 > 9 then (some (0, 4)) else (some (wrap64 ((wrap64 (Int.tdiv a0 2)) + 1), 0)))
set_option maxHeartbeats 8000000 in
set_option maxRecDepth 100000 in
theorem quorum_Majority.calls (a0 : Int) (r1 : Int) (r2 : Int) (w : World) (h : quorum_Majority.f a0 = some (r1, r2)) :
    Calls Try.prog 14 #[.int .i64 a0] w fun e w' => e = .returned (.tuple #[.int .i64 r1, .int .i64 r2]) ∧ Drawn0 w w' := by
  have H : (if a0 < 1 then (some (0, 4)) else (if a0 > 9 then (some (0, 4)) else (some (wrap64 ((wrap64 (Int.tdiv a0 2)) + 1), 0)))) = some (r1, r2) := h
  clear h
  by_cases c2 : a0 < 1
  · rw [if_pos c2] at H
    have c2b0 : decide (a0 < 1) = true := decide_eq_true c2
    clear c2
    simp only [Option.some.injEq, Prod.mk.injEq] at H
    obtain ⟨rfl, rfl⟩ := H
    go_enter Try.func14, Try.ntmps14
    go_wp2
    go_ret2
    exact ⟨by first | rfl | (simp; done) | (simp [*]; done), by repeat (first | exact Drawn0.refl _ | apply Drawn0.step)⟩
  · rw [if_neg c2] at H
    have c2b0 : decide (a0 < 1) = false := decide_eq_false c2
    clear c2
    by_cases c3 : a0 > 9
    · rw [if_pos c3] at H
      have c3b0 : decide (9 < a0) = true := decide_eq_true c3
      clear c3
      simp only [Option.some.injEq, Prod.mk.injEq] at H
      obtain ⟨rfl, rfl⟩ := H
      go_enter Try.func14, Try.ntmps14
      go_wp2
      go_ret2
      exact ⟨by first | rfl | (simp; done) | (simp [*]; done), by repeat (first | exact Drawn0.refl _ | apply Drawn0.step)⟩
    · rw [if_neg c3] at H
      have c3b0 : decide (9 < a0) = false := decide_eq_false c3
      clear c3
      simp only [Option.some.injEq, Prod.mk.injEq] at H
      obtain ⟨rfl, rfl⟩ := H
      go_enter Try.func14, Try.ntmps14
      go_wp2
      go_ret2
      exact ⟨by first | rfl | (simp; done) | (simp [*]; done), by repeat (first | exact Drawn0.refl _ | apply Drawn0.step)⟩

/-! ### slices_Min_int_int: function 25, by hand -/
theorem q_min_snoc (l : List Int) (k : Nat) (h : k < l.length) (b : Int) : (l.take (k + 1)).foldl min b = min ((l.take k).foldl min b) (l.getD k 0) := by
  rw [List.take_succ_eq_append_getElem h, List.foldl_append]
  simp [List.getD_eq_getElem?_getD, List.getElem?_eq_getElem h]
def slices_Min_int_int.f (l0 : List Int) : Option Int := if l0 = [] then none else some (l0.foldl min (l0.getD 0 0))
set_option maxHeartbeats 1000000 in
theorem slices_Min_int_int.calls (A0 : Option Addr) (c0 : Nat) (l0 : List Int) (r : Int) (w : World) (hr0 : Kd.C (Kd.int .i64) w A0 l0.length l0) (hc0 : l0.length ≤ c0) (h : slices_Min_int_int.f l0 = some r) :
    Calls Try.prog 25 #[.slice A0 l0.length c0] w fun e w' => e = .returned (.int .i64 r) ∧ Below w.heap.size w w' := by
  have hne : l0 ≠ [] := by intro e; unfold slices_Min_int_int.f at h; rw [if_pos e] at h; cases h
  have hH : l0.foldl min (l0.getD 0 0) = r := by unfold slices_Min_int_int.f at h; rw [if_neg hne] at h; exact Option.some.inj h
  have H := Aside0.mk hH
  have HR := Aside0.mk hr0
  have hpos : 0 < l0.length := List.length_pos_iff.2 hne
  clear hr0 h hH hne
  have hmax : l0.length ≤ 9223372036854775807 := HR.out.2.1
  obtain ⟨ad, cs_, rfl, _, hk_, hcell_⟩ := Kd.C_get HR.out 0 0 (by omega) (by omega)
  have hcs_ : cs_ = [_] := hk_
  subst hcs_
  have x0 := hcell_ 0 _ rfl
  clear hk_ hcell_
  simp only [show (Kd.int .i64).sz = 1 from rfl, Nat.mul_one, Nat.add_zero, Nat.zero_mul] at x0
  have x0' : w.cell? ad = some (.int .i64 (l0.getD 0 0)) := by have := x0; simpa [Addr.add] using this
  clear x0
  generalize hv0 : l0.getD 0 0 = v0 at x0' H
  have HV0 := Aside0.mk hv0
  clear hv0
  have cl : decide ((l0.length : Int) < 1) = false := decide_eq_false (by omega)
  go_enter Try.func25, Try.ntmps25
  go_wp2
  go_loopw [3, 4] (fun m i wr => ∃ k : Nat, 1 ≤ k ∧ k ≤ l0.length ∧ i = .int .i64 k ∧ m = .int .i64 ((l0.take k).foldl min v0) ∧ wr = w) (fun _ i _ => l0.length - (intOf i).toNat)
  case atStart =>
    refine ⟨1, Nat.le_refl _, hpos, rfl, ?_, rfl⟩
    rw [q_min_snoc l0 0 hpos, HV0.out]
    simp
  case round =>
    obtain ⟨k, hk1, hk, rfl, rfl, rfl⟩ := hrel
    by_cases hlt : k < l0.length
    · obtain ⟨ad2, cs2, e2, _, hk2, hcell2⟩ := Kd.C_get HR.out 0 k (by omega) (by omega)
      obtain rfl : ad = ad2 := by cases e2; rfl
      have hcs2 : cs2 = [_] := hk2
      subst hcs2
      have xk := hcell2 0 _ rfl
      clear hk2 hcell2 e2
      simp only [Int.toNat_natCast, Nat.mul_one, Nat.add_zero, show (Kd.int .i64).sz = 1 from rfl] at xk
      generalize hek : l0.getD k 0 = ek at xk
      have HEK := Aside0.mk hek
      clear hek
      go_wp2
      go_roundw
      case rel =>
        exact ⟨k + 1, by omega, by omega, by go_num, by rw [q_min_snoc l0 k hlt, HEK.out]; simp only [Int.min_def, Int.max_def]; (split <;> split) <;> first | rfl | (congr 1; omega), trivial⟩
      case measure => simp [intOf]; omega
    · obtain rfl : k = l0.length := by omega
      clear hlt
      go_wp2
      go_ret
      have ht : l0.take l0.length = l0 := List.take_length
      exact ⟨by rw [ht]; rw [H.out]; rfl, Below.refl _ _⟩

/-! ### slices_Max_int_int: function 26, by hand -/
theorem q_max_snoc (l : List Int) (k : Nat) (h : k < l.length) (b : Int) : (l.take (k + 1)).foldl max b = max ((l.take k).foldl max b) (l.getD k 0) := by
  rw [List.take_succ_eq_append_getElem h, List.foldl_append]
  simp [List.getD_eq_getElem?_getD, List.getElem?_eq_getElem h]
def slices_Max_int_int.f (l0 : List Int) : Option Int := if l0 = [] then none else some (l0.foldl max (l0.getD 0 0))
set_option maxHeartbeats 1000000 in
theorem slices_Max_int_int.calls (A0 : Option Addr) (c0 : Nat) (l0 : List Int) (r : Int) (w : World) (hr0 : Kd.C (Kd.int .i64) w A0 l0.length l0) (hc0 : l0.length ≤ c0) (h : slices_Max_int_int.f l0 = some r) :
    Calls Try.prog 26 #[.slice A0 l0.length c0] w fun e w' => e = .returned (.int .i64 r) ∧ Below w.heap.size w w' := by
  have hne : l0 ≠ [] := by intro e; unfold slices_Max_int_int.f at h; rw [if_pos e] at h; cases h
  have hH : l0.foldl max (l0.getD 0 0) = r := by unfold slices_Max_int_int.f at h; rw [if_neg hne] at h; exact Option.some.inj h
  have H := Aside0.mk hH
  have HR := Aside0.mk hr0
  have hpos : 0 < l0.length := List.length_pos_iff.2 hne
  clear hr0 h hH hne
  have hmax : l0.length ≤ 9223372036854775807 := HR.out.2.1
  obtain ⟨ad, cs_, rfl, _, hk_, hcell_⟩ := Kd.C_get HR.out 0 0 (by omega) (by omega)
  have hcs_ : cs_ = [_] := hk_
  subst hcs_
  have x0 := hcell_ 0 _ rfl
  clear hk_ hcell_
  simp only [show (Kd.int .i64).sz = 1 from rfl, Nat.mul_one, Nat.add_zero, Nat.zero_mul] at x0
  have x0' : w.cell? ad = some (.int .i64 (l0.getD 0 0)) := by have := x0; simpa [Addr.add] using this
  clear x0
  generalize hv0 : l0.getD 0 0 = v0 at x0' H
  have HV0 := Aside0.mk hv0
  clear hv0
  have cl : decide ((l0.length : Int) < 1) = false := decide_eq_false (by omega)
  go_enter Try.func26, Try.ntmps26
  go_wp2
  go_loopw [3, 4] (fun m i wr => ∃ k : Nat, 1 ≤ k ∧ k ≤ l0.length ∧ i = .int .i64 k ∧ m = .int .i64 ((l0.take k).foldl max v0) ∧ wr = w) (fun _ i _ => l0.length - (intOf i).toNat)
  case atStart =>
    refine ⟨1, Nat.le_refl _, hpos, rfl, ?_, rfl⟩
    rw [q_max_snoc l0 0 hpos, HV0.out]
    simp
  case round =>
    obtain ⟨k, hk1, hk, rfl, rfl, rfl⟩ := hrel
    by_cases hlt : k < l0.length
    · obtain ⟨ad2, cs2, e2, _, hk2, hcell2⟩ := Kd.C_get HR.out 0 k (by omega) (by omega)
      obtain rfl : ad = ad2 := by cases e2; rfl
      have hcs2 : cs2 = [_] := hk2
      subst hcs2
      have xk := hcell2 0 _ rfl
      clear hk2 hcell2 e2
      simp only [Int.toNat_natCast, Nat.mul_one, Nat.add_zero, show (Kd.int .i64).sz = 1 from rfl] at xk
      generalize hek : l0.getD k 0 = ek at xk
      have HEK := Aside0.mk hek
      clear hek
      go_wp2
      go_roundw
      case rel =>
        exact ⟨k + 1, by omega, by omega, by go_num, by rw [q_max_snoc l0 k hlt, HEK.out]; simp only [Int.min_def, Int.max_def]; (split <;> split) <;> first | rfl | (congr 1; omega), trivial⟩
      case measure => simp [intOf]; omega
    · obtain rfl : k = l0.length := by omega
      clear hlt
      go_wp2
      go_ret
      have ht : l0.take l0.length = l0 := List.take_length
      exact ⟨by rw [ht]; rw [H.out]; rfl, Below.refl _ _⟩

/-! ### quorum_inside: function 21 -/
def quorum_inside.f (l0 : List Int) : Option (Bool) := (slices_Min_int_int.f l0).bind fun t101 => (if t101 ≥ 0 then ((slices_Max_int_int.f l0).bind fun t102 => (some (decide (t102 ≤ 1099511627776)))) else (some false))
set_option maxHeartbeats 8000000 in
set_option maxRecDepth 100000 in
theorem quorum_inside.calls (A0 : Option Addr) (c0 : Nat) (l0 : List Int) (r : Bool) (w : World) (hr0 : Kd.C (Kd.int .i64) w A0 l0.length l0) (hc0 : l0.length ≤ c0) (h : quorum_inside.f l0 = some r) :
    Calls Try.prog 21 #[.slice A0 l0.length c0] w fun e w' => e = .returned (.bool r) ∧ Below w.heap.size w w' := by
  have HR0 := Aside0.mk hr0
  have HC0 := Aside0.mk hc0
  clear hr0 hc0
  have HB := Aside0.mk (Below.refl w.heap.size w)
  have H : ((slices_Min_int_int.f l0).bind fun t101 => (if t101 ≥ 0 then ((slices_Max_int_int.f l0).bind fun t102 => (some (decide (t102 ≤ 1099511627776)))) else (some false))) = some r := h
  clear h
  replace H := Option.bind_eq_some_iff.mp H
  obtain ⟨t101, A20, H⟩ := H
  replace H : (if t101 ≥ 0 then ((slices_Max_int_int.f l0).bind fun t102 => (some (decide (t102 ≤ 1099511627776)))) else (some false)) = some r := H
  have A2 := Aside0.mk A20
  clear A20
  by_cases c3 : t101 ≥ 0
  · rw [if_pos c3] at H
    have c3b0 : decide (0 ≤ t101) = true := decide_eq_true c3
    clear c3
    replace H := Option.bind_eq_some_iff.mp H
    obtain ⟨t102, A40, H⟩ := H
    replace H : (some (decide (t102 ≤ 1099511627776))) = some r := H
    have A4 := Aside0.mk A40
    clear A40
    obtain rfl := Option.some.inj H
    go_enter Try.func21, Try.ntmps21
    go_wp2_with (first | ((with_reducible refine gate_callee (f := 25) rfl ?_); refine goesL_ (some 4) rfl rfl Try.func25 (by kernel_rfl) rfl #[.slice A0 l0.length c0] rfl (by (try simp only [List.map_toArray, List.map_cons, List.map_nil]); first | done | rfl | (simp only [List.length_drop, List.length_take]; rfl)) ?_; (with_reducible refine (slices_Min_int_int.calls _ _ l0 t101 _ ?side1 ?side2 A2.out).mono ?_); (case side1 => repeat (first | exact HR0.out | (with_reducible refine Kd.C_alloc ?_ _) | (with_reducible refine Kd.C_drewN ?_ _) | (with_reducible refine Kd.C_drew ?_))); (case side2 => exact HC0.out); rintro e w5 ⟨rfl, hb⟩; refine ⟨_, rfl, ?_⟩; have n0_ := Aside0.mk (below_step (by repeat (first | (with_reducible first | exact HB.out | apply below_alloc | apply pw_below_drewN | apply below_drew1) | exact HB.out)) hb); clear HB; have HB := n0_; clear n0_; (try clear hb); (try clear hb2); (try clear hk); (try clear hi)) | (go_at_call 26; (with_reducible refine (slices_Max_int_int.calls _ _ l0 t102 _ ?side1 ?side2 A4.out).mono ?_); (case side1 => repeat (first | exact (Kd.C_below HR0.out HB.out) | (with_reducible refine Kd.C_alloc ?_ _) | (with_reducible refine Kd.C_drewN ?_ _) | (with_reducible refine Kd.C_drew ?_))); (case side2 => exact HC0.out); rintro e w6 ⟨rfl, hb⟩; have n0_ := Aside0.mk (below_step (by repeat (first | (with_reducible first | exact HB.out | apply below_alloc | apply pw_below_drewN | apply below_drew1) | exact HB.out)) hb); clear HB; have HB := n0_; clear n0_; (try clear hb); (try clear hb2); (try clear hk); (try clear hi)))
    go_ret
    exact ⟨by first | rfl | (simp [errW_none, errW_some] <;> rfl) | (simp [*, errW_none, errW_some] <;> rfl), by repeat (first | (with_reducible first | exact HB.out | apply below_alloc | apply pw_below_drewN | apply below_drew1) | exact HB.out)⟩
  · rw [if_neg c3] at H
    have c3b0 : decide (0 ≤ t101) = false := decide_eq_false c3
    clear c3
    obtain rfl := Option.some.inj H
    go_enter Try.func21, Try.ntmps21
    go_wp2_with (first | ((with_reducible refine gate_callee (f := 25) rfl ?_); refine goesL_ (some 4) rfl rfl Try.func25 (by kernel_rfl) rfl #[.slice A0 l0.length c0] rfl (by (try simp only [List.map_toArray, List.map_cons, List.map_nil]); first | done | rfl | (simp only [List.length_drop, List.length_take]; rfl)) ?_; (with_reducible refine (slices_Min_int_int.calls _ _ l0 t101 _ ?side1 ?side2 A2.out).mono ?_); (case side1 => repeat (first | exact HR0.out | (with_reducible refine Kd.C_alloc ?_ _) | (with_reducible refine Kd.C_drewN ?_ _) | (with_reducible refine Kd.C_drew ?_))); (case side2 => exact HC0.out); rintro e w7 ⟨rfl, hb⟩; refine ⟨_, rfl, ?_⟩; have n0_ := Aside0.mk (below_step (by repeat (first | (with_reducible first | exact HB.out | apply below_alloc | apply pw_below_drewN | apply below_drew1) | exact HB.out)) hb); clear HB; have HB := n0_; clear n0_; (try clear hb); (try clear hb2); (try clear hk); (try clear hi)))
    go_ret
    exact ⟨by first | rfl | (simp [errW_none, errW_some] <;> rfl) | (simp [*, errW_none, errW_some] <;> rfl), by repeat (first | (with_reducible first | exact HB.out | apply below_alloc | apply pw_below_drewN | apply below_drew1) | exact HB.out)⟩

/-! ### slices_Values_int_int_1: function 29, by hand -/
theorem q_next (zs : List Int) (k : Nat) (h : k < zs.length) : zs.take (k + 1) = zs.take k ++ [zs.getD k 0] := by
  rw [List.take_succ_eq_append_getElem h]
  simp [List.getD_eq_getElem?_getD, List.getElem?_eq_getElem h]
set_option maxRecDepth 100000 in
set_option maxHeartbeats 1000000 in
theorem q_vals1 (n : Nat) (hn : 1 ≤ n) (l Bs c0 : Nat) (A0 : Option Addr) (zs : List Int) (hlen : zs.length ≤ 9) (W0 : World) (hr : Kd.C (Kd.int .i64) W0 A0 zs.length zs) (J Jx : List Int → World → Prop)
    (hY : ∀ (pre : List Int) (x : Int) W, J pre W → pre.length < zs.length → YieldAt Fence.wide (n - 1) Try.prog l #[.int .i64 x] W fun e W' =>
      (e = .returned (.bool true) ∧ J (pre ++ [x]) W' ∧ Below W0.heap.size W W') ∨ (e = .returned (.bool false) ∧ Jx (pre ++ [x]) W'))
    (W : World) (hW : Below W0.heap.size W0 W) (hB : Boxed W Bs 22 (.slice A0 zs.length c0)) (h0 : J [] W) :
    CallsIn Fence.wide n Try.prog 29 #[.func (.yield l) #[] #[], .pointer (some ⟨Bs, 0, none⟩)] W fun e W' => (∃ v, e = .returned v) ∧
      ((∃ ys, ys = zs ∧ J ys W') ∨ (∃ pre, pre <+: zs ∧ Jx pre W')) := by
  refine callsIn_of_wp Try.func29 rfl trivial ?_ rfl
  simp only [Try.ntmps29, List.size_toArray, List.length_cons, List.length_nil, Nat.reduceAdd, Nat.reduceSub, Array.replicate_succ, Array.replicate_zero, List.push_toArray, List.append_toArray, List.nil_append, List.cons_append]
  have hcell := hB.cell
  have HR := Aside0.mk hr
  clear hr
  gi_wp2
  gi_loopw [7] (fun p wr => ∃ (i : Nat), p = .int .i64 i ∧ i ≤ zs.length ∧ Below W0.heap.size W0 wr ∧ J (zs.take i) wr)
    (fun p wr => zs.length - (intOf p).toNat)
  case atStart =>
    exact ⟨0, rfl, by omega, hW, by simpa using h0⟩
  case round =>
    obtain ⟨i, rfl, hi, hb, hJ⟩ := hrel
    by_cases hlt : i < zs.length
    · obtain ⟨ad, cs2, e2, _, hk2, hcell2⟩ := Kd.C_get HR.out 0 i (by omega) (by omega)
      subst e2
      have hcs2 : cs2 = [_] := hk2
      subst hcs2
      have xk := hcell2 0 _ rfl
      clear hk2 hcell2
      simp only [Int.toNat_natCast, Nat.mul_one, Nat.add_zero, show (Kd.int .i64).sz = 1 from rfl] at xk
      generalize hek : zs.getD i 0 = ek at xk
      have HEK := Aside0.mk hek
      clear hek
      have xk' := (hb.cell (World.block_lt_of_cell? W0 _ xk)).trans xk
      have hY' := hY (zs.take i) ek wr hJ (by simp; omega)
      obtain ⟨fn, tmps, assign, body, hy, hR⟩ := hY'
      gi_wp2
      refine hR.mono ?_
      rintro e W3 (⟨rfl, hJ3, hk3⟩ | ⟨rfl, hJx3⟩)
      · gi_wp2
        go_roundw
        case rel => exact ⟨i + 1, by simp, by omega, hb.trans hk3, by rw [q_next zs i hlt, HEK.out]; exact hJ3⟩
        case measure => simp [intOf]; omega
      · gi_wp2
        refine bodyPost_ret (results_none rfl _ _ _) rfl ?_
        exact ⟨⟨_, rfl⟩, .inr ⟨_, by rw [← HEK.out, ← q_next zs i hlt]; exact List.take_prefix _ _, hJx3⟩⟩
    · obtain rfl : i = zs.length := by omega
      gi_wp2
      go_end0
      exact ⟨⟨_, rfl⟩, .inl ⟨_, rfl, by rwa [List.take_length] at hJ⟩⟩
set_option maxHeartbeats 1000000 in
theorem q_values (n : Nat) (A0 : Option Addr) (len c0 : Nat) (w : World) :
    CallsIn Fence.wide n Try.prog 23 #[.slice A0 len c0] w fun e w' => e = .returned (.func (.func 29) #[] #[.pointer (some ⟨w.heap.size, 0, none⟩)]) ∧ w' = w.alloc (.cells #[.slice A0 len c0] 22) := by
  refine callsIn_of_wp Try.func23 rfl trivial ?_ rfl
  simp only [Try.ntmps23, List.size_toArray, List.length_cons, List.length_nil, Nat.reduceAdd, Nat.reduceSub, Array.replicate_succ, Array.replicate_zero, List.push_toArray, List.append_toArray, List.nil_append, List.cons_append]
  gi_wp2
  go_ret
  exact ⟨rfl, rfl⟩
theorem q_stops (n : Nat) (hn : 1 ≤ n) (Bs c0 : Nat) (A0 : Option Addr) (zs : List Int) (hlen : zs.length ≤ 9) (W0 : World) (hr : Kd.C (Kd.int .i64) W0 A0 zs.length zs) (w : World) (hb : Below W0.heap.size W0 w) (hB : Boxed w Bs 22 (.slice A0 zs.length c0)) :
    SeqStopsK Fence.wide n Try.prog 29 #[.pointer (some ⟨Bs, 0, none⟩)] (fun x : Int => #[Value.int .i64 x]) (Below W0.heap.size) (fun ys => ys = zs) (fun pre => pre <+: zs) zs.length w := fun l J Jx W hW _ _ hY h0 =>
  q_vals1 n hn l Bs c0 A0 zs hlen W0 hr J Jx hY W (hb.trans (hW.mono hb.size)) ((hW.block Bs hB.lt).trans hB) h0

/-! ### slices_AppendSeq_int_int: function 30, by hand -/
section
attribute [local go_sem] Oper.semAt_some
set_option maxRecDepth 100000 in
set_option maxHeartbeats 2000000 in
theorem q_appendSeq (Bs c0 : Nat) (A0 : Option Addr) (zs : List Int) (hlen : zs.length ≤ 9) (W0 : World) (hr : Kd.C (Kd.int .i64) W0 A0 zs.length zs) (w : World) (hb : Below W0.heap.size W0 w) (hB : Boxed w Bs 22 (.slice A0 zs.length c0)) :
    CallsIn Fence.wide 3 Try.prog 30 #[.slice none 0 0, .func (.func 29) #[] #[.pointer (some ⟨Bs, 0, none⟩)]] w fun e w' =>
      ∃ v, e = .returned v ∧ w'.ownsRow w.heap.size 3 1 v zs.length (zs.map (Value.int .i64)) ∧ Below w.heap.size w w' := by
  obtain ⟨i0, hi, hz0, hz1, hz2⟩ := info_parts info3
  have hsz := hb.size
  refine callsIn_of_wp_marks Try.func30 rfl trivial ?_ rfl
  simp only [Try.ntmps30, List.size_toArray, List.length_cons, List.length_nil, Nat.reduceAdd, Nat.reduceSub, Array.replicate_succ, Array.replicate_zero, List.push_toArray, List.append_toArray, List.nil_append, List.cons_append]
  gi_wp2
  have bO := Boxed.new w 22 (.slice none 0 0)
  have hB0 : Below w.heap.size w (w.alloc (.cells #[.slice none 0 0] 22)) := (Below.refl _ w).alloc (Nat.le_refl _) _
  refine wpIn_rangeFunc_ownG rfl (by decide) (gf := 29) (lb := #[.pointer (some ⟨Bs, 0, none⟩)]) rfl trivial (enters_of Try.func29 (by kernel_rfl) rfl)
    (q_stops 2 (by decide) Bs c0 A0 zs hlen W0 hr (w.alloc (.cells #[.slice none 0 0] 22)) (hb.trans (hB0.mono hsz)) (hB.alloc _)) belowK_t (belowK_b (by simp; omega)) (Below.refl _ _) (fun _ => rfl)
    (fun (pre : List Int) W => (∃ v, Boxed W w.heap.size 22 v ∧ W.ownsRow w.heap.size 3 1 v pre.length (pre.map (Value.int .i64)) ∧ True) ∧ Below w.heap.size w W)
    (fun _ _ _ => False)
    (OwnFrom.and (Own.from (holdsRow_own w.heap.size w.heap.size 22 3 1 (fun (pre : List Int) => pre.length) (fun (pre : List Int) => pre.map (Value.int .i64)) (fun _ _ => True)) _) (ownFrom_below (Nat.le_refl _) (by simp)))
    (fun _ _ _ _ _ hs _ _ => hs)
    ⟨⟨_, bO, World.ownsRow_nil _ _ _ _, trivial⟩, hB0⟩
    (fun x => { tmps := #[.slice none 0 0, .func (.func 29) #[] #[.pointer (some ⟨Bs, 0, none⟩)], .pointer (some ⟨w.heap.size, 0, none⟩), undef, .slice none 0 0, .int .i64 x, .func (.func 29) #[] #[.pointer (some ⟨Bs, 0, none⟩)], .int .i64 x, undef, undef, undef, undef, undef], defers := [] }) ?assign ?body ?done ?stop
  case assign =>
    intro l x W K hK
    gi_wp2
    exact hK
  case body =>
    rintro l pre x W ⟨⟨v, hv, hrow, _⟩, hBW⟩ hlt
    have hc := hv.cell
    gi_wp2_with (gi_at_builtin; refine wpListIn_append_own _ rfl _ _ 22 rfl w.heap.size 3 i0 (.int .i64 0) 1 8 Try.underlying22 hi hz0 hz1 hz2 rfl (by decide) _ _ _ rfl (hrow.alloc _) ⟨W.heap.size, 0, none⟩ 1 1 [.int .i64 x] rfl rfl (cell_one_new _ _ _) (by simp [Value.oneCell']) (by have : maxLen = 9223372036854775807 := rfl; omega) (by omega) (by have := hBW.size; simp; omega) ?_; intro v' w1 hown' hgrow _; obtain ⟨g', cap', rfl⟩ := ownsRow_succ hown'; obtain ⟨hv1, hv2, hr2, hk2, hb2⟩ := hv.appended (by decide) hrow hBW.size (Nat.le_refl _) hown' hgrow; have hc1 := hv1.cell; have hf1 := hv1.frozen)
    exact ⟨hk2.from _, hb2.mono hsz, ⟨_, hv2, by simpa using hr2, trivial⟩, hBW.trans hb2⟩
  case done =>
    rintro D ys W hD rfl ⟨⟨v, hv, hrow, _⟩, hBW⟩ hK
    have hc := hv.cell
    gi_wp2
    refine ⟨by simp, .inl ⟨_, _, rfl, run_takeDeferred hK, ?_⟩⟩
    exact ⟨_, results_tmp rfl _ _ _, v, rfl, ownsRow_putObj hrow _ hK rfl, hBW.trans (belowK_b (w := w) (Nat.le_refl _) W D _ _ (by simp at hD; omega) hK rfl rfl)⟩
  case stop =>
    rintro D c pre W _ _ h _
    exact h.elim
end

/-! ### slices_Collect_int: function 27, by hand -/
set_option maxRecDepth 100000 in
set_option maxHeartbeats 1000000 in
theorem q_collect (Bs c0 : Nat) (A0 : Option Addr) (zs : List Int) (hlen : zs.length ≤ 9) (W0 : World) (hr : Kd.C (Kd.int .i64) W0 A0 zs.length zs) (w : World) (hb : Below W0.heap.size W0 w) (hB : Boxed w Bs 22 (.slice A0 zs.length c0)) :
    CallsIn Fence.wide 4 Try.prog 27 #[.func (.func 29) #[] #[.pointer (some ⟨Bs, 0, none⟩)]] w fun e w' =>
      ∃ v, e = .returned v ∧ w'.ownsRow w.heap.size 3 1 v zs.length (zs.map (Value.int .i64)) ∧ Below w.heap.size w w' := by
  have hF : Fence.wide.fn 30 := trivial
  have hA := q_appendSeq Bs c0 A0 zs hlen W0 hr w hb hB
  clear hr hb hB
  refine callsIn_of_wp Try.func27 rfl trivial ?_ rfl
  simp only [Try.ntmps27, List.size_toArray, List.length_cons, List.length_nil, Nat.reduceAdd, Nat.reduceSub, Array.replicate_succ, Array.replicate_zero, List.push_toArray, List.append_toArray, List.nil_append, List.cons_append]
  gi_wp2_with (gi_at_call 30; refine hA.mono ?_; rintro e w' ⟨v, rfl, hrow, hb⟩)
  go_ret
  exact ⟨v, rfl, hrow, hb⟩

/-! ### slices_Sort_int_int: function 28, by hand -/
def sortLays_ren : Go.Shelf.Ren := ⟨fun | 5 => 28 | 8 => 32 | 7 => 31 | 19 => 42 | 20 => 43 | 10 => 33 | 11 => 34 | 12 => 35 | 13 => 36 | 14 => 37 | 15 => 38 | 16 => 39 | 17 => 40 | 18 => 41 | 30 => 44 | 31 => 45 | 32 => 46 | 33 => 47 | 34 => 48 | 35 => 49 | 40 => 50 | n => n, fun | 23 => 22 | 25 => 3 | 3 => 3 | 32 => 57 | 22 => 22 | 0 => 0 | 44 => 68 | 46 => 70 | 4 => 4 | 36 => 60 | 35 => 59 | 41 => 65 | 5 => 5 | 9 => 9 | 53 => 71 | 57 => 75 | 63 => 77 | 64 => 38 | n => n, fun | n => n⟩
theorem sortLays : Go.Proofs.SlLaysM.n5 Try.prog sortLays_ren := {
  mixed := by kernel_rfl
  f5 := ⟨Try.f28.name, by decide, Try.func28.trans (congrArg some (by kernel_rfl))⟩
  f7 := ⟨Try.f31.name, by decide, Try.func31.trans (congrArg some (by kernel_rfl))⟩
  f8 := Try.func32.trans (congrArg some (by kernel_rfl))
  f10 := ⟨Try.f33.name, by decide, Try.func33.trans (congrArg some (by kernel_rfl))⟩
  f11 := ⟨Try.f34.name, by decide, Try.func34.trans (congrArg some (by kernel_rfl))⟩
  f12 := ⟨Try.f35.name, by decide, Try.func35.trans (congrArg some (by kernel_rfl))⟩
  f13 := ⟨Try.f36.name, by decide, Try.func36.trans (congrArg some (by kernel_rfl))⟩
  f14 := ⟨Try.f37.name, by decide, Try.func37.trans (congrArg some (by kernel_rfl))⟩
  f15 := ⟨Try.f38.name, by decide, Try.func38.trans (congrArg some (by kernel_rfl))⟩
  f16 := ⟨Try.f39.name, by decide, Try.func39.trans (congrArg some (by kernel_rfl))⟩
  f17 := ⟨Try.f40.name, by decide, Try.func40.trans (congrArg some (by kernel_rfl))⟩
  f18 := ⟨Try.f41.name, by decide, Try.func41.trans (congrArg some (by kernel_rfl))⟩
  f19 := Try.func42.trans (congrArg some (by kernel_rfl))
  f20 := Try.func43.trans (congrArg some (by kernel_rfl))
  f30 := ⟨Try.f44.name, by decide, Try.func44.trans (congrArg some (by kernel_rfl))⟩
  f31 := Try.func45.trans (congrArg some (by kernel_rfl))
  f32 := Try.func46.trans (congrArg some (by kernel_rfl))
  f33 := ⟨Try.f47.name, by decide, Try.func47.trans (congrArg some (by kernel_rfl))⟩
  f34 := ⟨Try.f48.name, by decide, Try.func48.trans (congrArg some (by kernel_rfl))⟩
  f35 := ⟨Try.f49.name, by decide, Try.func49.trans (congrArg some (by kernel_rfl))⟩
  f40 := ⟨Try.f50.name, by decide, Try.func50.trans (congrArg some (by kernel_rfl))⟩
  t0 := Try.underlying0
  a0 := Try.isAgg0
  z0 := Try.sizeOf0
  v0 := Try.zeroValue0
  t3 := Try.underlying3
  a3 := Try.isAgg3
  z3 := Try.sizeOf3
  v3 := Try.zeroValue3
  t4 := Try.underlying4
  a4 := Try.isAgg4
  z4 := Try.sizeOf4
  v4 := Try.zeroValue4
  t5 := Try.underlying5
  a5 := Try.isAgg5
  z5 := Try.sizeOf5
  v5 := Try.zeroValue5
  t9 := Try.underlying9
  a9 := Try.isAgg9
  z9 := Try.sizeOf9
  v9 := Try.zeroValue9
  t22 := Try.underlying22
  a22 := Try.isAgg22
  z22 := Try.sizeOf22
  v22 := Try.zeroValue22
  t23 := Try.underlying22
  a23 := Try.isAgg22
  z23 := Try.sizeOf22
  v23 := Try.zeroValue22
  t25 := Try.underlying3
  a25 := Try.isAgg3
  z25 := Try.sizeOf3
  v25 := Try.zeroValue3
  t32 := Try.underlying57
  a32 := Try.isAgg57
  z32 := Try.sizeOf57
  v32 := Try.zeroValue57
  t35 := Try.underlying59
  a35 := Try.isAgg59
  z35 := Try.sizeOf59
  v35 := Try.zeroValue59
  t36 := Try.underlying60
  a36 := Try.isAgg60
  z36 := Try.sizeOf60
  v36 := Try.zeroValue60
  t41 := Try.underlying65
  a41 := Try.isAgg65
  z41 := Try.sizeOf65
  v41 := Try.zeroValue65
  t44 := Try.underlying68
  a44 := Try.isAgg68
  z44 := Try.sizeOf68
  v44 := Try.zeroValue68
  t46 := Try.underlying70
  a46 := Try.isAgg70
  z46 := Try.sizeOf70
  v46 := Try.zeroValue70
  t53 := Try.underlying71
  a53 := Try.isAgg71
  z53 := Try.sizeOf71
  v53 := Try.zeroValue71
  t57 := Try.underlying75
  a57 := Try.isAgg75
  z57 := Try.sizeOf75
  v57 := Try.zeroValue75
  t63 := Try.underlying77
  a63 := Try.isAgg77
  z63 := Try.sizeOf77
  v63 := Try.zeroValue77
  t64 := Try.underlying38
  a64 := Try.isAgg38
  z64 := Try.sizeOf38
  v64 := Try.zeroValue38 }

/-! ### slices_Sorted_int: function 22, by hand -/
set_option maxRecDepth 100000 in
set_option maxHeartbeats 1000000 in
theorem q_sorted (Bs c0 : Nat) (A0 : Option Addr) (zs : List Int) (hpos : 0 < zs.length) (hlen : zs.length ≤ 9) (W0 : World) (hr : Kd.C (Kd.int .i64) W0 A0 zs.length zs) (w : World) (hb : Below W0.heap.size W0 w) (hB : Boxed w Bs 22 (.slice A0 zs.length c0)) :
    CallsIn Fence.wide 5 Try.prog 22 #[.func (.func 29) #[] #[.pointer (some ⟨Bs, 0, none⟩)]] w fun e w' =>
      ∃ g cap, e = .returned (.slice (some ⟨g, 0, none⟩) zs.length cap) ∧ zs.length ≤ cap ∧ Go.Sort.Holds (Value.int .i64) w' g 0 (zs.mergeSort fun x y => decide (x ≤ y)).toArray ∧ Below w.heap.size w w' := by
  have hF : Fence.wide.fn 27 := trivial
  have hF2 : Fence.wide.fn 28 := trivial
  have hA := q_collect Bs c0 A0 zs hlen W0 hr w hb hB
  clear hr hb hB
  refine callsIn_of_wp Try.func22 rfl trivial ?_ rfl
  simp only [Try.ntmps22, List.size_toArray, List.length_cons, List.length_nil, Nat.reduceAdd, Nat.reduceSub, Array.replicate_succ, Array.replicate_zero, List.push_toArray, List.append_toArray, List.nil_append, List.cons_append]
  gi_wp2_with (gi_at_call 27; refine hA.mono ?_; rintro e W ⟨v, rfl, hrow, hb⟩)
  rcases hrow.2 with ⟨_, hz⟩ | ⟨gb, cap, cur, rfl, hbase, hgb, r1, r2, r3, r4⟩
  · omega
  have hH := holds_of_blockI hgb (by simpa using r4)
  have hgl : gb < W.heap.size := (Array.getElem?_eq_some_iff.1 hgb).1
  have cS : CallsIn Fence.wide 4 Try.prog 28 _ _ _ := callsIn_wide.2 (AnyM.slices_Sort_int sortLays gb 0 cap zs W hH hgl (by omega))
  gi_wp2_with (gi_at_call 28; refine cS.mono ?_; rintro e w' ⟨rfl, nn, os, rfl⟩)
  go_ret
  have hl : (zs.mergeSort fun x y => decide (x ≤ y)).length = zs.length := List.length_mergeSort _
  have own := ownsRow_sortedI (n := nn) (os := os) hl hbase hgb r1 r2 r3
  rcases own.2 with ⟨_, hz⟩ | ⟨g', cap', cur', e', hbase', hgb', r1', r2', r3', r4'⟩
  · omega
  cases e'
  exact ⟨gb, cap, rfl, r1, holds_of_blockI hgb' (by simpa [hl] using r4'), hb.grown (grownBy_sortedI _) hb.size (fun j hj => by cases hj; exact hbase)⟩

-- NOT PRINTED: function 23 (slices_Values_int_int)

/-! ### quorum_Agreed: function 8, by hand -/
def quo_in (l : List Int) : Bool := decide (0 ≤ l.foldl min (l.getD 0 0)) && decide (l.foldl max (l.getD 0 0) ≤ 1099511627776)
def quo_agreed (l : List Int) : Int × Int :=
  if l.length < 1 ∨ 9 < l.length then (0, 3) else if quo_in l = false then (0, 4) else ((l.mergeSort fun x y => decide (x ≤ y)).getD (l.length - (l.length / 2 + 1)) 0, 0)
def quorum_Agreed.f (l0 : List Int) : Option (Int × Int) := some (quo_agreed l0)
theorem quo_inside (l : List Int) (h : l ≠ []) : quorum_inside.f l = some (quo_in l) := by
  simp only [quorum_inside.f, slices_Min_int_int.f, slices_Max_int_int.f, if_neg h, Option.bind_some, quo_in]
  by_cases c : l.foldl min (l.getD 0 0) ≥ 0
  · rw [if_pos c, decide_eq_true (show 0 ≤ l.foldl min (l.getD 0 0) from c)]; simp
  · rw [if_neg c, decide_eq_false (show ¬ 0 ≤ l.foldl min (l.getD 0 0) from c)]; simp
theorem quo_major (n : Nat) (h1 : 1 ≤ n) (h9 : n ≤ 9) : quorum_Majority.f (n : Int) = some (((n / 2 + 1 : Nat) : Int), 0) := by
  unfold quorum_Majority.f
  rw [if_neg (by omega), if_neg (by omega), Int.tdiv_eq_ediv_of_nonneg (by omega)]
  rw [wrap_add (i := (n : Int) / 2) (by omega) (by omega), wrap_add (by omega) (by omega)]
  simp
theorem quo_majorbad (n : Nat) (h : n < 1 ∨ 9 < n) : quorum_Majority.f (n : Int) = some (0, 4) := by
  unfold quorum_Majority.f
  by_cases c : (n : Int) < 1
  · rw [if_pos c]
  · rw [if_neg c, if_pos (by omega)]
set_option maxRecDepth 100000 in
set_option maxHeartbeats 2000000 in
theorem quorum_Agreed.calls (A0 : Option Addr) (c0 : Nat) (l0 : List Int) (r : Int) (r1 : Int) (w : World) (hr0 : Kd.C (Kd.int .i64) w A0 l0.length l0) (hc0 : l0.length ≤ c0) (h : quorum_Agreed.f l0 = some (r, r1)) :
    Calls Try.prog 8 #[.slice A0 l0.length c0] w fun e w' => e = .returned (.tuple #[.int .i64 r, .int .i64 r1]) ∧ Below w.heap.size w w' := by
  have H := Aside0.mk (Option.some.inj h)
  have HR := Aside0.mk hr0
  have HC := Aside0.mk hc0
  clear h hr0 hc0
  refine (callsIn_wide (n := 6)).1 (callsIn_of_wp Try.func8 rfl trivial ?_ rfl)
  simp only [Try.ntmps8, List.size_toArray, List.length_cons, List.length_nil, Nat.reduceAdd, Nat.reduceSub, Array.replicate_succ, Array.replicate_zero, List.push_toArray, List.append_toArray, List.nil_append, List.cons_append]
  by_cases c1 : l0.length < 1 ∨ 9 < l0.length
  · have hM := Aside0.mk (fun W => quorum_Majority.calls (l0.length : Int) 0 4 W (quo_majorbad _ c1))
    have hq : quo_agreed l0 = (0, 3) := by unfold quo_agreed; rw [if_pos c1]
    have H0 := H.out
    rw [hq] at H0
    cases H0
    clear c1 hq H HC
    gi_wp2
    refine ⟨trivial, callsIn_wide.2 ((hM.out _).mono ?_)⟩
    rintro e w1 ⟨rfl, hd1⟩
    have B1 := hd1.below
    clear hM hd1 HR
    gi_wp2
    refine bodyPost_ret (results_list (vs := [.int .i64 0, .int .i64 3]) rfl (by simp) (.tmp (.tmp .nil))) rfl ?_
    exact ⟨rfl, B1⟩
  · have hlen : l0.length ≤ 9 := by omega
    have hpos : 0 < l0.length := by omega
    have HL := Aside0.mk hlen
    have HP := Aside0.mk hpos
    have hne : l0 ≠ [] := List.length_pos_iff.1 hpos
    have hM := Aside0.mk (fun W => quorum_Majority.calls (l0.length : Int) _ 0 W (quo_major _ (by omega) (by omega)))
    have hI := Aside0.mk (fun W hW => quorum_inside.calls A0 c0 l0 (quo_in l0) W hW HC.out (quo_inside l0 hne))
    have hq : quo_agreed l0 = if quo_in l0 = false then (0, 4) else ((l0.mergeSort fun x y => decide (x ≤ y)).getD (l0.length - (l0.length / 2 + 1)) 0, 0) := by unfold quo_agreed; rw [if_neg c1]
    have HQ := Aside0.mk hq
    clear c1 hq hne hlen hpos
    gi_wp2
    refine ⟨trivial, callsIn_wide.2 ((hM.out _).mono ?_)⟩
    rintro e w1 ⟨rfl, hd1⟩
    have B1 := Aside0.mk hd1.below
    clear hM hd1
    gi_wp2
    have R1 := Aside0.mk (Kd.C_below HR.out B1.out)
    refine ⟨trivial, callsIn_wide.2 ((hI.out _ R1.out).mono ?_)⟩
    rintro e w2 ⟨rfl, hd2⟩
    have R2 := Aside0.mk (Kd.C_below R1.out hd2)
    have B2 := Aside0.mk (B1.out.trans (hd2.mono B1.out.size))
    clear hI hd2 R1 B1 HR
    cases hin : quo_in l0
    · have H0 := H.out
      rw [HQ.out, hin] at H0
      cases H0
      clear HQ H
      gi_wp2
      refine bodyPost_ret (results_list (vs := [.int .i64 0, .int .i64 4]) rfl (by simp) (.tmp (.tmp .nil))) rfl ?_
      exact ⟨rfl, B2.out⟩
    · have H0 := H.out
      rw [HQ.out, hin] at H0
      have HE := Aside0.mk H0
      clear HQ H H0 hin
      gi_wp2
      refine ⟨trivial, (q_values 5 A0 l0.length c0 w2).mono ?_⟩
      rintro e w' ⟨rfl, rfl⟩
      gi_wp2
      have bB := Boxed.new w2 22 (.slice A0 l0.length c0)
      have hbb : Below w2.heap.size w2 (w2.alloc (.cells #[.slice A0 l0.length c0] 22)) := (Below.refl _ w2).alloc (Nat.le_refl _) _
      refine ⟨trivial, (q_sorted w2.heap.size c0 A0 l0 HP.out HL.out w2 R2.out _ hbb bB).mono ?_⟩
      rintro e w3 ⟨g, cap, rfl, hcap, hH, hb3⟩
      have B3 := Aside0.mk (B2.out.trans ((hbb.trans (hb3.mono (by simp))).mono B2.out.size))
      clear B2 R2 hbb hb3 bB
      have hlm : (l0.mergeSort fun x y => decide (x ≤ y)).length = l0.length := List.length_mergeSort _
      have hlt : l0.length - (l0.length / 2 + 1) < l0.length := by have := HP.out; omega
      have hcell : w3.cell? ⟨g, l0.length - (l0.length / 2 + 1), none⟩ = some (.int .i64 r) := by
        have hc := (hH (l0.length - (l0.length / 2 + 1)) (by simp [hlm]; exact hlt)).1
        have he : r = (l0.mergeSort fun x y => decide (x ≤ y)).getD (l0.length - (l0.length / 2 + 1)) 0 := by have := HE.out; simpa using congrArg Prod.fst this.symm
        rw [Nat.zero_add] at hc
        rw [hc, he]
        simp [List.getD_eq_getElem?_getD, hlm, hlt]
      obtain rfl : r1 = 0 := by have := HE.out; simpa using congrArg Prod.snd this.symm
      have hcl := HL.out
      have hcp := HP.out
      clear hH HE hlm
      gi_wp2
      refine bodyPost_ret (results_list (vs := [.int .i64 r, .int .i64 0]) rfl (by simp) (.tmp (.tmp .nil))) rfl ?_
      exact ⟨rfl, B3.out⟩


/-! ### transeptlaw14_num: function 10 -/
def transeptlaw14_num.f (a0 : Int) : Option (Int) := some a0
set_option maxHeartbeats 8000000 in
set_option maxRecDepth 100000 in
theorem transeptlaw14_num.calls (a0 : Int) (r : Int) (w : World) (h : transeptlaw14_num.f a0 = some r) :
    Calls Try.prog 10 #[.int .i64 a0] w fun e w' => e = .returned (.int .i64 r) ∧ Drawn0 w w' := by
  have H : (some a0) = some r := h
  clear h
  obtain rfl := Option.some.inj H
  go_enter Try.func10, Try.ntmps10
  go_wp2
  go_ret
  exact ⟨by first | rfl | (simp; done) | (simp [*]; done), by repeat (first | exact Drawn0.refl _ | apply Drawn0.step)⟩

/-! ### transeptlaw14_alive: function 7 -/
def transeptlaw14_alive.f  : Option (Bool) := (quorum_Agreed.f (([5, 3, 9] : List Int))).bind fun bt106 => ((quorum_Majority.f 4).bind fun bt108 => ((transeptlaw14_num.f bt106.2).bind fun t110 => ((transeptlaw14_num.f bt108.2).bind fun t111 => (if (wrap64 (t110 + t111)) = 0 then (if bt106.1 = 5 then (some (bt108.1 == 3)) else (none)) else (none)))))
set_option maxHeartbeats 8000000 in
set_option maxRecDepth 100000 in
theorem transeptlaw14_alive.calls  (r : Bool) (w : World) (h : transeptlaw14_alive.f  = some r) :
    Calls Try.prog 7 #[] w fun e w' => e = .returned (.bool r) ∧ Below w.heap.size w w' := by
  have HB := Aside0.mk (Below.refl w.heap.size w)
  have H : ((quorum_Agreed.f (([5, 3, 9] : List Int))).bind fun bt106 => ((quorum_Majority.f 4).bind fun bt108 => ((transeptlaw14_num.f bt106.2).bind fun t110 => ((transeptlaw14_num.f bt108.2).bind fun t111 => (if (wrap64 (t110 + t111)) = 0 then (if bt106.1 = 5 then (some (bt108.1 == 3)) else (none)) else (none)))))) = some r := h
  clear h
  obtain ⟨y103, hy103⟩ : ∃ y_ : List Int, y_ = (([5, 3, 9] : List Int)) := ⟨_, rfl⟩
  replace H : ((quorum_Agreed.f y103).bind fun bt106 => ((quorum_Majority.f 4).bind fun bt108 => ((transeptlaw14_num.f bt106.2).bind fun t110 => ((transeptlaw14_num.f bt108.2).bind fun t111 => (if (wrap64 (t110 + t111)) = 0 then (if bt106.1 = 5 then (some (bt108.1 == 3)) else (none)) else (none)))))) = some r := by first | (rw [hy103]; with_reducible exact H) | (have H2_ := (Option.bind_some _ _).symm.trans H; rw [hy103]; with_reducible exact H2_) | (have H2_ := (Option.bind_some _ _).symm.trans H; with_reducible exact H2_) | with_reducible exact H | (rw [hy103]; exact H) | exact H
  have Ny103 := Aside0.mk hy103
  clear hy103
  replace H := Option.bind_eq_some_iff.mp H
  obtain ⟨⟨t106, t107⟩, A10, H⟩ := H
  replace H : ((quorum_Majority.f 4).bind fun bt108 => ((transeptlaw14_num.f t107).bind fun t110 => ((transeptlaw14_num.f bt108.2).bind fun t111 => (if (wrap64 (t110 + t111)) = 0 then (if t106 = 5 then (some (bt108.1 == 3)) else (none)) else (none))))) = some r := H
  have A1 := Aside0.mk A10
  clear A10
  replace H := Option.bind_eq_some_iff.mp H
  obtain ⟨⟨t108, t109⟩, A20, H⟩ := H
  replace H : ((transeptlaw14_num.f t107).bind fun t110 => ((transeptlaw14_num.f t109).bind fun t111 => (if (wrap64 (t110 + t111)) = 0 then (if t106 = 5 then (some (t108 == 3)) else (none)) else (none)))) = some r := H
  have A2 := Aside0.mk A20
  clear A20
  replace H := Option.bind_eq_some_iff.mp H
  obtain ⟨t110, A30, H⟩ := H
  replace H : ((transeptlaw14_num.f t109).bind fun t111 => (if (wrap64 (t110 + t111)) = 0 then (if t106 = 5 then (some (t108 == 3)) else (none)) else (none))) = some r := H
  have A3 := Aside0.mk A30
  clear A30
  replace H := Option.bind_eq_some_iff.mp H
  obtain ⟨t111, A40, H⟩ := H
  replace H : (if (wrap64 (t110 + t111)) = 0 then (if t106 = 5 then (some (t108 == 3)) else (none)) else (none)) = some r := H
  have A4 := Aside0.mk A40
  clear A40
  by_cases c5 : (wrap64 (t110 + t111)) = 0
  · rw [if_pos c5] at H
    have c5b0 : ((wrap64 (t110 + t111)) == 0) = true := beq_iff_eq.mpr c5
    have c5b1 : ((wrap64 (t110 + t111)) != 0) = false := bne_eq_false_iff_eq.mpr c5
    clear c5
    by_cases c6 : t106 = 5
    · rw [if_pos c6] at H
      have c6b0 : (t106 == 5) = true := beq_iff_eq.mpr c6
      have c6b1 : (t106 != 5) = false := bne_eq_false_iff_eq.mpr c6
      clear c6
      obtain rfl := Option.some.inj H
      go_enter Try.func7, Try.ntmps7
      go_wp2_with (first | ((with_reducible refine gate_dst (N := 6) rfl ?_); refine Kd.R_lit (Kd.int .i64) _ 3 ?hg (N := 6) ?hd (xs := ([5, 3, 9] : List Int)) (inner := [.int .i64 5, .int .i64 3, .int .i64 9]) (ok := fun _ => True) (okp := fun _ => True) ?hr ?hp (fun _ hk => hk) trivial (Below.refl _ _) (Nat.le_refl _) (by simp) ?_; (case hd => rfl); (case hg => rfl); (case hr => first | (go_simp; done) | (go_simp; rfl)); (case hp => exact (Reps.one (show Kd.M (Kd.int .i64) _ _ _ 5 [.int .i64 5] from rfl) (Reps.one (show Kd.M (Kd.int .i64) _ _ _ 3 [.int .i64 3] from rfl) (Reps.one (show Kd.M (Kd.int .i64) _ _ _ 9 [.int .i64 9] from rfl) (Reps.none _ _))))); intro v104 w7 ho8 hb hg_ hnew_; clear hg_ hnew_; (first | rw [← Ny103.out] at ho8 | (simp only [Int.reduceToNat] at ho8; rw [← Ny103.out] at ho8)); have n0_ := Aside0.mk (Kd.R_lower ho8 (below_size (by repeat (first | (with_reducible first | exact HB.out | apply below_alloc | apply pw_below_drewN | apply below_drew1) | exact HB.out)))); have n1_ := Aside0.mk (below_step (by repeat (first | (with_reducible first | exact HB.out | apply below_alloc | apply pw_below_drewN | apply below_drew1) | exact HB.out)) hb); clear HB; have HO105 := n0_; have HB := n1_; clear n0_ n1_; clear hb ho8; obtain ⟨Ao9, co9, eo9⟩ := Kd.R_slice HO105.out; subst eo9) | ((with_reducible refine gate_callee (f := 8) rfl ?_); refine goesL_ (some 7) rfl rfl Try.func8 (by kernel_rfl) rfl #[.slice Ao9 y103.length co9] rfl (by (try simp only [List.map_toArray, List.map_cons, List.map_nil]); first | done | rfl | (simp only [List.length_drop, List.length_take]; rfl)) ?_; (with_reducible refine (quorum_Agreed.calls _ _ y103 t106 t107 _ ?side1 ?side2 A1.out).mono ?_); (case side1 => repeat (first | exact (Kd.R_reads' HO105.out).2.2 | (with_reducible refine Kd.C_alloc ?_ _) | (with_reducible refine Kd.C_drewN ?_ _) | (with_reducible refine Kd.C_drew ?_))); (case side2 => exact (Kd.R_reads' HO105.out).2.1); rintro e w10 ⟨rfl, hb⟩; refine ⟨_, rfl, ?_⟩; have n0_ := Aside0.mk (Kd.R_below (by (with_reducible repeat (first | apply Kd.R_alloc | apply Kd.R_drewN | apply Kd.R_drew)); exact HO105.out) hb); have n1_ := Aside0.mk (below_step (by repeat (first | (with_reducible first | exact HB.out | apply below_alloc | apply pw_below_drewN | apply below_drew1) | exact HB.out)) hb); clear HO105; clear HB; have HO105 := n0_; have HB := n1_; clear n0_ n1_; (try clear hb); (try clear hb2); (try clear hk); (try clear hi)) | ((with_reducible refine gate_callee (f := 14) rfl ?_); refine goesL_ (some 11) rfl rfl Try.func14 (by kernel_rfl) rfl #[.int .i64 4] rfl (by (try simp only [List.map_toArray, List.map_cons, List.map_nil]); first | done | rfl | (simp only [List.length_drop, List.length_take]; rfl)) ?_; (with_reducible refine (quorum_Majority.calls 4 t108 t109 _ A2.out).mono ?_); rintro e w' ⟨rfl, ⟨nd, rfl⟩⟩; refine ⟨_, rfl, ?_⟩) | ((with_reducible refine gate_callee (f := 10) rfl ?_); refine goesL_ (some 15) rfl rfl Try.func10 (by kernel_rfl) rfl #[.int .i64 t107] rfl (by (try simp only [List.map_toArray, List.map_cons, List.map_nil]); first | done | rfl | (simp only [List.length_drop, List.length_take]; rfl)) ?_; (with_reducible refine (transeptlaw14_num.calls t107 t110 _ A3.out).mono ?_); rintro e w' ⟨rfl, ⟨nd, rfl⟩⟩; refine ⟨_, rfl, ?_⟩) | ((with_reducible refine gate_callee (f := 10) rfl ?_); refine goesL_ (some 17) rfl rfl Try.func10 (by kernel_rfl) rfl #[.int .i64 t109] rfl (by (try simp only [List.map_toArray, List.map_cons, List.map_nil]); first | done | rfl | (simp only [List.length_drop, List.length_take]; rfl)) ?_; (with_reducible refine (transeptlaw14_num.calls t109 t111 _ A4.out).mono ?_); rintro e w' ⟨rfl, ⟨nd, rfl⟩⟩; refine ⟨_, rfl, ?_⟩))
      go_ret
      exact ⟨by first | rfl | (simp [errW_none, errW_some] <;> rfl) | (simp [*, errW_none, errW_some] <;> rfl), by repeat (first | (with_reducible first | exact HB.out | apply below_alloc | apply pw_below_drewN | apply below_drew1) | exact HB.out)⟩
    · rw [if_neg c6] at H
      exact absurd H (by simp)
  · rw [if_neg c5] at H
    exact absurd H (by simp)

/-! ### transeptplain_CopyInts: function 9 -/
def transeptplain_CopyInts.f (l0 : List Int) : Option (List Int) := if ([] : List Int).length + l0.length < 17592186044416 then (some (([] : List Int) ++ l0)) else (none)
set_option maxHeartbeats 8000000 in
set_option maxRecDepth 100000 in
theorem transeptplain_CopyInts.calls (A0 : Option Addr) (c0 : Nat) (l0 : List Int) (r : List Int) (w : World) (hr0 : Kd.C (Kd.int .i64) w A0 l0.length l0) (hc0 : l0.length ≤ c0) (h : transeptplain_CopyInts.f l0 = some r) :
    Calls Try.prog 9 #[.slice A0 l0.length c0] w fun e w' => ∃ v0_ : Value, e = .returned (v0_) ∧ Kd.R (Kd.int .i64) 3 w' w.heap.size (fun _ => True) v0_ r ∧ Below w.heap.size w w' := by
  have HR0 := Aside0.mk hr0
  have HC0 := Aside0.mk hc0
  clear hr0 hc0
  have HB := Aside0.mk (Below.refl w.heap.size w)
  have H : (if ([] : List Int).length + l0.length < 17592186044416 then (some (([] : List Int) ++ l0)) else (none)) = some r := h
  clear h
  by_cases c2 : ([] : List Int).length + l0.length < 17592186044416
  · rw [if_pos c2] at H
    have LMc2 := Aside0.mk c2
    clear c2
    obtain ⟨y112, hy112⟩ : ∃ y_ : List Int, y_ = (([] : List Int) ++ l0) := ⟨_, rfl⟩
    replace H : (some y112) = some r := by first | (rw [hy112]; with_reducible exact H) | (have H2_ := (Option.bind_some _ _).symm.trans H; rw [hy112]; with_reducible exact H2_) | (have H2_ := (Option.bind_some _ _).symm.trans H; with_reducible exact H2_) | with_reducible exact H | (rw [hy112]; exact H) | exact H
    have Ny112 := Aside0.mk hy112
    clear hy112
    obtain rfl := Option.some.inj H
    go_enter Try.func9, Try.ntmps9
    go_wp2_with (first | ((with_reducible refine gate_builtin (b := .append) (xs := #[.tmp 4, .tmp 5]) rfl ?_); at_builtin; refine Kd.R_append_rows (Kd.int .i64) (w0 := w) w.heap.size rfl (.tmp 4) (.tmp 5) 22 3 (.int .i64 0) 8 rfl Try.underlying22 info3 rfl (by decide) (by omega) (.slice none 0 0) ([] : List Int) l0 _ _ _ (fun _ => True) (fun _ => False) rfl rfl ?aO ?aR (fun _ _ h => h) (fun _ h => h.elim) ?aF ?aB ?aS ?aL ?_; (case aR => repeat (first | exact HR0.out | (with_reducible refine Kd.C_alloc ?_ _) | (with_reducible refine Kd.C_drewN ?_ _) | (with_reducible refine Kd.C_drew ?_))); (case aB => exact (by repeat (first | (with_reducible first | exact HB.out | apply below_alloc | apply pw_below_drewN | apply below_drew1) | exact HB.out))); (case aF => exact (fun _ _ => trivial)); (case aO => exact ((Kd.R_nil _ _ _ _ (fun _ => True)))); (case aS => exact (below_size (by repeat (first | (with_reducible first | exact HB.out | apply below_alloc | apply pw_below_drewN | apply below_drew1) | exact HB.out)))); (case aL => have := LMc2.out; omega); intro v113 w3 ho hb hg hat; rw [← Ny112.out] at ho; have n0_ := Aside0.mk (hb); have n1_ := Aside0.mk (ho); clear HB; have HB := n0_; have HO114 := n1_; clear n0_ n1_; clear ho hb hg hat))
    go_ret
    exact ⟨_, by first | rfl | (simp [errW_none, errW_some] <;> rfl) | (simp [*, errW_none, errW_some] <;> rfl), by (with_reducible repeat (first | apply Kd.R_alloc | apply Kd.R_drewN | apply Kd.R_drew)); exact HO114.out, by repeat (first | (with_reducible first | exact HB.out | apply below_alloc | apply pw_below_drewN | apply below_drew1) | exact HB.out)⟩
  · rw [if_neg c2] at H
    exact absurd H (by simp)

end Go.Proofs.Ytgoiojfdphfelaa.Print
