/- Written by pp.py, a program of this project that runs the kit's print over the translation, with functions proved by hand put in. Lean checks it. -/
import Derived.Test.YtpjaebbgbmhneaaPrint0
namespace Go.Proofs.Ytpjaebbgbmhneaa.Print
open Go.RowKit Go.Proofs.YtpjaebbgbmhneaaW.PrintWords Go.Proofs.YtpjaebbgbmhneaaW.PrintLast Go.Proofs.YtpjaebbgbmhneaaW.PrintMore
attribute [local go_sem] max2_int min2_int max_two min_two max_three min_three max_four min_four   -- for this text's walks alone
set_option linter.unusedVariables false
set_option linter.unusedSimpArgs false

/-! ### command_numbers: function 34 -/
mutual
def command_numbers.j0 : Nat → Int → Int → Int → Int → List (S48) → Option (Bool)
  | 0, _, _, _, _, _ => none
  | k + 1, x102000, x102001, x102002, x102003, x102004 => if x102002 < 0 then (command_numbers.j1 k true x102000 x102001 x102002 x102003 x102004) else (command_numbers.j1 k (decide (x102002 ≥ 4)) x102000 x102001 x102002 x102003 x102004)
def command_numbers.j1 : Nat → Bool → Int → Int → Int → Int → List (S48) → Option (Bool)
  | 0, _, _, _, _, _, _ => none
  | k + 1, x24, x102000, x102001, x102002, x102003, x102004 => if x24 = true then (some false) else (if x102000 = 4 then (if x102003 = 1 then (some true) else (some (x102003 == 2))) else (some (x102003 == 0)))
end
def command_numbers.f (k : Nat) (a0_0 : Int) (a0_1 : Int) (a0_2 : Int) (a0_3 : Int) (l0_4 : List (S48)) : Option (Bool) := if a0_0 ≥ 5 then (if a0_1 = 0 then (command_numbers.j0 k a0_0 a0_1 a0_2 a0_3 l0_4) else (some false)) else (if a0_1 < 1 then (some false) else (if a0_1 > 1099511627776 then (some false) else (command_numbers.j0 k a0_0 a0_1 a0_2 a0_3 l0_4)))
theorem command_numbers.mono_l : ∀ k, (∀ y0 y1 y2 y3 y4, LeO (command_numbers.j0 k y0 y1 y2 y3 y4) (command_numbers.j0 (k + 1) y0 y1 y2 y3 y4)) ∧ (∀ y0 y1 y2 y3 y4 y5, LeO (command_numbers.j1 k y0 y1 y2 y3 y4 y5) (command_numbers.j1 (k + 1) y0 y1 y2 y3 y4 y5))
  | 0 => ⟨fun _ _ _ _ _ r h => by simp [command_numbers.j0] at h, fun _ _ _ _ _ _ r h => by simp [command_numbers.j1] at h⟩
  | k + 1 => by
    obtain ⟨ih0, ih1⟩ := command_numbers.mono_l k
    refine ⟨?_, ?_⟩
    · intro y0 y1 y2 y3 y4
      unfold command_numbers.j0
      repeat' first
      | (with_reducible exact ih0 _ _ _ _ _)
      | (with_reducible exact ih1 _ _ _ _ _ _)
      | (with_reducible exact LeO.refl _)
      | (with_reducible exact LeO.none _)
      | (with_reducible refine LeO.ite ?_ ?_)
      | (with_reducible refine LeO.bind ?_ (fun _ => ?_))
      | exact ih0 _ _ _ _ _
      | exact ih1 _ _ _ _ _ _
      | exact LeO.none _
      | refine LeO.ite ?_ ?_
      | refine LeO.bind ?_ (fun _ => ?_)
    · intro y0 y1 y2 y3 y4 y5
      unfold command_numbers.j1
      repeat' first
      | (with_reducible exact ih0 _ _ _ _ _)
      | (with_reducible exact ih1 _ _ _ _ _ _)
      | (with_reducible exact LeO.refl _)
      | (with_reducible exact LeO.none _)
      | (with_reducible refine LeO.ite ?_ ?_)
      | (with_reducible refine LeO.bind ?_ (fun _ => ?_))
      | exact ih0 _ _ _ _ _
      | exact ih1 _ _ _ _ _ _
      | exact LeO.none _
      | refine LeO.ite ?_ ?_
      | refine LeO.bind ?_ (fun _ => ?_)
theorem command_numbers.mono : ∀ a0 a1 a2 a3 a4 k, LeO (command_numbers.f k a0 a1 a2 a3 a4) (command_numbers.f (k + 1) a0 a1 a2 a3 a4) := by
  intro a0 a1 a2 a3 a4 k
  obtain ⟨ih0, ih1⟩ := command_numbers.mono_l k
  unfold command_numbers.f
  repeat' first
      | (with_reducible exact ih0 _ _ _ _ _)
      | (with_reducible exact ih1 _ _ _ _ _ _)
      | (with_reducible exact LeO.refl _)
      | (with_reducible exact LeO.none _)
      | (with_reducible refine LeO.ite ?_ ?_)
      | (with_reducible refine LeO.bind ?_ (fun _ => ?_))
      | exact ih0 _ _ _ _ _
      | exact ih1 _ _ _ _ _ _
      | exact LeO.none _
      | refine LeO.ite ?_ ?_
      | refine LeO.bind ?_ (fun _ => ?_)
set_option maxHeartbeats 8000000 in
set_option maxRecDepth 100000 in
theorem command_numbers.calls (k : Nat) (a0_0 : Int) (a0_1 : Int) (a0_2 : Int) (a0_3 : Int) (A0_4 : Option Addr) (c0_4 : Nat) (l0_4 : List (S48)) (r : Bool) (w : World) (hr0_4 : Kd.C k48 w A0_4 l0_4.length l0_4) (hc0_4 : l0_4.length ≤ c0_4) (h : command_numbers.f k a0_0 a0_1 a0_2 a0_3 l0_4 = some r) :
    Calls Try.prog 34 #[.agg #[.int .i64 a0_0, .int .i64 a0_1, .int .i64 a0_2, .int .i64 a0_3, .slice A0_4 l0_4.length c0_4]] w fun e w' => e = .returned (.bool r) ∧ Below w.heap.size w w' := by
  have hu24 := Try.underlying24
  have HR0_4 := Aside0.mk hr0_4
  have HC0_4 := Aside0.mk hc0_4
  clear hr0_4 hc0_4
  have HB := Aside0.mk (Below.refl w.heap.size w)
  have H : (if a0_0 ≥ 5 then (if a0_1 = 0 then (command_numbers.j0 k a0_0 a0_1 a0_2 a0_3 l0_4) else (some false)) else (if a0_1 < 1 then (some false) else (if a0_1 > 1099511627776 then (some false) else (command_numbers.j0 k a0_0 a0_1 a0_2 a0_3 l0_4)))) = some r := h
  clear h
  have HC2 := Aside0.mk H
  clear H
  go_enter Try.func34, Try.ntmps34
  go_upto_if 5 with (first | ((with_reducible refine gate_dst (N := 1) rfl ?_); refine box_event ?hg (N := 1) ?hd (cs := #[.int .i64 a0_0, .int .i64 a0_1, .int .i64 a0_2, .int .i64 a0_3, .slice A0_4 l0_4.length c0_4]) (t := 24) ?hr ?_; (case hd => rfl); (case hg => rfl); (case hr => first | (go_simp; done) | (go_simp; rfl)); intro gb101 hg w3 hbox hb; have n0_ := Aside0.mk (below_step (by repeat (first | (with_reducible first | exact HB.out | apply below_alloc | apply pw_below_drewN | apply below_drew1) | exact HB.out)) hb); have n1_ := Aside0.mk (hbox); have n2_ := Aside0.mk ((by rw [hg]; exact (below_size (by repeat (first | (with_reducible first | exact HB.out | apply below_alloc | apply pw_below_drewN | apply below_drew1) | exact HB.out))) : w.heap.size ≤ gb101)); have n3_ := Aside0.mk ((by rw [hg]; exact (below_size (by repeat (first | (with_reducible first | exact HB.out | apply below_alloc | apply pw_below_drewN | apply below_drew1) | exact HB.out))) : w.heap.size ≤ gb101)); clear HB; have HB := n0_; have BK101 := n1_; have GW101 := n2_; have GE101 := n3_; clear n0_ n1_ n2_ n3_; clear hb hbox hg; have hcz4_0 : w3.cell? ⟨gb101, 0, none⟩ = some (.int .i64 a0_0) := (blk_cell BK101.out 0).trans rfl; have hcz4_1 : w3.cell? ⟨gb101, 1, none⟩ = some (.int .i64 a0_1) := (blk_cell BK101.out 1).trans rfl; have hcz4_2 : w3.cell? ⟨gb101, 2, none⟩ = some (.int .i64 a0_2) := (blk_cell BK101.out 2).trans rfl; have hcz4_3 : w3.cell? ⟨gb101, 3, none⟩ = some (.int .i64 a0_3) := (blk_cell BK101.out 3).trans rfl; have hcz4_4 : w3.cell? ⟨gb101, 4, none⟩ = some (.slice A0_4 l0_4.length c0_4) := (blk_cell BK101.out 4).trans rfl; have hfz4_0 := blk_frozen BK101.out 0; have hfz4_1 := blk_frozen BK101.out 1; have hfz4_2 := blk_frozen BK101.out 2; have hfz4_3 := blk_frozen BK101.out 3; have hfz4_4 := blk_frozen BK101.out 4))
  (try simp only [Act.put, List.setIfInBounds_toArray, List.set_cons_zero, List.set_cons_succ])
  go_cut [] (fun wc => ∃ (kq : Nat), Aside0 (command_numbers.j0 kq a0_0 a0_1 a0_2 a0_3 l0_4 = some r) ∧ Aside0 (kq ≤ k) ∧ Aside0 (wc.heap[gb101]? = some (.cells #[.int .i64 a0_0, .int .i64 a0_1, .int .i64 a0_2, .int .i64 a0_3, (.slice A0_4 l0_4.length c0_4)] 24 (0, 0))) ∧ Aside0 (Below w.heap.size w wc))
  case first =>
    have H := HC2.out
    clear HC2
    by_cases c5 : a0_0 ≥ 5
    · rw [if_pos c5] at H
      have c5b0 : decide (5 ≤ a0_0) = true := decide_eq_true c5
      clear c5
      (first | rw [c5b0] | (simp only [i64_w, i32_w]; rw [c5b0]) | skip)
      by_cases c6 : a0_1 = 0
      · rw [if_pos c6] at H
        have c6b0 : (a0_1 == 0) = true := beq_iff_eq.mpr c6
        have c6b1 : (a0_1 != 0) = false := bne_eq_false_iff_eq.mpr c6
        clear c6
        have H' := Aside0.mk H
        clear H
        have hcz7_0 : w3.cell? ⟨gb101, 0, none⟩ = some (.int .i64 a0_0) := (blk_cell BK101.out 0).trans rfl
        have hcz7_1 : w3.cell? ⟨gb101, 1, none⟩ = some (.int .i64 a0_1) := (blk_cell BK101.out 1).trans rfl
        have hcz7_2 : w3.cell? ⟨gb101, 2, none⟩ = some (.int .i64 a0_2) := (blk_cell BK101.out 2).trans rfl
        have hcz7_3 : w3.cell? ⟨gb101, 3, none⟩ = some (.int .i64 a0_3) := (blk_cell BK101.out 3).trans rfl
        have hcz7_4 : w3.cell? ⟨gb101, 4, none⟩ = some (.slice A0_4 l0_4.length c0_4) := (blk_cell BK101.out 4).trans rfl
        have hfz7_0 := blk_frozen BK101.out 0
        have hfz7_1 := blk_frozen BK101.out 1
        have hfz7_2 := blk_frozen BK101.out 2
        have hfz7_3 := blk_frozen BK101.out 3
        have hfz7_4 := blk_frozen BK101.out 4
        go_wp2
        go_meet
        case rel => exact ⟨_, H', ⟨by first | omega | exact Nat.le_refl _⟩, ⟨by (with_reducible repeat (first | refine blk_drewN ?_ _ | refine blk_drew ?_ | refine blk_alloc ?_ _)); exact BK101.out⟩, ⟨by repeat (first | (with_reducible first | exact HB.out | apply below_alloc | apply pw_below_drewN | apply below_drew1 | refine below_set ?_ GE101.out) | exact HB.out)⟩⟩
      · rw [if_neg c6] at H
        have c6b0 : (a0_1 == 0) = false := beq_eq_false_iff_ne.mpr c6
        have c6b1 : (a0_1 != 0) = true := bne_iff_ne.mpr c6
        obtain rfl := Option.some.inj H
        have hcz8_0 : w3.cell? ⟨gb101, 0, none⟩ = some (.int .i64 a0_0) := (blk_cell BK101.out 0).trans rfl
        have hcz8_1 : w3.cell? ⟨gb101, 1, none⟩ = some (.int .i64 a0_1) := (blk_cell BK101.out 1).trans rfl
        have hcz8_2 : w3.cell? ⟨gb101, 2, none⟩ = some (.int .i64 a0_2) := (blk_cell BK101.out 2).trans rfl
        have hcz8_3 : w3.cell? ⟨gb101, 3, none⟩ = some (.int .i64 a0_3) := (blk_cell BK101.out 3).trans rfl
        have hcz8_4 : w3.cell? ⟨gb101, 4, none⟩ = some (.slice A0_4 l0_4.length c0_4) := (blk_cell BK101.out 4).trans rfl
        have hfz8_0 := blk_frozen BK101.out 0
        have hfz8_1 := blk_frozen BK101.out 1
        have hfz8_2 := blk_frozen BK101.out 2
        have hfz8_3 := blk_frozen BK101.out 3
        have hfz8_4 := blk_frozen BK101.out 4
        go_wp2
        go_ret
        exact ⟨by first | rfl | (simp [errW_none, errW_some] <;> rfl) | (simp [*, errW_none, errW_some] <;> rfl), by repeat (first | (with_reducible first | exact HB.out | apply below_alloc | apply pw_below_drewN | apply below_drew1 | refine below_set ?_ GE101.out) | exact HB.out)⟩
    · rw [if_neg c5] at H
      have c5b0 : decide (5 ≤ a0_0) = false := decide_eq_false c5
      clear c5
      (first | rw [c5b0] | (simp only [i64_w, i32_w]; rw [c5b0]) | skip)
      by_cases c9 : a0_1 < 1
      · rw [if_pos c9] at H
        have c9b0 : decide (a0_1 < 1) = true := decide_eq_true c9
        clear c9
        obtain rfl := Option.some.inj H
        have hcz10_0 : w3.cell? ⟨gb101, 0, none⟩ = some (.int .i64 a0_0) := (blk_cell BK101.out 0).trans rfl
        have hcz10_1 : w3.cell? ⟨gb101, 1, none⟩ = some (.int .i64 a0_1) := (blk_cell BK101.out 1).trans rfl
        have hcz10_2 : w3.cell? ⟨gb101, 2, none⟩ = some (.int .i64 a0_2) := (blk_cell BK101.out 2).trans rfl
        have hcz10_3 : w3.cell? ⟨gb101, 3, none⟩ = some (.int .i64 a0_3) := (blk_cell BK101.out 3).trans rfl
        have hcz10_4 : w3.cell? ⟨gb101, 4, none⟩ = some (.slice A0_4 l0_4.length c0_4) := (blk_cell BK101.out 4).trans rfl
        have hfz10_0 := blk_frozen BK101.out 0
        have hfz10_1 := blk_frozen BK101.out 1
        have hfz10_2 := blk_frozen BK101.out 2
        have hfz10_3 := blk_frozen BK101.out 3
        have hfz10_4 := blk_frozen BK101.out 4
        go_wp2
        go_ret
        exact ⟨by first | rfl | (simp [errW_none, errW_some] <;> rfl) | (simp [*, errW_none, errW_some] <;> rfl), by repeat (first | (with_reducible first | exact HB.out | apply below_alloc | apply pw_below_drewN | apply below_drew1 | refine below_set ?_ GE101.out) | exact HB.out)⟩
      · rw [if_neg c9] at H
        have c9b0 : decide (a0_1 < 1) = false := decide_eq_false c9
        clear c9
        by_cases c11 : a0_1 > 1099511627776
        · rw [if_pos c11] at H
          have c11b0 : decide (1099511627776 < a0_1) = true := decide_eq_true c11
          clear c11
          obtain rfl := Option.some.inj H
          have hcz12_0 : w3.cell? ⟨gb101, 0, none⟩ = some (.int .i64 a0_0) := (blk_cell BK101.out 0).trans rfl
          have hcz12_1 : w3.cell? ⟨gb101, 1, none⟩ = some (.int .i64 a0_1) := (blk_cell BK101.out 1).trans rfl
          have hcz12_2 : w3.cell? ⟨gb101, 2, none⟩ = some (.int .i64 a0_2) := (blk_cell BK101.out 2).trans rfl
          have hcz12_3 : w3.cell? ⟨gb101, 3, none⟩ = some (.int .i64 a0_3) := (blk_cell BK101.out 3).trans rfl
          have hcz12_4 : w3.cell? ⟨gb101, 4, none⟩ = some (.slice A0_4 l0_4.length c0_4) := (blk_cell BK101.out 4).trans rfl
          have hfz12_0 := blk_frozen BK101.out 0
          have hfz12_1 := blk_frozen BK101.out 1
          have hfz12_2 := blk_frozen BK101.out 2
          have hfz12_3 := blk_frozen BK101.out 3
          have hfz12_4 := blk_frozen BK101.out 4
          go_wp2
          go_ret
          exact ⟨by first | rfl | (simp [errW_none, errW_some] <;> rfl) | (simp [*, errW_none, errW_some] <;> rfl), by repeat (first | (with_reducible first | exact HB.out | apply below_alloc | apply pw_below_drewN | apply below_drew1 | refine below_set ?_ GE101.out) | exact HB.out)⟩
        · rw [if_neg c11] at H
          have c11b0 : decide (1099511627776 < a0_1) = false := decide_eq_false c11
          clear c11
          have H' := Aside0.mk H
          clear H
          have hcz13_0 : w3.cell? ⟨gb101, 0, none⟩ = some (.int .i64 a0_0) := (blk_cell BK101.out 0).trans rfl
          have hcz13_1 : w3.cell? ⟨gb101, 1, none⟩ = some (.int .i64 a0_1) := (blk_cell BK101.out 1).trans rfl
          have hcz13_2 : w3.cell? ⟨gb101, 2, none⟩ = some (.int .i64 a0_2) := (blk_cell BK101.out 2).trans rfl
          have hcz13_3 : w3.cell? ⟨gb101, 3, none⟩ = some (.int .i64 a0_3) := (blk_cell BK101.out 3).trans rfl
          have hcz13_4 : w3.cell? ⟨gb101, 4, none⟩ = some (.slice A0_4 l0_4.length c0_4) := (blk_cell BK101.out 4).trans rfl
          have hfz13_0 := blk_frozen BK101.out 0
          have hfz13_1 := blk_frozen BK101.out 1
          have hfz13_2 := blk_frozen BK101.out 2
          have hfz13_3 := blk_frozen BK101.out 3
          have hfz13_4 := blk_frozen BK101.out 4
          go_wp2
          go_meet
          case rel => exact ⟨_, H', ⟨by first | omega | exact Nat.le_refl _⟩, ⟨by (with_reducible repeat (first | refine blk_drewN ?_ _ | refine blk_drew ?_ | refine blk_alloc ?_ _)); exact BK101.out⟩, ⟨by repeat (first | (with_reducible first | exact HB.out | apply below_alloc | apply pw_below_drewN | apply below_drew1 | refine below_set ?_ GE101.out) | exact HB.out)⟩⟩
  case rest =>
    clear HC2
    try clear c1
    try clear p2
    try clear c3
    try clear c5
    try clear c5b0
    try clear c6
    try clear c6b0
    try clear c6b1
    try clear c9
    try clear c9b0
    try clear c11
    try clear c11b0
    try clear hcz10_0
    try clear hcz10_1
    try clear hcz10_2
    try clear hcz10_3
    try clear hcz10_4
    try clear hcz12_0
    try clear hcz12_1
    try clear hcz12_2
    try clear hcz12_3
    try clear hcz12_4
    try clear hcz13_0
    try clear hcz13_1
    try clear hcz13_2
    try clear hcz13_3
    try clear hcz13_4
    try clear hcz4_0
    try clear hcz4_1
    try clear hcz4_2
    try clear hcz4_3
    try clear hcz4_4
    try clear hcz7_0
    try clear hcz7_1
    try clear hcz7_2
    try clear hcz7_3
    try clear hcz7_4
    try clear hcz8_0
    try clear hcz8_1
    try clear hcz8_2
    try clear hcz8_3
    try clear hcz8_4
    try clear hfz10_0
    try clear hfz10_1
    try clear hfz10_2
    try clear hfz10_3
    try clear hfz10_4
    try clear hfz12_0
    try clear hfz12_1
    try clear hfz12_2
    try clear hfz12_3
    try clear hfz12_4
    try clear hfz13_0
    try clear hfz13_1
    try clear hfz13_2
    try clear hfz13_3
    try clear hfz13_4
    try clear hfz4_0
    try clear hfz4_1
    try clear hfz4_2
    try clear hfz4_3
    try clear hfz4_4
    try clear hfz7_0
    try clear hfz7_1
    try clear hfz7_2
    try clear hfz7_3
    try clear hfz7_4
    try clear hfz8_0
    try clear hfz8_1
    try clear hfz8_2
    try clear hfz8_3
    try clear hfz8_4
    obtain ⟨kq, HA, HJ1, BK101, HB⟩ := hcut
    cases kq with
    | zero => exact absurd HA.out (by simp [command_numbers.j0])
    | succ kj1 =>
      have H := HA.out
      clear HA
      simp only [command_numbers.j0] at H
      have HC14 := Aside0.mk H
      clear H
      go_upto_region 6 with (fail)
      go_cut [24] (fun v24 wc => ∃ (kq : Nat) (x24_13 : Bool), v24 = .bool x24_13 ∧ Aside0 (command_numbers.j1 kq x24_13 a0_0 a0_1 a0_2 a0_3 l0_4 = some r) ∧ Aside0 (kq ≤ kj1) ∧ Aside0 (wc.heap[gb101]? = some (.cells #[.int .i64 a0_0, .int .i64 a0_1, .int .i64 a0_2, .int .i64 a0_3, (.slice A0_4 l0_4.length c0_4)] 24 (0, 0))) ∧ Aside0 (Below w.heap.size w wc))
      case first =>
        have H := HC14.out
        clear HC14
        by_cases c15 : a0_2 < 0
        · rw [if_pos c15] at H
          have c15b0 : decide (a0_2 < 0) = true := decide_eq_true c15
          clear c15
          (first | rw [c15b0] | (simp only [i64_w, i32_w]; rw [c15b0]) | skip)
          have H' := Aside0.mk H
          clear H
          have hcz16_0 : wc.cell? ⟨gb101, 0, none⟩ = some (.int .i64 a0_0) := (blk_cell BK101.out 0).trans rfl
          have hcz16_1 : wc.cell? ⟨gb101, 1, none⟩ = some (.int .i64 a0_1) := (blk_cell BK101.out 1).trans rfl
          have hcz16_2 : wc.cell? ⟨gb101, 2, none⟩ = some (.int .i64 a0_2) := (blk_cell BK101.out 2).trans rfl
          have hcz16_3 : wc.cell? ⟨gb101, 3, none⟩ = some (.int .i64 a0_3) := (blk_cell BK101.out 3).trans rfl
          have hcz16_4 : wc.cell? ⟨gb101, 4, none⟩ = some (.slice A0_4 l0_4.length c0_4) := (blk_cell BK101.out 4).trans rfl
          have hfz16_0 := blk_frozen BK101.out 0
          have hfz16_1 := blk_frozen BK101.out 1
          have hfz16_2 := blk_frozen BK101.out 2
          have hfz16_3 := blk_frozen BK101.out 3
          have hfz16_4 := blk_frozen BK101.out 4
          go_wp2
          go_meet
          case rel => exact ⟨_, (true), (by first | rfl | (simp; done) | (simp [*]; done)), H', ⟨by have := HJ1.out; first | omega | exact Nat.le_refl _⟩, ⟨by (with_reducible repeat (first | refine blk_drewN ?_ _ | refine blk_drew ?_ | refine blk_alloc ?_ _)); exact BK101.out⟩, ⟨by repeat (first | (with_reducible first | exact HB.out | apply below_alloc | apply pw_below_drewN | apply below_drew1 | refine below_set ?_ GE101.out) | exact HB.out)⟩⟩
        · rw [if_neg c15] at H
          have c15b0 : decide (a0_2 < 0) = false := decide_eq_false c15
          clear c15
          (first | rw [c15b0] | (simp only [i64_w, i32_w]; rw [c15b0]) | skip)
          have H' := Aside0.mk H
          clear H
          have hcz17_0 : wc.cell? ⟨gb101, 0, none⟩ = some (.int .i64 a0_0) := (blk_cell BK101.out 0).trans rfl
          have hcz17_1 : wc.cell? ⟨gb101, 1, none⟩ = some (.int .i64 a0_1) := (blk_cell BK101.out 1).trans rfl
          have hcz17_2 : wc.cell? ⟨gb101, 2, none⟩ = some (.int .i64 a0_2) := (blk_cell BK101.out 2).trans rfl
          have hcz17_3 : wc.cell? ⟨gb101, 3, none⟩ = some (.int .i64 a0_3) := (blk_cell BK101.out 3).trans rfl
          have hcz17_4 : wc.cell? ⟨gb101, 4, none⟩ = some (.slice A0_4 l0_4.length c0_4) := (blk_cell BK101.out 4).trans rfl
          have hfz17_0 := blk_frozen BK101.out 0
          have hfz17_1 := blk_frozen BK101.out 1
          have hfz17_2 := blk_frozen BK101.out 2
          have hfz17_3 := blk_frozen BK101.out 3
          have hfz17_4 := blk_frozen BK101.out 4
          go_wp2
          go_meet
          case rel => exact ⟨_, (decide (a0_2 ≥ 4)), (by first | rfl | (simp; done) | (simp [*]; done)), H', ⟨by have := HJ1.out; first | omega | exact Nat.le_refl _⟩, ⟨by (with_reducible repeat (first | refine blk_drewN ?_ _ | refine blk_drew ?_ | refine blk_alloc ?_ _)); exact BK101.out⟩, ⟨by repeat (first | (with_reducible first | exact HB.out | apply below_alloc | apply pw_below_drewN | apply below_drew1 | refine below_set ?_ GE101.out) | exact HB.out)⟩⟩
      case rest =>
        clear HC14
        try clear c1
        try clear p2
        try clear c3
        try clear c5
        try clear c5b0
        try clear c6
        try clear c6b0
        try clear c6b1
        try clear c9
        try clear c9b0
        try clear c11
        try clear c11b0
        try clear c15
        try clear c15b0
        try clear hcz10_0
        try clear hcz10_1
        try clear hcz10_2
        try clear hcz10_3
        try clear hcz10_4
        try clear hcz12_0
        try clear hcz12_1
        try clear hcz12_2
        try clear hcz12_3
        try clear hcz12_4
        try clear hcz13_0
        try clear hcz13_1
        try clear hcz13_2
        try clear hcz13_3
        try clear hcz13_4
        try clear hcz16_0
        try clear hcz16_1
        try clear hcz16_2
        try clear hcz16_3
        try clear hcz16_4
        try clear hcz17_0
        try clear hcz17_1
        try clear hcz17_2
        try clear hcz17_3
        try clear hcz17_4
        try clear hcz4_0
        try clear hcz4_1
        try clear hcz4_2
        try clear hcz4_3
        try clear hcz4_4
        try clear hcz7_0
        try clear hcz7_1
        try clear hcz7_2
        try clear hcz7_3
        try clear hcz7_4
        try clear hcz8_0
        try clear hcz8_1
        try clear hcz8_2
        try clear hcz8_3
        try clear hcz8_4
        try clear hfz10_0
        try clear hfz10_1
        try clear hfz10_2
        try clear hfz10_3
        try clear hfz10_4
        try clear hfz12_0
        try clear hfz12_1
        try clear hfz12_2
        try clear hfz12_3
        try clear hfz12_4
        try clear hfz13_0
        try clear hfz13_1
        try clear hfz13_2
        try clear hfz13_3
        try clear hfz13_4
        try clear hfz16_0
        try clear hfz16_1
        try clear hfz16_2
        try clear hfz16_3
        try clear hfz16_4
        try clear hfz17_0
        try clear hfz17_1
        try clear hfz17_2
        try clear hfz17_3
        try clear hfz17_4
        try clear hfz4_0
        try clear hfz4_1
        try clear hfz4_2
        try clear hfz4_3
        try clear hfz4_4
        try clear hfz7_0
        try clear hfz7_1
        try clear hfz7_2
        try clear hfz7_3
        try clear hfz7_4
        try clear hfz8_0
        try clear hfz8_1
        try clear hfz8_2
        try clear hfz8_3
        try clear hfz8_4
        try clear p2
        obtain ⟨kq, x24_13, rfl, HA, HJ13, BK101, HB⟩ := hcut
        cases kq with
        | zero => exact absurd HA.out (by simp [command_numbers.j1])
        | succ kj13 =>
          have H := HA.out
          clear HA
          simp only [command_numbers.j1] at H
          by_cases c18 : x24_13 = true
          · subst c18
            have H1 : (some false) = some r := by rw [if_pos rfl] at H; exact H
            clear H
            have H := H1
            clear H1
            obtain rfl := Option.some.inj H
            go_wp2
            go_ret
            exact ⟨by first | rfl | (simp [errW_none, errW_some] <;> rfl) | (simp [*, errW_none, errW_some] <;> rfl), by repeat (first | (with_reducible first | exact HB.out | apply below_alloc | apply pw_below_drewN | apply below_drew1 | refine below_set ?_ GE101.out) | exact HB.out)⟩
          · replace c18 := Bool.eq_false_iff.mpr c18
            subst c18
            have H1 : (if a0_0 = 4 then (if a0_3 = 1 then (some true) else (some (a0_3 == 2))) else (some (a0_3 == 0))) = some r := by rw [if_neg (show ¬ (false = true) by decide)] at H; exact H
            clear H
            have H := H1
            clear H1
            by_cases c19 : a0_0 = 4
            · rw [if_pos c19] at H
              have c19b0 : (a0_0 == 4) = true := beq_iff_eq.mpr c19
              have c19b1 : (a0_0 != 4) = false := bne_eq_false_iff_eq.mpr c19
              clear c19
              by_cases c20 : a0_3 = 1
              · rw [if_pos c20] at H
                have c20b0 : (a0_3 == 1) = true := beq_iff_eq.mpr c20
                have c20b1 : (a0_3 != 1) = false := bne_eq_false_iff_eq.mpr c20
                clear c20
                obtain rfl := Option.some.inj H
                have hcz21_0 : wc.cell? ⟨gb101, 0, none⟩ = some (.int .i64 a0_0) := (blk_cell BK101.out 0).trans rfl
                have hcz21_1 : wc.cell? ⟨gb101, 1, none⟩ = some (.int .i64 a0_1) := (blk_cell BK101.out 1).trans rfl
                have hcz21_2 : wc.cell? ⟨gb101, 2, none⟩ = some (.int .i64 a0_2) := (blk_cell BK101.out 2).trans rfl
                have hcz21_3 : wc.cell? ⟨gb101, 3, none⟩ = some (.int .i64 a0_3) := (blk_cell BK101.out 3).trans rfl
                have hcz21_4 : wc.cell? ⟨gb101, 4, none⟩ = some (.slice A0_4 l0_4.length c0_4) := (blk_cell BK101.out 4).trans rfl
                have hfz21_0 := blk_frozen BK101.out 0
                have hfz21_1 := blk_frozen BK101.out 1
                have hfz21_2 := blk_frozen BK101.out 2
                have hfz21_3 := blk_frozen BK101.out 3
                have hfz21_4 := blk_frozen BK101.out 4
                go_wp2
                go_ret
                exact ⟨by first | rfl | (simp [errW_none, errW_some] <;> rfl) | (simp [*, errW_none, errW_some] <;> rfl), by repeat (first | (with_reducible first | exact HB.out | apply below_alloc | apply pw_below_drewN | apply below_drew1 | refine below_set ?_ GE101.out) | exact HB.out)⟩
              · rw [if_neg c20] at H
                have c20b0 : (a0_3 == 1) = false := beq_eq_false_iff_ne.mpr c20
                have c20b1 : (a0_3 != 1) = true := bne_iff_ne.mpr c20
                obtain rfl := Option.some.inj H
                have hcz22_0 : wc.cell? ⟨gb101, 0, none⟩ = some (.int .i64 a0_0) := (blk_cell BK101.out 0).trans rfl
                have hcz22_1 : wc.cell? ⟨gb101, 1, none⟩ = some (.int .i64 a0_1) := (blk_cell BK101.out 1).trans rfl
                have hcz22_2 : wc.cell? ⟨gb101, 2, none⟩ = some (.int .i64 a0_2) := (blk_cell BK101.out 2).trans rfl
                have hcz22_3 : wc.cell? ⟨gb101, 3, none⟩ = some (.int .i64 a0_3) := (blk_cell BK101.out 3).trans rfl
                have hcz22_4 : wc.cell? ⟨gb101, 4, none⟩ = some (.slice A0_4 l0_4.length c0_4) := (blk_cell BK101.out 4).trans rfl
                have hfz22_0 := blk_frozen BK101.out 0
                have hfz22_1 := blk_frozen BK101.out 1
                have hfz22_2 := blk_frozen BK101.out 2
                have hfz22_3 := blk_frozen BK101.out 3
                have hfz22_4 := blk_frozen BK101.out 4
                go_wp2
                go_ret
                exact ⟨by first | rfl | (simp [errW_none, errW_some] <;> rfl) | (simp [*, errW_none, errW_some] <;> rfl), by repeat (first | (with_reducible first | exact HB.out | apply below_alloc | apply pw_below_drewN | apply below_drew1 | refine below_set ?_ GE101.out) | exact HB.out)⟩
            · rw [if_neg c19] at H
              have c19b0 : (a0_0 == 4) = false := beq_eq_false_iff_ne.mpr c19
              have c19b1 : (a0_0 != 4) = true := bne_iff_ne.mpr c19
              obtain rfl := Option.some.inj H
              have hcz23_0 : wc.cell? ⟨gb101, 0, none⟩ = some (.int .i64 a0_0) := (blk_cell BK101.out 0).trans rfl
              have hcz23_1 : wc.cell? ⟨gb101, 1, none⟩ = some (.int .i64 a0_1) := (blk_cell BK101.out 1).trans rfl
              have hcz23_2 : wc.cell? ⟨gb101, 2, none⟩ = some (.int .i64 a0_2) := (blk_cell BK101.out 2).trans rfl
              have hcz23_3 : wc.cell? ⟨gb101, 3, none⟩ = some (.int .i64 a0_3) := (blk_cell BK101.out 3).trans rfl
              have hcz23_4 : wc.cell? ⟨gb101, 4, none⟩ = some (.slice A0_4 l0_4.length c0_4) := (blk_cell BK101.out 4).trans rfl
              have hfz23_0 := blk_frozen BK101.out 0
              have hfz23_1 := blk_frozen BK101.out 1
              have hfz23_2 := blk_frozen BK101.out 2
              have hfz23_3 := blk_frozen BK101.out 3
              have hfz23_4 := blk_frozen BK101.out 4
              go_wp2
              go_ret
              exact ⟨by first | rfl | (simp [errW_none, errW_some] <;> rfl) | (simp [*, errW_none, errW_some] <;> rfl), by repeat (first | (with_reducible first | exact HB.out | apply below_alloc | apply pw_below_drewN | apply below_drew1 | refine below_set ?_ GE101.out) | exact HB.out)⟩

/-! ### command_Check_2: function 33, by hand -/
def cmd_kindBad (o : S48) : Bool := decide (o.f0 < 1) || decide (o.f0 > 3)
theorem cmd_kind_closure (W : World) (x : S48) : Calls Try.prog 33 #[.agg #[.int .i64 x.f0, .string x.f1, .string x.f2]] W fun e w' => e = .returned (.bool (cmd_kindBad x)) ∧ Below W.heap.size W w' := by
  by_cases h : x.f0 < 1
  · have e1 : cmd_kindBad x = true := by simp [cmd_kindBad, h]
    rw [e1]
    clear e1
    go_enter Try.func33, Try.ntmps33
    go_wp2
    go_ret
    exact ⟨rfl, (Below.refl _ _).alloc (Nat.le_refl _) _⟩
  · have e1 : cmd_kindBad x = decide (3 < x.f0) := by simp [cmd_kindBad, h]
    rw [e1]
    clear e1
    go_enter Try.func33, Try.ntmps33
    go_wp2
    go_ret
    exact ⟨rfl, (Below.refl _ _).alloc (Nat.le_refl _) _⟩

/-! ### command_Check_3: function 35, by hand -/
def cmd_keyBad (o : S48) : Bool := decide (o.f1.size = 0) || decide (o.f1.size > 32)
theorem cmd_key_closure (W : World) (x : S48) : Calls Try.prog 35 #[.agg #[.int .i64 x.f0, .string x.f1, .string x.f2]] W fun e w' => e = .returned (.bool (cmd_keyBad x)) ∧ Below W.heap.size W w' := by
  go_enter Try.func35, Try.ntmps35
  have h32 : (32 < (x.f1.size : Int)) ↔ 32 < x.f1.size := by omega
  go_wp2
  · rename_i h
    go_ret
    exact ⟨by simp [cmd_keyBad, (bytes_nil _).1 h], (Below.refl _ _).alloc (Nat.le_refl _) _⟩
  · rename_i h
    go_ret
    exact ⟨by simp [cmd_keyBad, bytes_isEmpty, h32], (Below.refl _ _).alloc (Nat.le_refl _) _⟩

/-! ### command_Check_4: function 36, by hand -/
def cmd_valBad (o : S48) : Bool := decide (o.f2.size > 64) || (o.f0 != 2 && !decide (o.f2.size = 0))
theorem cmd_val_closure (W : World) (x : S48) : Calls Try.prog 36 #[.agg #[.int .i64 x.f0, .string x.f1, .string x.f2]] W fun e w' => e = .returned (.bool (cmd_valBad x)) ∧ Below W.heap.size W w' := by
  have h64 : (64 < (x.f2.size : Int)) ↔ 64 < x.f2.size := by omega
  by_cases h1 : x.f2.size > 64
  · have h2 : decide ((64 : Int) < (x.f2.size : Int)) = true := by simp; omega
    go_enter Try.func36, Try.ntmps36
    go_wp2
    go_ret
    exact ⟨by simp [cmd_valBad, h1], (Below.refl _ _).alloc (Nat.le_refl _) _⟩
  · have h2 : decide ((64 : Int) < (x.f2.size : Int)) = false := by simp; omega
    by_cases h3 : x.f0 = 2
    · have h4 : (x.f0 != 2) = false := by simp [h3]
      have e1 : cmd_valBad x = false := by simp [cmd_valBad, h1, h3]
      rw [e1]
      clear e1 h3
      go_enter Try.func36, Try.ntmps36
      go_wp2
      go_ret
      exact ⟨rfl, (Below.refl _ _).alloc (Nat.le_refl _) _⟩
    · have h4 : (x.f0 != 2) = true := by simp [h3]
      have e1 : cmd_valBad x = !x.f2.toList.isEmpty := by simp [cmd_valBad, h1, h3, bytes_isEmpty]
      rw [e1]
      clear e1 h3
      go_enter Try.func36, Try.ntmps36
      go_wp2
      go_ret
      exact ⟨rfl, (Below.refl _ _).alloc (Nat.le_refl _) _⟩

/-! ### api_Op: function 46, by gens.py -/
def idxf_48 (p : S48 → Bool) : List (S48) → Int
  | [] => -1
  | x :: l => if p x = true then 0 else (if idxf_48 p l < 0 then -1 else idxf_48 p l + 1)
theorem idxf_48_spec (p : S48 → Bool) (l : List (S48)) : (idxf_48 p l = -1 ∧ ∀ x ∈ l, p x = false) ∨ (0 ≤ idxf_48 p l ∧ idxf_48 p l < l.length ∧ (l.take (idxf_48 p l).toNat).any p = false ∧ ∃ x, l[(idxf_48 p l).toNat]? = some x ∧ p x = true) := by
  induction l with
  | nil => exact .inl ⟨rfl, by simp⟩
  | cons x l ih =>
    simp only [idxf_48]
    by_cases hx : p x = true
    · rw [if_pos hx]; exact .inr ⟨by omega, by simp, by simp, x, by simp, hx⟩
    · rw [if_neg hx]
      rcases ih with ⟨e, h⟩ | ⟨h0, h1, h2, y, hy, hp⟩
      · rw [e, if_pos (by omega)]; exact .inl ⟨rfl, by simpa [hx] using h⟩
      · rw [if_neg (by omega)]
        obtain ⟨m, hm⟩ := Int.eq_ofNat_of_zero_le h0
        rw [hm] at h1 h2 hy ⊢
        have e1 : ((m : Int) + 1).toNat = m + 1 := by omega
        rw [e1]
        refine .inr ⟨by omega, by simp; omega, by simpa [hx] using h2, y, by simpa using hy, hp⟩
theorem idxf_48_at (p : S48 → Bool) (l : List (S48)) (k : Nat) (hk : k < l.length) (h : (l.take k).any p = false) (d : S48) (hp : p (l.getD k d) = true) : idxf_48 p l = k := by
  induction l generalizing k with
  | nil => simp at hk
  | cons x l ih =>
    cases k with
    | zero => simp at hp; simp [idxf_48, hp]
    | succ k =>
      simp at hk h hp
      have := ih k hk (by simpa using h.2) (by simpa using hp)
      simp only [idxf_48, h.1]
      rw [this]
      simp
      omega
theorem idxf_48_none (p : S48 → Bool) (l : List (S48)) (h : l.any p = false) : idxf_48 p l = -1 := by
  induction l with
  | nil => rfl
  | cons x l ih =>
    simp at h
    simp [idxf_48, h.1, ih (by simpa using h.2)]
theorem idxf_48_any (p : S48 → Bool) (l : List (S48)) : decide (0 ≤ idxf_48 p l) = l.any p := by
  cases h : l.any p with
  | false => rw [idxf_48_none p l h]; rfl
  | true =>
    rcases idxf_48_spec p l with ⟨e, h1⟩ | ⟨h0, _⟩
    · exfalso; obtain ⟨x, hx, hp⟩ := List.any_eq_true.1 h; rw [h1 x hx] at hp; cases hp
    · simpa using h0
theorem take_48 (l : List (S48)) (d : S48) (k : Nat) (h : k < l.length) : l.take (k + 1) = l.take k ++ [l.getD k d] := by
  rw [List.take_succ_eq_append_getElem h]
  simp [List.getD_eq_getElem?_getD, List.getElem?_eq_getElem h]
set_option maxHeartbeats 1000000 in
set_option maxRecDepth 100000 in
theorem IndexFunc_48 (g : Nat) (lb : Array Value) (p : S48 → Bool) (A : Option Addr) (c : Nat) (l : List (S48)) (w : World) (eg : ∀ (args : Array Value) (w : World), (callFunc g args).run Try.prog w = .ok (.enter g args) w) (hr : Kd.C k48 w A l.length l)
    (hp : ∀ (W : World) (x : S48), Below w.heap.size w W → Calls Try.prog g (#[(.agg #[.int .i64 x.f0, .string x.f1, .string x.f2])] ++ lb) W fun e w' => e = .returned (.bool (p x)) ∧ Below W.heap.size W w') :
    Calls Try.prog 46 #[.slice A l.length c, .func (.func g) #[] lb] w fun e w' => e = .returned (.int .i64 (idxf_48 p l)) ∧ Below w.heap.size w w' := by
  have HR := Aside0.mk hr
  clear hr
  have hmax : l.length ≤ 9223372036854775807 := HR.out.2.1
  go_enter Try.func46, Try.ntmps46
  go_wp2
  go_loopw [8] (fun i wr => ∃ k : Nat, k ≤ l.length ∧ i = .int .i64 k ∧ Aside0 ((l.take k).any p = false) ∧ Aside0 (Below w.heap.size w wr)) (fun i _ => l.length - (intOf i).toNat)
  case atStart => exact ⟨0, Nat.zero_le _, rfl, ⟨rfl⟩, ⟨Below.refl _ _⟩⟩
  case round =>
    obtain ⟨k, hk, rfl, HM, HB⟩ := hrel
    by_cases hlt : k < l.length
    · obtain ⟨ad, rfl, x0, x1, x2⟩ := at_T48 HR.out k (by omega) (by omega)
      rw [Int.toNat_natCast] at x0 x1 x2
      generalize hv : rd_T48 l (k : Int) = v at x0 x1 x2
      have hv2 : l.getD k z48 = v := hv
      have HV := Aside0.mk hv2
      clear hv hv2
      replace x0 := (HB.out.cell (World.block_lt_of_cell? w _ x0)).trans x0
      replace x1 := (HB.out.cell (World.block_lt_of_cell? w _ x1)).trans x1
      replace x2 := (HB.out.cell (World.block_lt_of_cell? w _ x2)).trans x2
      have cS := fun W hW => hp W v hW
      clear hp
      cases hpv : p v
      · have HP := Aside0.mk hpv
        clear hpv
        go_wp2_with (go_at_fn g; refine (cS _ HB.out).mono ?_; rintro e W' ⟨rfl, hb'⟩; rw [HP.out]; have HB' := Aside0.mk (below_step HB.out hb'); clear hb')
        go_roundw
        case rel => exact ⟨k + 1, by omega, by go_num, ⟨by rw [take_48 l z48 k hlt, List.any_append, HM.out, HV.out]; simp [HP.out]⟩, HB'⟩
        case measure => simp [intOf]; omega
      · have HP := Aside0.mk hpv
        clear hpv
        go_wp2_with (go_at_fn g; refine (cS _ HB.out).mono ?_; rintro e W' ⟨rfl, hb'⟩; rw [HP.out]; have HB' := Aside0.mk (below_step HB.out hb'); clear hb')
        go_ret
        exact ⟨by rw [idxf_48_at p l k hlt HM.out z48 (by rw [HV.out]; exact HP.out)]; rfl, HB'.out⟩
    · obtain rfl : k = l.length := by omega
      clear hlt
      go_wp2
      go_ret
      exact ⟨by rw [idxf_48_none p l (by have := HM.out; rwa [List.take_length] at this)]; rfl, HB.out⟩

/-! ### api_Op: function 32, by gens.py -/
set_option maxHeartbeats 1000000 in
theorem ContainsFunc_48 (g : Nat) (lb : Array Value) (p : S48 → Bool) (A : Option Addr) (c : Nat) (l : List (S48)) (w : World) (eg : ∀ (args : Array Value) (w : World), (callFunc g args).run Try.prog w = .ok (.enter g args) w) (hr : Kd.C k48 w A l.length l)
    (hp : ∀ (W : World) (x : S48), Below w.heap.size w W → Calls Try.prog g (#[(.agg #[.int .i64 x.f0, .string x.f1, .string x.f2])] ++ lb) W fun e w' => e = .returned (.bool (p x)) ∧ Below W.heap.size W w') :
    Calls Try.prog 32 #[.slice A l.length c, .func (.func g) #[] lb] w fun e w' => e = .returned (.bool (l.any p)) ∧ Below w.heap.size w w' := by
  have hc := IndexFunc_48 g lb p A c l w eg hr hp
  have HA := Aside0.mk (idxf_48_any p l)
  clear eg hr hp
  go_enter Try.func32, Try.ntmps32
  go_wp2_with (go_at_call 46; refine hc.mono ?_; rintro e w' ⟨rfl, hb⟩; have HB := Aside0.mk hb; clear hb)
  go_ret
  exact ⟨by rw [← HA.out]; rfl, HB.out⟩

/-! ### command_Check_1: function 31, by hand -/
theorem cmd_some_closure (g : Nat) (p : S48 → Bool) (b : Nat) (A : Option Addr) (c : Nat) (l : List S48) (W : World) (eg : ∀ (args : Array Value) (w : World), (callFunc g args).run Try.prog w = .ok (.enter g args) w)
    (hc : W.cell? ⟨b, 4, none⟩ = some (.slice A l.length c)) (hr : Kd.C k48 W A l.length l)
    (hp : ∀ (W : World) (x : S48), Calls Try.prog g #[.agg #[.int .i64 x.f0, .string x.f1, .string x.f2]] W fun e w' => e = .returned (.bool (p x)) ∧ Below W.heap.size W w') :
    Calls Try.prog 31 #[.func (.func g) #[] #[], .pointer (some ⟨b, 0, none⟩)] W fun e w' => e = .returned (.bool (l.any p)) ∧ Below W.heap.size W w' := by
  have H := ContainsFunc_48 g #[] p A c l W eg hr (fun W x _ => hp W x)
  clear eg hp hr
  go_enter Try.func31, Try.ntmps31
  go_wp2_with (go_at_call 32; refine H.mono ?_; rintro e w' ⟨rfl, hb⟩; have HB := Aside0.mk hb; clear hb)
  go_ret
  exact ⟨rfl, HB.out⟩

/-! ### command_Check: function 18, by hand -/
def cmd_numbers (a b c d : Int) : Bool := (if a ≥ 5 then decide (b = 0) else decide (1 ≤ b ∧ b ≤ 1099511627776)) && decide (0 ≤ c ∧ c < 4) && (if a = 4 then decide (d = 1 ∨ d = 2) else decide (d = 0))
theorem cmd_numbers_j1 (k : Nat) (x : Bool) (a b c d : Int) (l : List S48) : command_numbers.j1 (k + 1) x a b c d l = some (!x && (if a = 4 then decide (d = 1 ∨ d = 2) else decide (d = 0))) := by
  simp only [command_numbers.j1]
  cases x
  · by_cases h : a = 4
    · by_cases h1 : d = 1 <;> simp [h, h1, Bool.beq_eq_decide_eq]
    · simp [h, Bool.beq_eq_decide_eq]
  · simp
theorem cmd_numbers_f (a b c d : Int) (l : List S48) : command_numbers.f 5 a b c d l = some (cmd_numbers a b c d) := by
  have hj : command_numbers.j0 5 a b c d l = some (decide (0 ≤ c ∧ c < 4) && (if a = 4 then decide (d = 1 ∨ d = 2) else decide (d = 0))) := by
    simp only [command_numbers.j0, cmd_numbers_j1]
    by_cases h : c < 0
    · have : ¬ (0 ≤ c ∧ c < 4) := by omega
      simp [h, this]
    · by_cases h4 : c ≥ 4
      · have : ¬ (0 ≤ c ∧ c < 4) := by omega
        simp [h, h4, this]
      · have : (0 ≤ c ∧ c < 4) := by omega
        simp [h, h4, this]
  unfold command_numbers.f cmd_numbers
  rw [hj]
  by_cases h5 : a ≥ 5
  · by_cases hb : b = 0 <;> simp [h5, hb]
  · by_cases h1 : b < 1
    · have : ¬ (1 ≤ b ∧ b ≤ 1099511627776) := by omega
      simp [h5, h1, this]
    · by_cases h2 : b > 1099511627776
      · have : ¬ (1 ≤ b ∧ b ≤ 1099511627776) := by omega
        simp [h5, h1, h2, this]
      · have : (1 ≤ b ∧ b ≤ 1099511627776) := by omega
        simp [h5, h1, h2, this]
def cmd_check (a b c d : Int) (l : List S48) : Int :=
  if (a < 1 ∨ a > 6) ∨ l.any cmd_kindBad = true then 22
  else if cmd_numbers a b c d = false then 4
  else if (a ≠ 1 ∧ 0 < l.length) ∨ l.length > 16 then 3
  else if l.any cmd_keyBad = true then 91
  else if l.any cmd_valBad = true then 5
  else 0
def command_Check.f (a0_0 a0_1 a0_2 a0_3 : Int) (l0_4 : List S48) : Option Int := some (cmd_check a0_0 a0_1 a0_2 a0_3 l0_4)
set_option maxHeartbeats 1000000 in
set_option maxRecDepth 100000 in
theorem command_Check.calls (a0_0 : Int) (a0_1 : Int) (a0_2 : Int) (a0_3 : Int) (A0_4 : Option Addr) (c0_4 : Nat) (l0_4 : List S48) (r : Int) (w : World) (hr0_4 : Kd.C k48 w A0_4 l0_4.length l0_4) (hc0_4 : l0_4.length ≤ c0_4) (h : command_Check.f a0_0 a0_1 a0_2 a0_3 l0_4 = some r) :
    Calls Try.prog 18 #[.agg #[.int .i64 a0_0, .int .i64 a0_1, .int .i64 a0_2, .int .i64 a0_3, .slice A0_4 l0_4.length c0_4]] w fun e w' => e = .returned (.int .i64 r) ∧ Below w.heap.size w w' := by
  have H := Aside0.mk (Option.some.inj h)
  clear h
  have HR := Aside0.mk hr0_4
  clear hr0_4
  have e31 : ∀ (args : Array Value) (w : World), (callFunc 33 args).run Try.prog w = .ok (.enter 33 args) w := enters_of Try.func33 (by kernel_rfl) rfl
  have some_ : ∀ (g : Nat) (p : S48 → Bool) (W : World) (eg : ∀ (args : Array Value) (w : World), (callFunc g args).run Try.prog w = .ok (.enter g args) w) (hp : ∀ (W : World) (x : S48), Calls Try.prog g #[.agg #[.int .i64 x.f0, .string x.f1, .string x.f2]] W fun e w' => e = .returned (.bool (p x)) ∧ Below W.heap.size W w')
      (hb : Below w.heap.size w W) (hk : W.heap[w.heap.size]? = some (.cells #[.int .i64 a0_0, .int .i64 a0_1, .int .i64 a0_2, .int .i64 a0_3, .slice A0_4 l0_4.length c0_4] 24 (0, 0))),
      Calls Try.prog 31 #[.func (.func g) #[] #[], .pointer (some ⟨w.heap.size, 0, none⟩)] W fun e w' => e = .returned (.bool (l0_4.any p)) ∧ Below w.heap.size w w' ∧ w'.heap[w.heap.size]? = some (.cells #[.int .i64 a0_0, .int .i64 a0_1, .int .i64 a0_2, .int .i64 a0_3, .slice A0_4 l0_4.length c0_4] 24 (0, 0)) := by
    intro g p W eg hp hb hk
    refine (cmd_some_closure g p w.heap.size A0_4 c0_4 l0_4 W eg ((blk_cell hk 4).trans rfl) (Kd.C_below HR.out hb) hp).mono ?_
    rintro e w' ⟨rfl, hb'⟩
    exact ⟨rfl, below_step hb hb', blk_below hk hb'⟩
  have S1 := Aside0.mk (fun W => some_ _ cmd_kindBad W e31 (fun W x => cmd_kind_closure W x))
  have S2 := Aside0.mk (fun W => some_ _ cmd_keyBad W (enters_of Try.func35 (by kernel_rfl) rfl) (fun W x => cmd_key_closure W x))
  have S3 := Aside0.mk (fun W => some_ _ cmd_valBad W (enters_of Try.func36 (by kernel_rfl) rfl) (fun W x => cmd_val_closure W x))
  clear e31 some_
  have cells5 : ∀ W : World, W.heap[w.heap.size]? = some (.cells #[.int .i64 a0_0, .int .i64 a0_1, .int .i64 a0_2, .int .i64 a0_3, .slice A0_4 l0_4.length c0_4] 24 (0, 0)) →
      W.cell? ⟨w.heap.size, 0, none⟩ = some (.int .i64 a0_0) ∧ W.cell? ⟨w.heap.size, 1, none⟩ = some (.int .i64 a0_1) ∧ W.cell? ⟨w.heap.size, 2, none⟩ = some (.int .i64 a0_2) ∧ W.cell? ⟨w.heap.size, 3, none⟩ = some (.int .i64 a0_3) ∧ W.cell? ⟨w.heap.size, 4, none⟩ = some (.slice A0_4 l0_4.length c0_4) :=
    fun W h => ⟨(blk_cell h 0).trans rfl, (blk_cell h 1).trans rfl, (blk_cell h 2).trans rfl, (blk_cell h 3).trans rfl, (blk_cell h 4).trans rfl⟩
  have CE := Aside0.mk cells5
  clear cells5
  have N := Aside0.mk (fun (W : World) (hb : Below w.heap.size w W) => command_numbers.calls 5 a0_0 a0_1 a0_2 a0_3 A0_4 c0_4 l0_4 _ W (Kd.C_below HR.out hb) hc0_4 (cmd_numbers_f a0_0 a0_1 a0_2 a0_3 l0_4))
  clear hc0_4
  have B0 := Aside0.mk (below_alloc (Below.refl w.heap.size w) (.cells #[.int .i64 a0_0, .int .i64 a0_1, .int .i64 a0_2, .int .i64 a0_3, .slice A0_4 l0_4.length c0_4] 24))
  have K0 := Aside0.mk (blk_new w (.cells #[.int .i64 a0_0, .int .i64 a0_1, .int .i64 a0_2, .int .i64 a0_3, .slice A0_4 l0_4.length c0_4] 24))
  have hq := H.out
  unfold cmd_check at hq
  by_cases g1 : a0_0 < 1
  · have := hq
    rw [if_pos (.inl (.inl g1))] at this
    subst this
    clear hq H
    go_enter Try.func18, Try.ntmps18
    go_wp2
    go_ret
    exact ⟨rfl, B0.out⟩
  by_cases g2 : 6 < a0_0
  · have := hq
    rw [if_pos (.inl (.inr g2))] at this
    subst this
    clear hq H
    go_enter Try.func18, Try.ntmps18
    go_wp2
    go_ret
    exact ⟨rfl, B0.out⟩
  have g3 : ¬ (a0_0 < 1 ∨ a0_0 > 6) := by omega
  simp only [g3, false_or] at hq
  clear g3 H
  generalize l0_4.any cmd_kindBad = b1 at hq S1
  generalize l0_4.any cmd_keyBad = b2 at hq S2
  generalize l0_4.any cmd_valBad = b3 at hq S3
  generalize cmd_numbers a0_0 a0_1 a0_2 a0_3 = nb at hq N
  have HQ := Aside0.mk hq
  clear hq
  go_enter Try.func18, Try.ntmps18
  go_wp2_with fail
  refine (S1.out _ B0.out K0.out).mono ?_
  rintro e w1 ⟨rfl, B1, K1⟩
  replace B1 := Aside0.mk B1
  replace K1 := Aside0.mk K1
  cases b1
  case true =>
    have hq := HQ.out
    rw [if_pos rfl] at hq
    subst hq
    go_wp2
    go_ret
    exact ⟨rfl, B1.out⟩
  obtain ⟨z0, z1, z2, z3, z4⟩ := CE.out w1 K1.out
  go_wp2_with fail
  refine (N.out w1 B1.out).mono ?_
  rintro e w2 ⟨rfl, B2⟩
  have K2 := Aside0.mk (blk_below K1.out B2)
  replace B2 := Aside0.mk (below_step B1.out B2)
  clear z0 z1 z2 z3 z4 B0 K0 B1 K1
  cases nb
  case false =>
    have hq := HQ.out
    rw [if_neg (by simp), if_pos rfl] at hq
    subst hq
    go_wp2
    go_ret
    exact ⟨rfl, B2.out⟩
  obtain ⟨z0, z1, z2, z3, z4⟩ := CE.out w2 K2.out
  have tail : ∀ (h3 : ¬ ((a0_0 ≠ 1 ∧ 0 < l0_4.length) ∨ l0_4.length > 16)), r = if b2 = true then 91 else if b3 = true then 5 else 0 := by
    intro h3
    have hq := HQ.out
    rw [if_neg (by simp), if_neg (by simp), if_neg h3] at hq
    exact hq.symm
  have T := Aside0.mk tail
  clear tail
  have three : ((a0_0 ≠ 1 ∧ 0 < l0_4.length) ∨ l0_4.length > 16) → r = 3 := by
    intro h3
    have hq := HQ.out
    rw [if_neg (by simp), if_neg (by simp), if_pos h3] at hq
    exact hq.symm
  have TH := Aside0.mk three
  clear three HQ S1 N
  have ways : (a0_0 = 1 ∧ 16 < l0_4.length) ∨ (a0_0 ≠ 1 ∧ 0 < l0_4.length) ∨ (a0_0 = 1 ∧ ¬ 16 < l0_4.length) ∨ (a0_0 ≠ 1 ∧ l0_4.length = 0) := by omega
  rcases ways with ⟨x, y⟩ | ⟨x, y⟩ | ⟨x, y⟩ | ⟨x, y⟩
  · obtain rfl := TH.out (.inr y)
    have x1 : (a0_0 != 1) = false := by simp [x]
    have y1 : decide ((16 : Int) < (l0_4.length : Int)) = true := by simp; omega
    clear x TH T S2 S3
    go_wp2
    go_ret
    exact ⟨rfl, B2.out⟩
  · obtain rfl := TH.out (.inl ⟨x, y⟩)
    have x1 : (a0_0 != 1) = true := by simp [x]
    have y1 : decide ((0 : Int) < (l0_4.length : Int)) = true := by simp; omega
    clear x TH T S2 S3
    go_wp2
    go_ret
    exact ⟨rfl, B2.out⟩
  · have hq := T.out (by omega)
    have x1 : (a0_0 != 1) = false := by simp [x]
    have y1 : decide ((16 : Int) < (l0_4.length : Int)) = false := by simp; omega
    have HQ := Aside0.mk hq
    clear x y TH T hq
    go_wp2_with fail
    refine (S2.out _ B2.out K2.out).mono ?_
    rintro e w3 ⟨rfl, B3, K3⟩
    replace B3 := Aside0.mk B3
    replace K3 := Aside0.mk K3
    clear z0 z1 z2 z3 z4
    cases b2
    case true =>
      have hq := HQ.out
      rw [if_pos rfl] at hq
      subst hq
      go_wp2
      go_ret
      exact ⟨rfl, B3.out⟩
    go_wp2_with fail
    refine (S3.out _ B3.out K3.out).mono ?_
    rintro e w4 ⟨rfl, B4, K4⟩
    replace B4 := Aside0.mk B4
    clear K4
    have hq := HQ.out
    rw [if_neg (by simp)] at hq
    subst hq
    cases b3
    all_goals
      go_wp2
      go_ret
      exact ⟨rfl, B4.out⟩
  · have hq := T.out (by omega)
    have x1 : (a0_0 != 1) = true := by simp [x]
    have y1 : decide ((0 : Int) < (l0_4.length : Int)) = false := decide_eq_false (by omega)
    have y2 : decide ((16 : Int) < (l0_4.length : Int)) = false := decide_eq_false (by omega)
    have y3 : ¬ (0 < l0_4.length) := by omega
    have HQ := Aside0.mk hq
    clear x y TH T hq
    go_wp2_with fail
    refine (S2.out _ B2.out K2.out).mono ?_
    rintro e w3 ⟨rfl, B3, K3⟩
    replace B3 := Aside0.mk B3
    replace K3 := Aside0.mk K3
    clear z0 z1 z2 z3 z4
    cases b2
    case true =>
      have hq := HQ.out
      rw [if_pos rfl] at hq
      subst hq
      go_wp2
      go_ret
      exact ⟨rfl, B3.out⟩
    go_wp2_with fail
    refine (S3.out _ B3.out K3.out).mono ?_
    rintro e w4 ⟨rfl, B4, K4⟩
    replace B4 := Aside0.mk B4
    clear K4
    have hq := HQ.out
    rw [if_neg (by simp)] at hq
    subst hq
    cases b3
    all_goals
      go_wp2
      go_ret
      exact ⟨rfl, B4.out⟩


end Go.Proofs.Ytpjaebbgbmhneaa.Print
