/- Written by pp.py, a program of this project that runs the kit's print over the translation, with functions proved by hand put in. Lean checks it. -/
import Derived.Test.YtpjaebbgbmhneaaPrint0
namespace Go.Proofs.Ytpjaebbgbmhneaa.Print
open Go.RowKit Go.Proofs.YtpjaebbgbmhneaaW.PrintWords Go.Proofs.YtpjaebbgbmhneaaW.PrintLast Go.Proofs.YtpjaebbgbmhneaaW.PrintMore
attribute [local go_sem] max2_int min2_int max_two min_two max_three min_three max_four min_four   -- for this text's walks alone
set_option linter.unusedVariables false
set_option linter.unusedSimpArgs false

/-! ### bits_Len64: function 38 -/
def bits_Len64.j0 : Nat → Int → Int → Option (Int)
  | 0, _, _ => none
  | k + 1, x0, x2 => if x0 ≥ 65536 then (if (x0 / 65536) ≥ 256 then (if 0 ≤ (((x0 / 65536) / 256) % 256) then (if (((x0 / 65536) / 256) % 256) < 256 then (some (wrap64 ((wrap64 ((wrap64 (x2 + 16)) + 8)) + (wrap64 (bt (⟨#[0, 1, 2, 2, 3, 3, 3, 3, 4, 4, 4, 4, 4, 4, 4, 4, 5, 5, 5, 5, 5, 5, 5, 5, 5, 5, 5, 5, 5, 5, 5, 5, 6, 6, 6, 6, 6, 6, 6, 6, 6, 6, 6, 6, 6, 6, 6, 6, 6, 6, 6, 6, 6, 6, 6, 6, 6, 6, 6, 6, 6, 6, 6, 6, 7, 7, 7, 7, 7, 7, 7, 7, 7, 7, 7, 7, 7, 7, 7, 7, 7, 7, 7, 7, 7, 7, 7, 7, 7, 7, 7, 7, 7, 7, 7, 7, 7, 7, 7, 7, 7, 7, 7, 7, 7, 7, 7, 7, 7, 7, 7, 7, 7, 7, 7, 7, 7, 7, 7, 7, 7, 7, 7, 7, 7, 7, 7, 7, 8, 8, 8, 8, 8, 8, 8, 8, 8, 8, 8, 8, 8, 8, 8, 8, 8, 8, 8, 8, 8, 8, 8, 8, 8, 8, 8, 8, 8, 8, 8, 8, 8, 8, 8, 8, 8, 8, 8, 8, 8, 8, 8, 8, 8, 8, 8, 8, 8, 8, 8, 8, 8, 8, 8, 8, 8, 8, 8, 8, 8, 8, 8, 8, 8, 8, 8, 8, 8, 8, 8, 8, 8, 8, 8, 8, 8, 8, 8, 8, 8, 8, 8, 8, 8, 8, 8, 8, 8, 8, 8, 8, 8, 8, 8, 8, 8, 8, 8, 8, 8, 8, 8, 8, 8, 8, 8, 8, 8, 8, 8, 8, 8, 8, 8, 8, 8, 8, 8, 8, 8, 8, 8, 8, 8, 8, 8, 8]⟩ : ByteArray) (((x0 / 65536) / 256) % 256)))))) else (none)) else (none)) else (if 0 ≤ ((x0 / 65536) % 256) then (if ((x0 / 65536) % 256) < 256 then (some (wrap64 ((wrap64 (x2 + 16)) + (wrap64 (bt (⟨#[0, 1, 2, 2, 3, 3, 3, 3, 4, 4, 4, 4, 4, 4, 4, 4, 5, 5, 5, 5, 5, 5, 5, 5, 5, 5, 5, 5, 5, 5, 5, 5, 6, 6, 6, 6, 6, 6, 6, 6, 6, 6, 6, 6, 6, 6, 6, 6, 6, 6, 6, 6, 6, 6, 6, 6, 6, 6, 6, 6, 6, 6, 6, 6, 7, 7, 7, 7, 7, 7, 7, 7, 7, 7, 7, 7, 7, 7, 7, 7, 7, 7, 7, 7, 7, 7, 7, 7, 7, 7, 7, 7, 7, 7, 7, 7, 7, 7, 7, 7, 7, 7, 7, 7, 7, 7, 7, 7, 7, 7, 7, 7, 7, 7, 7, 7, 7, 7, 7, 7, 7, 7, 7, 7, 7, 7, 7, 7, 8, 8, 8, 8, 8, 8, 8, 8, 8, 8, 8, 8, 8, 8, 8, 8, 8, 8, 8, 8, 8, 8, 8, 8, 8, 8, 8, 8, 8, 8, 8, 8, 8, 8, 8, 8, 8, 8, 8, 8, 8, 8, 8, 8, 8, 8, 8, 8, 8, 8, 8, 8, 8, 8, 8, 8, 8, 8, 8, 8, 8, 8, 8, 8, 8, 8, 8, 8, 8, 8, 8, 8, 8, 8, 8, 8, 8, 8, 8, 8, 8, 8, 8, 8, 8, 8, 8, 8, 8, 8, 8, 8, 8, 8, 8, 8, 8, 8, 8, 8, 8, 8, 8, 8, 8, 8, 8, 8, 8, 8, 8, 8, 8, 8, 8, 8, 8, 8, 8, 8, 8, 8, 8, 8, 8, 8, 8, 8]⟩ : ByteArray) ((x0 / 65536) % 256)))))) else (none)) else (none))) else (if x0 ≥ 256 then (if 0 ≤ ((x0 / 256) % 256) then (if ((x0 / 256) % 256) < 256 then (some (wrap64 ((wrap64 (x2 + 8)) + (wrap64 (bt (⟨#[0, 1, 2, 2, 3, 3, 3, 3, 4, 4, 4, 4, 4, 4, 4, 4, 5, 5, 5, 5, 5, 5, 5, 5, 5, 5, 5, 5, 5, 5, 5, 5, 6, 6, 6, 6, 6, 6, 6, 6, 6, 6, 6, 6, 6, 6, 6, 6, 6, 6, 6, 6, 6, 6, 6, 6, 6, 6, 6, 6, 6, 6, 6, 6, 7, 7, 7, 7, 7, 7, 7, 7, 7, 7, 7, 7, 7, 7, 7, 7, 7, 7, 7, 7, 7, 7, 7, 7, 7, 7, 7, 7, 7, 7, 7, 7, 7, 7, 7, 7, 7, 7, 7, 7, 7, 7, 7, 7, 7, 7, 7, 7, 7, 7, 7, 7, 7, 7, 7, 7, 7, 7, 7, 7, 7, 7, 7, 7, 8, 8, 8, 8, 8, 8, 8, 8, 8, 8, 8, 8, 8, 8, 8, 8, 8, 8, 8, 8, 8, 8, 8, 8, 8, 8, 8, 8, 8, 8, 8, 8, 8, 8, 8, 8, 8, 8, 8, 8, 8, 8, 8, 8, 8, 8, 8, 8, 8, 8, 8, 8, 8, 8, 8, 8, 8, 8, 8, 8, 8, 8, 8, 8, 8, 8, 8, 8, 8, 8, 8, 8, 8, 8, 8, 8, 8, 8, 8, 8, 8, 8, 8, 8, 8, 8, 8, 8, 8, 8, 8, 8, 8, 8, 8, 8, 8, 8, 8, 8, 8, 8, 8, 8, 8, 8, 8, 8, 8, 8, 8, 8, 8, 8, 8, 8, 8, 8, 8, 8, 8, 8, 8, 8, 8, 8, 8, 8]⟩ : ByteArray) ((x0 / 256) % 256)))))) else (none)) else (none)) else (if 0 ≤ ((x0) % 256) then (if ((x0) % 256) < 256 then (some (wrap64 (x2 + (wrap64 (bt (⟨#[0, 1, 2, 2, 3, 3, 3, 3, 4, 4, 4, 4, 4, 4, 4, 4, 5, 5, 5, 5, 5, 5, 5, 5, 5, 5, 5, 5, 5, 5, 5, 5, 6, 6, 6, 6, 6, 6, 6, 6, 6, 6, 6, 6, 6, 6, 6, 6, 6, 6, 6, 6, 6, 6, 6, 6, 6, 6, 6, 6, 6, 6, 6, 6, 7, 7, 7, 7, 7, 7, 7, 7, 7, 7, 7, 7, 7, 7, 7, 7, 7, 7, 7, 7, 7, 7, 7, 7, 7, 7, 7, 7, 7, 7, 7, 7, 7, 7, 7, 7, 7, 7, 7, 7, 7, 7, 7, 7, 7, 7, 7, 7, 7, 7, 7, 7, 7, 7, 7, 7, 7, 7, 7, 7, 7, 7, 7, 7, 8, 8, 8, 8, 8, 8, 8, 8, 8, 8, 8, 8, 8, 8, 8, 8, 8, 8, 8, 8, 8, 8, 8, 8, 8, 8, 8, 8, 8, 8, 8, 8, 8, 8, 8, 8, 8, 8, 8, 8, 8, 8, 8, 8, 8, 8, 8, 8, 8, 8, 8, 8, 8, 8, 8, 8, 8, 8, 8, 8, 8, 8, 8, 8, 8, 8, 8, 8, 8, 8, 8, 8, 8, 8, 8, 8, 8, 8, 8, 8, 8, 8, 8, 8, 8, 8, 8, 8, 8, 8, 8, 8, 8, 8, 8, 8, 8, 8, 8, 8, 8, 8, 8, 8, 8, 8, 8, 8, 8, 8, 8, 8, 8, 8, 8, 8, 8, 8, 8, 8, 8, 8, 8, 8, 8, 8, 8, 8]⟩ : ByteArray) ((x0) % 256)))))) else (none)) else (none)))
def bits_Len64.f (k : Nat) (a0 : Int) : Option (Int) := if a0 ≥ 4294967296 then (bits_Len64.j0 k (a0 / 4294967296) 32) else (bits_Len64.j0 k a0 0)
theorem bits_Len64.mono_l : ∀ k, (∀ y0 y1, LeO (bits_Len64.j0 k y0 y1) (bits_Len64.j0 (k + 1) y0 y1))
  | 0 => fun _ _ r h => by simp [bits_Len64.j0] at h
  | k + 1 => by
    have ih0 := bits_Len64.mono_l k
    · intro y0 y1
      unfold bits_Len64.j0
      repeat' first
      | (with_reducible exact ih0 _ _)
      | (with_reducible exact LeO.refl _)
      | (with_reducible exact LeO.none _)
      | (with_reducible refine LeO.ite ?_ ?_)
      | (with_reducible refine LeO.bind ?_ (fun _ => ?_))
      | exact ih0 _ _
      | exact LeO.none _
      | refine LeO.ite ?_ ?_
      | refine LeO.bind ?_ (fun _ => ?_)
theorem bits_Len64.mono : ∀ a0 k, LeO (bits_Len64.f k a0) (bits_Len64.f (k + 1) a0) := by
  intro a0 k
  have ih0 := bits_Len64.mono_l k
  unfold bits_Len64.f
  repeat' first
      | (with_reducible exact ih0 _ _)
      | (with_reducible exact LeO.refl _)
      | (with_reducible exact LeO.none _)
      | (with_reducible refine LeO.ite ?_ ?_)
      | (with_reducible refine LeO.bind ?_ (fun _ => ?_))
      | exact ih0 _ _
      | exact LeO.none _
      | refine LeO.ite ?_ ?_
      | refine LeO.bind ?_ (fun _ => ?_)
set_option maxHeartbeats 8000000 in
set_option maxRecDepth 100000 in
theorem bits_Len64.calls (k : Nat) (a0 : Int) (r : Int) (w : World) (h : bits_Len64.f k a0 = some r) :
    Calls Try.prog 38 #[.int .u64 a0] w fun e w' => e = .returned (.int .i64 r) ∧ Drawn0 w w' := by
  have H : (if a0 ≥ 4294967296 then (bits_Len64.j0 k (a0 / 4294967296) 32) else (bits_Len64.j0 k a0 0)) = some r := h
  clear h
  have HC2 := Aside0.mk H
  clear H
  go_enter Try.func38, Try.ntmps38
  go_upto_if 4 with (fail)
  go_cut [0, 2] (fun v0 v2 wc => ∃ (kq : Nat) (x0_1 : Int) (x2_1 : Int), v0 = .int .u64 x0_1 ∧ v2 = .int .i64 x2_1 ∧ Aside0 (bits_Len64.j0 kq x0_1 x2_1 = some r) ∧ Aside0 (kq ≤ k) ∧ Drawn0 w wc)
  case first =>
    have H := HC2.out
    clear HC2
    by_cases c3 : a0 ≥ 4294967296
    · rw [if_pos c3] at H
      have c3b0 : decide (4294967296 ≤ a0) = true := decide_eq_true c3
      clear c3
      (first | rw [c3b0] | (simp only [i64_w, i32_w]; rw [c3b0]) | skip)
      have H' := Aside0.mk H
      clear H
      go_wp2
      go_meet
      case rel => exact ⟨_, (a0 / 4294967296), (32), (by first | rfl | (simp; done) | (simp [*]; done)), (by first | rfl | (simp; done) | (simp [*]; done)), H', ⟨by first | omega | exact Nat.le_refl _⟩, by repeat (first | exact Drawn0.refl _ | apply Drawn0.step)⟩
    · rw [if_neg c3] at H
      have c3b0 : decide (4294967296 ≤ a0) = false := decide_eq_false c3
      clear c3
      (first | rw [c3b0] | (simp only [i64_w, i32_w]; rw [c3b0]) | skip)
      have H' := Aside0.mk H
      clear H
      go_wp2
      go_meet
      case rel => exact ⟨_, (a0), (0), (by first | rfl | (simp; done) | (simp [*]; done)), (by first | rfl | (simp; done) | (simp [*]; done)), H', ⟨by first | omega | exact Nat.le_refl _⟩, by repeat (first | exact Drawn0.refl _ | apply Drawn0.step)⟩
  case rest =>
    clear HC2
    try clear p2
    try clear c3
    try clear c3b0
    obtain ⟨kq, x0_1, x2_1, rfl, rfl, HA, HJ1, ⟨mc1, rfl⟩⟩ := hcut
    cases kq with
    | zero => exact absurd HA.out (by simp [bits_Len64.j0])
    | succ kj1 =>
      have H := HA.out
      clear HA
      simp only [bits_Len64.j0] at H
      by_cases c4 : x0_1 ≥ 65536
      · rw [if_pos c4] at H
        have c4b0 : decide (65536 ≤ x0_1) = true := decide_eq_true c4
        clear c4
        by_cases c5 : (x0_1 / 65536) ≥ 256
        · rw [if_pos c5] at H
          have c5b0 : decide (256 ≤ (x0_1 / 65536)) = true := decide_eq_true c5
          clear c5
          obtain ⟨ji6, hji6⟩ : ∃ j_ : Int, (((x0_1 / 65536) / 256) % 256) = j_ := ⟨_, rfl⟩
          replace H : (if 0 ≤ (ji6) then (if (ji6) < 256 then (some (wrap64 ((wrap64 ((wrap64 (x2_1 + 16)) + 8)) + (wrap64 (bt (⟨#[0, 1, 2, 2, 3, 3, 3, 3, 4, 4, 4, 4, 4, 4, 4, 4, 5, 5, 5, 5, 5, 5, 5, 5, 5, 5, 5, 5, 5, 5, 5, 5, 6, 6, 6, 6, 6, 6, 6, 6, 6, 6, 6, 6, 6, 6, 6, 6, 6, 6, 6, 6, 6, 6, 6, 6, 6, 6, 6, 6, 6, 6, 6, 6, 7, 7, 7, 7, 7, 7, 7, 7, 7, 7, 7, 7, 7, 7, 7, 7, 7, 7, 7, 7, 7, 7, 7, 7, 7, 7, 7, 7, 7, 7, 7, 7, 7, 7, 7, 7, 7, 7, 7, 7, 7, 7, 7, 7, 7, 7, 7, 7, 7, 7, 7, 7, 7, 7, 7, 7, 7, 7, 7, 7, 7, 7, 7, 7, 8, 8, 8, 8, 8, 8, 8, 8, 8, 8, 8, 8, 8, 8, 8, 8, 8, 8, 8, 8, 8, 8, 8, 8, 8, 8, 8, 8, 8, 8, 8, 8, 8, 8, 8, 8, 8, 8, 8, 8, 8, 8, 8, 8, 8, 8, 8, 8, 8, 8, 8, 8, 8, 8, 8, 8, 8, 8, 8, 8, 8, 8, 8, 8, 8, 8, 8, 8, 8, 8, 8, 8, 8, 8, 8, 8, 8, 8, 8, 8, 8, 8, 8, 8, 8, 8, 8, 8, 8, 8, 8, 8, 8, 8, 8, 8, 8, 8, 8, 8, 8, 8, 8, 8, 8, 8, 8, 8, 8, 8, 8, 8, 8, 8, 8, 8, 8, 8, 8, 8, 8, 8, 8, 8, 8, 8, 8, 8]⟩ : ByteArray) (ji6)))))) else (none)) else (none)) = some r := by first | (rw [hji6] at H; exact H) | (simp only [hji6] at H ⊢; exact H)
          by_cases c7 : 0 ≤ (ji6)
          · rw [if_pos c7] at H
            have c7b0 : decide (0 ≤ (ji6)) = true := decide_eq_true c7
            clear c7
            by_cases c8 : (ji6) < 256
            · rw [if_pos c8] at H
              have c8b0 : decide ((ji6) < 256) = true := decide_eq_true c8
              clear c8
              obtain rfl := Option.some.inj H
              have p9 : 0 ≤ ((ji6) : Int) := of_decide_eq_true (by first | (with_reducible assumption) | assumption)
              have q9 : (ji6) < (256 : Int) := of_decide_eq_true (by first | (with_reducible assumption) | assumption)
              have hx9 := bt_at (⟨#[0, 1, 2, 2, 3, 3, 3, 3, 4, 4, 4, 4, 4, 4, 4, 4, 5, 5, 5, 5, 5, 5, 5, 5, 5, 5, 5, 5, 5, 5, 5, 5, 6, 6, 6, 6, 6, 6, 6, 6, 6, 6, 6, 6, 6, 6, 6, 6, 6, 6, 6, 6, 6, 6, 6, 6, 6, 6, 6, 6, 6, 6, 6, 6, 7, 7, 7, 7, 7, 7, 7, 7, 7, 7, 7, 7, 7, 7, 7, 7, 7, 7, 7, 7, 7, 7, 7, 7, 7, 7, 7, 7, 7, 7, 7, 7, 7, 7, 7, 7, 7, 7, 7, 7, 7, 7, 7, 7, 7, 7, 7, 7, 7, 7, 7, 7, 7, 7, 7, 7, 7, 7, 7, 7, 7, 7, 7, 7, 8, 8, 8, 8, 8, 8, 8, 8, 8, 8, 8, 8, 8, 8, 8, 8, 8, 8, 8, 8, 8, 8, 8, 8, 8, 8, 8, 8, 8, 8, 8, 8, 8, 8, 8, 8, 8, 8, 8, 8, 8, 8, 8, 8, 8, 8, 8, 8, 8, 8, 8, 8, 8, 8, 8, 8, 8, 8, 8, 8, 8, 8, 8, 8, 8, 8, 8, 8, 8, 8, 8, 8, 8, 8, 8, 8, 8, 8, 8, 8, 8, 8, 8, 8, 8, 8, 8, 8, 8, 8, 8, 8, 8, 8, 8, 8, 8, 8, 8, 8, 8, 8, 8, 8, 8, 8, 8, 8, 8, 8, 8, 8, 8, 8, 8, 8, 8, 8, 8, 8, 8, 8, 8, 8, 8, 8, 8, 8]⟩ : ByteArray) (ji6)
              replace p9 := eq_true p9
              replace q9 := eq_true q9
              go_wp2
              go_ret
              exact ⟨by first | rfl | (simp; done) | (simp only [← hji6] <;> (first | rfl | simp)) | (simp [*]; done), by repeat (first | exact Drawn0.refl _ | apply Drawn0.step)⟩
            · rw [if_neg c8] at H
              exact absurd H (by simp)
          · rw [if_neg c7] at H
            exact absurd H (by simp)
        · rw [if_neg c5] at H
          have c5b0 : decide (256 ≤ (x0_1 / 65536)) = false := decide_eq_false c5
          clear c5
          obtain ⟨ji10, hji10⟩ : ∃ j_ : Int, ((x0_1 / 65536) % 256) = j_ := ⟨_, rfl⟩
          replace H : (if 0 ≤ (ji10) then (if (ji10) < 256 then (some (wrap64 ((wrap64 (x2_1 + 16)) + (wrap64 (bt (⟨#[0, 1, 2, 2, 3, 3, 3, 3, 4, 4, 4, 4, 4, 4, 4, 4, 5, 5, 5, 5, 5, 5, 5, 5, 5, 5, 5, 5, 5, 5, 5, 5, 6, 6, 6, 6, 6, 6, 6, 6, 6, 6, 6, 6, 6, 6, 6, 6, 6, 6, 6, 6, 6, 6, 6, 6, 6, 6, 6, 6, 6, 6, 6, 6, 7, 7, 7, 7, 7, 7, 7, 7, 7, 7, 7, 7, 7, 7, 7, 7, 7, 7, 7, 7, 7, 7, 7, 7, 7, 7, 7, 7, 7, 7, 7, 7, 7, 7, 7, 7, 7, 7, 7, 7, 7, 7, 7, 7, 7, 7, 7, 7, 7, 7, 7, 7, 7, 7, 7, 7, 7, 7, 7, 7, 7, 7, 7, 7, 8, 8, 8, 8, 8, 8, 8, 8, 8, 8, 8, 8, 8, 8, 8, 8, 8, 8, 8, 8, 8, 8, 8, 8, 8, 8, 8, 8, 8, 8, 8, 8, 8, 8, 8, 8, 8, 8, 8, 8, 8, 8, 8, 8, 8, 8, 8, 8, 8, 8, 8, 8, 8, 8, 8, 8, 8, 8, 8, 8, 8, 8, 8, 8, 8, 8, 8, 8, 8, 8, 8, 8, 8, 8, 8, 8, 8, 8, 8, 8, 8, 8, 8, 8, 8, 8, 8, 8, 8, 8, 8, 8, 8, 8, 8, 8, 8, 8, 8, 8, 8, 8, 8, 8, 8, 8, 8, 8, 8, 8, 8, 8, 8, 8, 8, 8, 8, 8, 8, 8, 8, 8, 8, 8, 8, 8, 8, 8]⟩ : ByteArray) (ji10)))))) else (none)) else (none)) = some r := by first | (rw [hji10] at H; exact H) | (simp only [hji10] at H ⊢; exact H)
          by_cases c11 : 0 ≤ (ji10)
          · rw [if_pos c11] at H
            have c11b0 : decide (0 ≤ (ji10)) = true := decide_eq_true c11
            clear c11
            by_cases c12 : (ji10) < 256
            · rw [if_pos c12] at H
              have c12b0 : decide ((ji10) < 256) = true := decide_eq_true c12
              clear c12
              obtain rfl := Option.some.inj H
              have p13 : 0 ≤ ((ji10) : Int) := of_decide_eq_true (by first | (with_reducible assumption) | assumption)
              have q13 : (ji10) < (256 : Int) := of_decide_eq_true (by first | (with_reducible assumption) | assumption)
              have hx13 := bt_at (⟨#[0, 1, 2, 2, 3, 3, 3, 3, 4, 4, 4, 4, 4, 4, 4, 4, 5, 5, 5, 5, 5, 5, 5, 5, 5, 5, 5, 5, 5, 5, 5, 5, 6, 6, 6, 6, 6, 6, 6, 6, 6, 6, 6, 6, 6, 6, 6, 6, 6, 6, 6, 6, 6, 6, 6, 6, 6, 6, 6, 6, 6, 6, 6, 6, 7, 7, 7, 7, 7, 7, 7, 7, 7, 7, 7, 7, 7, 7, 7, 7, 7, 7, 7, 7, 7, 7, 7, 7, 7, 7, 7, 7, 7, 7, 7, 7, 7, 7, 7, 7, 7, 7, 7, 7, 7, 7, 7, 7, 7, 7, 7, 7, 7, 7, 7, 7, 7, 7, 7, 7, 7, 7, 7, 7, 7, 7, 7, 7, 8, 8, 8, 8, 8, 8, 8, 8, 8, 8, 8, 8, 8, 8, 8, 8, 8, 8, 8, 8, 8, 8, 8, 8, 8, 8, 8, 8, 8, 8, 8, 8, 8, 8, 8, 8, 8, 8, 8, 8, 8, 8, 8, 8, 8, 8, 8, 8, 8, 8, 8, 8, 8, 8, 8, 8, 8, 8, 8, 8, 8, 8, 8, 8, 8, 8, 8, 8, 8, 8, 8, 8, 8, 8, 8, 8, 8, 8, 8, 8, 8, 8, 8, 8, 8, 8, 8, 8, 8, 8, 8, 8, 8, 8, 8, 8, 8, 8, 8, 8, 8, 8, 8, 8, 8, 8, 8, 8, 8, 8, 8, 8, 8, 8, 8, 8, 8, 8, 8, 8, 8, 8, 8, 8, 8, 8, 8, 8]⟩ : ByteArray) (ji10)
              replace p13 := eq_true p13
              replace q13 := eq_true q13
              go_wp2
              go_ret
              exact ⟨by first | rfl | (simp; done) | (simp only [← hji10] <;> (first | rfl | simp)) | (simp [*]; done), by repeat (first | exact Drawn0.refl _ | apply Drawn0.step)⟩
            · rw [if_neg c12] at H
              exact absurd H (by simp)
          · rw [if_neg c11] at H
            exact absurd H (by simp)
      · rw [if_neg c4] at H
        have c4b0 : decide (65536 ≤ x0_1) = false := decide_eq_false c4
        clear c4
        by_cases c14 : x0_1 ≥ 256
        · rw [if_pos c14] at H
          have c14b0 : decide (256 ≤ x0_1) = true := decide_eq_true c14
          clear c14
          obtain ⟨ji15, hji15⟩ : ∃ j_ : Int, ((x0_1 / 256) % 256) = j_ := ⟨_, rfl⟩
          replace H : (if 0 ≤ (ji15) then (if (ji15) < 256 then (some (wrap64 ((wrap64 (x2_1 + 8)) + (wrap64 (bt (⟨#[0, 1, 2, 2, 3, 3, 3, 3, 4, 4, 4, 4, 4, 4, 4, 4, 5, 5, 5, 5, 5, 5, 5, 5, 5, 5, 5, 5, 5, 5, 5, 5, 6, 6, 6, 6, 6, 6, 6, 6, 6, 6, 6, 6, 6, 6, 6, 6, 6, 6, 6, 6, 6, 6, 6, 6, 6, 6, 6, 6, 6, 6, 6, 6, 7, 7, 7, 7, 7, 7, 7, 7, 7, 7, 7, 7, 7, 7, 7, 7, 7, 7, 7, 7, 7, 7, 7, 7, 7, 7, 7, 7, 7, 7, 7, 7, 7, 7, 7, 7, 7, 7, 7, 7, 7, 7, 7, 7, 7, 7, 7, 7, 7, 7, 7, 7, 7, 7, 7, 7, 7, 7, 7, 7, 7, 7, 7, 7, 8, 8, 8, 8, 8, 8, 8, 8, 8, 8, 8, 8, 8, 8, 8, 8, 8, 8, 8, 8, 8, 8, 8, 8, 8, 8, 8, 8, 8, 8, 8, 8, 8, 8, 8, 8, 8, 8, 8, 8, 8, 8, 8, 8, 8, 8, 8, 8, 8, 8, 8, 8, 8, 8, 8, 8, 8, 8, 8, 8, 8, 8, 8, 8, 8, 8, 8, 8, 8, 8, 8, 8, 8, 8, 8, 8, 8, 8, 8, 8, 8, 8, 8, 8, 8, 8, 8, 8, 8, 8, 8, 8, 8, 8, 8, 8, 8, 8, 8, 8, 8, 8, 8, 8, 8, 8, 8, 8, 8, 8, 8, 8, 8, 8, 8, 8, 8, 8, 8, 8, 8, 8, 8, 8, 8, 8, 8, 8]⟩ : ByteArray) (ji15)))))) else (none)) else (none)) = some r := by first | (rw [hji15] at H; exact H) | (simp only [hji15] at H ⊢; exact H)
          by_cases c16 : 0 ≤ (ji15)
          · rw [if_pos c16] at H
            have c16b0 : decide (0 ≤ (ji15)) = true := decide_eq_true c16
            clear c16
            by_cases c17 : (ji15) < 256
            · rw [if_pos c17] at H
              have c17b0 : decide ((ji15) < 256) = true := decide_eq_true c17
              clear c17
              obtain rfl := Option.some.inj H
              have p18 : 0 ≤ ((ji15) : Int) := of_decide_eq_true (by first | (with_reducible assumption) | assumption)
              have q18 : (ji15) < (256 : Int) := of_decide_eq_true (by first | (with_reducible assumption) | assumption)
              have hx18 := bt_at (⟨#[0, 1, 2, 2, 3, 3, 3, 3, 4, 4, 4, 4, 4, 4, 4, 4, 5, 5, 5, 5, 5, 5, 5, 5, 5, 5, 5, 5, 5, 5, 5, 5, 6, 6, 6, 6, 6, 6, 6, 6, 6, 6, 6, 6, 6, 6, 6, 6, 6, 6, 6, 6, 6, 6, 6, 6, 6, 6, 6, 6, 6, 6, 6, 6, 7, 7, 7, 7, 7, 7, 7, 7, 7, 7, 7, 7, 7, 7, 7, 7, 7, 7, 7, 7, 7, 7, 7, 7, 7, 7, 7, 7, 7, 7, 7, 7, 7, 7, 7, 7, 7, 7, 7, 7, 7, 7, 7, 7, 7, 7, 7, 7, 7, 7, 7, 7, 7, 7, 7, 7, 7, 7, 7, 7, 7, 7, 7, 7, 8, 8, 8, 8, 8, 8, 8, 8, 8, 8, 8, 8, 8, 8, 8, 8, 8, 8, 8, 8, 8, 8, 8, 8, 8, 8, 8, 8, 8, 8, 8, 8, 8, 8, 8, 8, 8, 8, 8, 8, 8, 8, 8, 8, 8, 8, 8, 8, 8, 8, 8, 8, 8, 8, 8, 8, 8, 8, 8, 8, 8, 8, 8, 8, 8, 8, 8, 8, 8, 8, 8, 8, 8, 8, 8, 8, 8, 8, 8, 8, 8, 8, 8, 8, 8, 8, 8, 8, 8, 8, 8, 8, 8, 8, 8, 8, 8, 8, 8, 8, 8, 8, 8, 8, 8, 8, 8, 8, 8, 8, 8, 8, 8, 8, 8, 8, 8, 8, 8, 8, 8, 8, 8, 8, 8, 8, 8, 8]⟩ : ByteArray) (ji15)
              replace p18 := eq_true p18
              replace q18 := eq_true q18
              go_wp2
              go_ret
              exact ⟨by first | rfl | (simp; done) | (simp only [← hji15] <;> (first | rfl | simp)) | (simp [*]; done), by repeat (first | exact Drawn0.refl _ | apply Drawn0.step)⟩
            · rw [if_neg c17] at H
              exact absurd H (by simp)
          · rw [if_neg c16] at H
            exact absurd H (by simp)
        · rw [if_neg c14] at H
          have c14b0 : decide (256 ≤ x0_1) = false := decide_eq_false c14
          clear c14
          obtain ⟨ji19, hji19⟩ : ∃ j_ : Int, ((x0_1) % 256) = j_ := ⟨_, rfl⟩
          replace H : (if 0 ≤ (ji19) then (if (ji19) < 256 then (some (wrap64 (x2_1 + (wrap64 (bt (⟨#[0, 1, 2, 2, 3, 3, 3, 3, 4, 4, 4, 4, 4, 4, 4, 4, 5, 5, 5, 5, 5, 5, 5, 5, 5, 5, 5, 5, 5, 5, 5, 5, 6, 6, 6, 6, 6, 6, 6, 6, 6, 6, 6, 6, 6, 6, 6, 6, 6, 6, 6, 6, 6, 6, 6, 6, 6, 6, 6, 6, 6, 6, 6, 6, 7, 7, 7, 7, 7, 7, 7, 7, 7, 7, 7, 7, 7, 7, 7, 7, 7, 7, 7, 7, 7, 7, 7, 7, 7, 7, 7, 7, 7, 7, 7, 7, 7, 7, 7, 7, 7, 7, 7, 7, 7, 7, 7, 7, 7, 7, 7, 7, 7, 7, 7, 7, 7, 7, 7, 7, 7, 7, 7, 7, 7, 7, 7, 7, 8, 8, 8, 8, 8, 8, 8, 8, 8, 8, 8, 8, 8, 8, 8, 8, 8, 8, 8, 8, 8, 8, 8, 8, 8, 8, 8, 8, 8, 8, 8, 8, 8, 8, 8, 8, 8, 8, 8, 8, 8, 8, 8, 8, 8, 8, 8, 8, 8, 8, 8, 8, 8, 8, 8, 8, 8, 8, 8, 8, 8, 8, 8, 8, 8, 8, 8, 8, 8, 8, 8, 8, 8, 8, 8, 8, 8, 8, 8, 8, 8, 8, 8, 8, 8, 8, 8, 8, 8, 8, 8, 8, 8, 8, 8, 8, 8, 8, 8, 8, 8, 8, 8, 8, 8, 8, 8, 8, 8, 8, 8, 8, 8, 8, 8, 8, 8, 8, 8, 8, 8, 8, 8, 8, 8, 8, 8, 8]⟩ : ByteArray) (ji19)))))) else (none)) else (none)) = some r := by first | (rw [hji19] at H; exact H) | (simp only [hji19] at H ⊢; exact H)
          by_cases c20 : 0 ≤ (ji19)
          · rw [if_pos c20] at H
            have c20b0 : decide (0 ≤ (ji19)) = true := decide_eq_true c20
            clear c20
            by_cases c21 : (ji19) < 256
            · rw [if_pos c21] at H
              have c21b0 : decide ((ji19) < 256) = true := decide_eq_true c21
              clear c21
              obtain rfl := Option.some.inj H
              have p22 : 0 ≤ ((ji19) : Int) := of_decide_eq_true (by first | (with_reducible assumption) | assumption)
              have q22 : (ji19) < (256 : Int) := of_decide_eq_true (by first | (with_reducible assumption) | assumption)
              have hx22 := bt_at (⟨#[0, 1, 2, 2, 3, 3, 3, 3, 4, 4, 4, 4, 4, 4, 4, 4, 5, 5, 5, 5, 5, 5, 5, 5, 5, 5, 5, 5, 5, 5, 5, 5, 6, 6, 6, 6, 6, 6, 6, 6, 6, 6, 6, 6, 6, 6, 6, 6, 6, 6, 6, 6, 6, 6, 6, 6, 6, 6, 6, 6, 6, 6, 6, 6, 7, 7, 7, 7, 7, 7, 7, 7, 7, 7, 7, 7, 7, 7, 7, 7, 7, 7, 7, 7, 7, 7, 7, 7, 7, 7, 7, 7, 7, 7, 7, 7, 7, 7, 7, 7, 7, 7, 7, 7, 7, 7, 7, 7, 7, 7, 7, 7, 7, 7, 7, 7, 7, 7, 7, 7, 7, 7, 7, 7, 7, 7, 7, 7, 8, 8, 8, 8, 8, 8, 8, 8, 8, 8, 8, 8, 8, 8, 8, 8, 8, 8, 8, 8, 8, 8, 8, 8, 8, 8, 8, 8, 8, 8, 8, 8, 8, 8, 8, 8, 8, 8, 8, 8, 8, 8, 8, 8, 8, 8, 8, 8, 8, 8, 8, 8, 8, 8, 8, 8, 8, 8, 8, 8, 8, 8, 8, 8, 8, 8, 8, 8, 8, 8, 8, 8, 8, 8, 8, 8, 8, 8, 8, 8, 8, 8, 8, 8, 8, 8, 8, 8, 8, 8, 8, 8, 8, 8, 8, 8, 8, 8, 8, 8, 8, 8, 8, 8, 8, 8, 8, 8, 8, 8, 8, 8, 8, 8, 8, 8, 8, 8, 8, 8, 8, 8, 8, 8, 8, 8, 8, 8]⟩ : ByteArray) (ji19)
              replace p22 := eq_true p22
              replace q22 := eq_true q22
              go_wp2
              go_ret
              exact ⟨by first | rfl | (simp; done) | (simp only [← hji19] <;> (first | rfl | simp)) | (simp [*]; done), by repeat (first | exact Drawn0.refl _ | apply Drawn0.step)⟩
            · rw [if_neg c21] at H
              exact absurd H (by simp)
          · rw [if_neg c20] at H
            exact absurd H (by simp)

-- NOT PRINTED: function 39 (octets_shifts)

/-! ### octets_Put: function 21, by hand -/
def oct_sh (m : Nat) : List Nat := (List.range m).map fun i => m - 1 - i
def oct_put (n : Int) (l : List Nat) : List Int := l.map fun (s : Nat) => (shr .u64 n (8 * (s : Int))) % 256
def octets_Put.f (k : Nat) (a0 a1 : Int) : Option (List Int × Int) :=
  if a1 < 1 then some ([], 4) else if 8 < a1 then some ([], 4) else (bits_Len64.f k a0).bind fun n => if 8 * a1 < n then some ([], 4) else some (oct_put a0 (oct_sh a1.toNat), 0)
theorem octets_Put.mono : ∀ a0 a1 k, LeO (octets_Put.f k a0 a1) (octets_Put.f (k + 1) a0 a1) := by
  intro a0 a1 k
  unfold octets_Put.f
  refine LeO.ite (LeO.refl _) (LeO.ite (LeO.refl _) (LeO.bind (bits_Len64.mono _ _) (fun _ => LeO.refl _)))
theorem oct_next (m i : Nat) (h : i < m) : (oct_sh m).take (i + 1) = (oct_sh m).take i ++ [m - 1 - i] := by
  have hlen : (oct_sh m).length = m := by simp [oct_sh]
  rw [List.take_succ_eq_append_getElem (by omega)]
  congr 2
  simp [oct_sh]
theorem oct_boxed {β : Type} (B : Nat) (t : TypeId) (v : Value) : Own (fun (_ : β) W => Boxed W B t v) := by
  rintro s X Y row hv hg hrow
  refine hv.kept hg (fun e' => ?_)
  obtain ⟨o, ho, hc⟩ := hrow B e'.symm
  rw [show X.heap[B]? = _ from hv] at ho; cases ho; cases hc
theorem oct_put_snoc (n : Int) (l : List Nat) (s : Nat) : oct_put n (l ++ [s]) = oct_put n l ++ [(shr .u64 n (8 * (s : Int))) % 256] := by simp [oct_put]
/-- A box lies as it lay. -/
def oct_Kp (B : Nat) (W W' : World) : Prop := W'.heap[B]? = W.heap[B]?
set_option maxRecDepth 100000 in
set_option maxHeartbeats 1000000 in
theorem oct_all1 (n : Nat) (hn : 1 ≤ n) (l Bn m : Nat) (hm : m ≤ 8) (J Jx : List Nat → World → Prop)
    (hY : ∀ (pre : List Nat) (x : Nat) W, J pre W → pre.length < m → YieldAt Fence.wide (n - 1) Try.prog l #[.int .i64 (8 * (x : Int))] W fun e W' =>
      (e = .returned (.bool true) ∧ J (pre ++ [x]) W' ∧ oct_Kp Bn W W') ∨ (e = .returned (.bool false) ∧ Jx (pre ++ [x]) W'))
    (W : World) (hB : Boxed W Bn 3 (.int .i64 m)) (h0 : J [] W) :
    CallsIn Fence.wide n Try.prog 47 #[.func (.yield l) #[] #[], .pointer (some ⟨Bn, 0, none⟩)] W fun e W' => (∃ v, e = .returned v) ∧
      ((∃ ys, ys = oct_sh m ∧ J ys W') ∨ (∃ pre, pre <+: oct_sh m ∧ Jx pre W')) := by
  refine callsIn_of_wp Try.func47 rfl trivial ?_ rfl
  simp only [Try.ntmps47, List.size_toArray, List.length_cons, List.length_nil, Nat.reduceAdd, Nat.reduceSub, Array.replicate_succ, Array.replicate_zero, List.push_toArray, List.append_toArray, List.nil_append, List.cons_append]
  have hcell := hB.cell
  gi_wp2
  gi_loopw [5] (fun p wr => ∃ (i : Nat), p = .int .i64 i ∧ i ≤ m ∧ Boxed wr Bn 3 (.int .i64 m) ∧ J ((oct_sh m).take i) wr)
    (fun p wr => m - (intOf p).toNat)
  case atStart =>
    exact ⟨0, rfl, by omega, hB, by simpa using h0⟩
  case round =>
    obtain ⟨i, rfl, hi, hb, hJ⟩ := hrel
    have hc := hb.cell
    by_cases hlt : i < m
    · have hlen : (oct_sh m).length = m := by simp [oct_sh]
      have hY' := hY ((oct_sh m).take i) (m - 1 - i) wr hJ (by simp [hlen]; omega)
      rw [show ((m - 1 - i : Nat) : Int) = (m : Int) - 1 - i from by omega] at hY'
      obtain ⟨fn, tmps, assign, body, hy, hR⟩ := hY'
      gi_wp2
      refine hR.mono ?_
      rintro e W3 (⟨rfl, hJ3, hk3⟩ | ⟨rfl, hJx3⟩)
      · have hb3 : Boxed W3 Bn 3 (.int .i64 m) := hk3.trans hb
        gi_wp2
        go_roundw
        case rel => exact ⟨i + 1, by simp, by omega, hb3, by rw [oct_next m i hlt]; exact hJ3⟩
        case measure => simp [intOf]; omega
      · gi_wp2
        refine bodyPost_ret (results_none rfl _ _ _) rfl ?_
        exact ⟨⟨_, rfl⟩, .inr ⟨_, by rw [← oct_next m i hlt]; exact List.take_prefix _ _, hJx3⟩⟩
    · obtain rfl : i = m := by omega
      gi_wp2
      go_end0
      exact ⟨⟨_, rfl⟩, .inl ⟨_, rfl, by rwa [List.take_of_length_le (by simp [oct_sh])] at hJ⟩⟩
set_option maxHeartbeats 1000000 in
theorem oct_all (n : Nat) (m : Int) (w : World) :
    CallsIn Fence.wide n Try.prog 39 #[.int .i64 m] w fun e w' => e = .returned (.func (.func 47) #[] #[.pointer (some ⟨w.heap.size, 0, none⟩)]) ∧ w' = w.alloc (.cells #[.int .i64 m] 3) := by
  refine callsIn_of_wp Try.func39 rfl trivial ?_ rfl
  simp only [Try.ntmps39, List.size_toArray, List.length_cons, List.length_nil, Nat.reduceAdd, Nat.reduceSub, Array.replicate_succ, Array.replicate_zero, List.push_toArray, List.append_toArray, List.nil_append, List.cons_append]
  gi_wp2
  go_ret
  exact ⟨rfl, rfl⟩
theorem oct_stops (n : Nat) (hn : 1 ≤ n) (Bn m : Nat) (hm : m ≤ 8) (w : World) (hB : Boxed w Bn 3 (.int .i64 m)) :
    SeqStopsK Fence.wide n Try.prog 47 #[.pointer (some ⟨Bn, 0, none⟩)] (fun x : Nat => #[Value.int .i64 (8 * (x : Int))]) (oct_Kp Bn) (fun ys => ys = oct_sh m) (fun pre => pre <+: oct_sh m) m w := fun l J Jx W hW _ _ hY h0 =>
  oct_all1 n hn l Bn m hm J Jx hY W ((hW.block Bn hB.lt).trans hB) h0
section
attribute [local go_sem] Oper.semAt_some
attribute [local go_sem ↓ 5000] builtin_shutApp
set_option maxRecDepth 100000 in
set_option maxHeartbeats 2000000 in
theorem octets_Put.calls (k : Nat) (a0 a1 : Int) (r : List Int) (r1 : Int) (w : World) (h : octets_Put.f k a0 a1 = some (r, r1)) :
    Calls Try.prog 21 #[.int .u64 a0, .int .i64 a1] w fun e w' => ∃ v0_ : Value, e = .returned (.tuple #[v0_, .int .i64 r1]) ∧ Kd.R (Kd.int .u8) 5 w' w.heap.size (fun _ => True) v0_ r ∧ Below w.heap.size w w' := by
  refine (callsIn_wide (n := 5)).1 (callsIn_of_wp_marks Try.func21 rfl trivial ?_ rfl)
  simp only [Try.ntmps21, List.size_toArray, List.length_cons, List.length_nil, Nat.reduceAdd, Nat.reduceSub, Array.replicate_succ, Array.replicate_zero, List.push_toArray, List.append_toArray, List.nil_append, List.cons_append]
  unfold octets_Put.f at h
  have hB0 : Below w.heap.size w (w.alloc (.cells #[.int .u64 a0] 51)) := (Below.refl _ w).alloc (Nat.le_refl _) _
  by_cases c1 : a1 < 1
  · rw [if_pos c1] at h
    cases h
    gi_wp2
    refine ⟨trivial, ?_⟩
    gi_wp2
    exact ⟨_, results_list (vs := [.slice none 0 0, .int .i64 4]) rfl (by decide) (.tmp (.tmp .nil)), _, rfl, Kd.R_nil _ _ _ _ _, hB0⟩
  rw [if_neg c1] at h
  by_cases c2 : 8 < a1
  · rw [if_pos c2] at h
    cases h
    gi_wp2
    refine ⟨trivial, ?_⟩
    gi_wp2
    exact ⟨_, results_list (vs := [.slice none 0 0, .int .i64 4]) rfl (by decide) (.tmp (.tmp .nil)), _, rfl, Kd.R_nil _ _ _ _ _, hB0⟩
  rw [if_neg c2] at h
  have c1' : decide (a1 < 1) = false := decide_eq_false c1
  have c2' : decide (8 < a1) = false := decide_eq_false c2
  obtain ⟨n, hn, h⟩ := Option.bind_eq_some_iff.1 h
  have hC := fun W => bits_Len64.calls k a0 n W hn
  clear hn
  gi_wp2
  refine ⟨trivial, callsIn_wide.2 ((hC _).mono ?_)⟩
  rintro e w1 ⟨rfl, hd1⟩
  have B1 := hB0.trans (hd1.below.mono (by simp))
  clear hC
  by_cases c3 : 8 * a1 < n
  · rw [if_pos c3] at h
    cases h
    have c3' : decide (8 * a1 < n) = true := decide_eq_true c3
    gi_wp2
    exact ⟨_, results_list (vs := [.slice none 0 0, .int .i64 4]) rfl (by decide) (.tmp (.tmp .nil)), _, rfl, Kd.R_nil _ _ _ _ _, B1⟩
  rw [if_neg c3] at h
  have c3' : decide (8 * a1 < n) = false := decide_eq_false c3
  obtain ⟨m, rfl⟩ := Int.eq_ofNat_of_zero_le (show 0 ≤ a1 by omega)
  cases h
  gi_wp2
  refine ⟨trivial, (oct_all 4 _ _).mono ?_⟩
  rintro e w' ⟨rfl, rfl⟩
  have b0 : Boxed w1 w.heap.size 51 (.int .u64 a0) := (hd1.below.block w.heap.size (by simp)).trans (Boxed.new w 51 (.int .u64 a0))
  have lt1 : w.heap.size < w1.heap.size := b0.lt
  have bO := Boxed.new w1 26 (.slice none 0 0)
  have bN := Boxed.new (w1.alloc (.cells #[.slice none 0 0] 26)) 3 (.int .i64 (m : Int))
  rw [World.size_alloc] at bN
  have B3 : Below w.heap.size w ((w1.alloc (.cells #[.slice none 0 0] 26)).alloc (.cells #[.int .i64 (m : Int)] 3)) := (B1.alloc (by omega) _).alloc (by simp; omega) _
  obtain ⟨i0, hi, hz0, hz1, hz2⟩ := info_parts info5
  clear hd1
  gi_wp2
  refine wpIn_rangeFunc_ownG rfl (by decide) (gf := 47) (lb := #[.pointer (some ⟨w1.heap.size + 1, 0, none⟩)]) rfl trivial (enters_of Try.func47 (by kernel_rfl) rfl)
    (oct_stops 4 (by decide) (w1.heap.size + 1) m (by omega) _ bN) (fun h1 h2 => h2.trans h1) (fun W l o o' hl ho hc _ => World.putObj_heap_other (by simp at hl; omega)) (Below.refl _ _) (fun _ => rfl)
    (fun pre W => ((∃ v, Boxed W w1.heap.size 26 v ∧ W.ownsRow w.heap.size 5 1 v (oct_put a0 pre).length ((oct_put a0 pre).map (Value.int .u8)) ∧ True) ∧ Boxed W w.heap.size 51 (.int .u64 a0)) ∧ Boxed W (w1.heap.size + 1) 3 (.int .i64 (m : Int)) ∧ Below w.heap.size w W)
    (fun _ _ _ => False)
    (OwnFrom.and (OwnFrom.and (Own.from (holdsRow_own w.heap.size w1.heap.size 26 5 1 (fun pre => (oct_put a0 pre).length) (fun pre => (oct_put a0 pre).map (Value.int .u8)) (fun _ _ => True)) _) (Own.from (oct_boxed _ _ _) _)) (OwnFrom.and (Own.from (oct_boxed _ _ _) _) (ownFrom_below (Nat.le_refl _) (by simp; omega))))
    (fun _ _ _ _ _ hs _ _ => hs)
    ⟨⟨⟨_, bO.alloc _, World.ownsRow_nil _ _ _ _, trivial⟩, (b0.alloc _).alloc _⟩, bN, B3⟩
    (fun x => { tmps := #[.int .u64 a0, .int .i64 (m : Int), .pointer (some ⟨w.heap.size, 0, none⟩), undef, .slice none 0 0, .int .i64 0, .pointer (some ⟨w1.heap.size, 0, none⟩), .int .i64 (8 * (x : Int)), .int .i64 (m : Int), .bool false, .bool false, .int .i64 (m : Int), .bool false, .bool false, .bool false, .int .u64 a0, .int .i64 n, .int .i64 (m : Int), .int .i64 (8 * (m : Int)), .bool false, .bool false, .int .i64 (m : Int), .func (.func 47) #[] #[.pointer (some ⟨w1.heap.size + 1, 0, none⟩)], .int .i64 (8 * (x : Int)), undef, undef, undef, undef, undef, undef, undef, undef], defers := [] }) ?assign ?body ?done ?stop
  case assign =>
    intro l x W K hK
    gi_wp2
    exact hK
  case body =>
    rintro l pre x W ⟨⟨⟨v, hv, hrow, _⟩, h51⟩, hbn, hB⟩ hlt
    have hc := hv.cell
    have hc2 := h51.cell
    have hlt1 : w1.heap.size < W.heap.size := hv.lt
    have hlt2 : w.heap.size < W.heap.size := h51.lt
    obtain ⟨jj, hjj⟩ : ∃ j_ : Int, shr .u64 a0 (8 * (x : Int)) = j_ := ⟨_, rfl⟩
    have hsh : Op.shift .shr .u64 a0 .i64 (8 * (x : Int)) = pure (.int .u64 jj) := by rw [← hjj]; exact shift_shr_any _ _ _ _ (by omega)
    have hpl : (oct_put a0 pre).length = pre.length := by simp [oct_put]
    have hml : maxLen = 9223372036854775807 := rfl
    obtain ⟨v', w', hrun, hown', hgrow, _⟩ := run_append_own (P := Try.prog) (w := (W.alloc (.cells #[.int .u8 (IntKind.u8.wrap jj)] 5)).drew) w.heap.size 26 26 5 i0 (.int .u8 0) 1 1 Try.underlying26 hi hz0 hz1 hz2 rfl (by decide) _ _ _ (hrow.alloc _).drew ⟨W.heap.size, 0, none⟩ 1 1 [.int .u8 (IntKind.u8.wrap jj)] rfl (cell_one_new _ _ _) (by simp [Value.oneCell']) (by omega) (by omega) (by have := hB.size; simp; omega)
    obtain ⟨g', cap', rfl⟩ := ownsRow_succ hown'
    obtain ⟨hv1, hv2, hr2, hk2, hb2⟩ := Boxed.appended (W := W.drew) (show Boxed W.drew w1.heap.size 26 v from hv) (by decide) hrow.drew hB.size (Nat.le_of_lt lt1) hown' hgrow
    have hc1 := hv1.cell
    have hf1 := hv1.frozen
    gi_wp2
    have hrun2 := run_shutApp hrun
    clear hrun
    have k3 : Boxed (w'.setCell ⟨w1.heap.size, 0, none⟩ (.slice (some ⟨g', 0, none⟩) ((oct_put a0 pre).length + 1) cap')) (w1.heap.size + 1) 3 (.int .i64 (m : Int)) := ((show Boxed ((W.alloc _).drew) (w1.heap.size + 1) 3 (.int .i64 (m : Int)) from hbn.alloc _).kept hgrow (hbn.not_row (by decide) hrow)).kept (grownBy_setCell' _ _ _) (by simp)
    have k5 : Boxed (w'.setCell ⟨w1.heap.size, 0, none⟩ (.slice (some ⟨g', 0, none⟩) ((oct_put a0 pre).length + 1) cap')) w.heap.size 51 (.int .u64 a0) := ((show Boxed ((W.alloc _).drew) w.heap.size 51 (.int .u64 a0) from h51.alloc _).kept hgrow (h51.not_row (by decide) hrow)).kept (grownBy_setCell' _ _ _) (by simp; omega)
    have hfin : KeepsFrom ((w1.alloc (.cells #[.slice none 0 0] 26)).alloc (.cells #[.int .i64 (m : Int)] 3)).heap.size W (w'.setCell ⟨w1.heap.size, 0, none⟩ (.slice (some ⟨g', 0, none⟩) ((oct_put a0 pre).length + 1) cap')) ∧ oct_Kp (w1.heap.size + 1) W (w'.setCell ⟨w1.heap.size, 0, none⟩ (.slice (some ⟨g', 0, none⟩) ((oct_put a0 pre).length + 1) cap')) ∧ ((∃ v, Boxed (w'.setCell ⟨w1.heap.size, 0, none⟩ (.slice (some ⟨g', 0, none⟩) ((oct_put a0 pre).length + 1) cap')) w1.heap.size 26 v ∧ (w'.setCell ⟨w1.heap.size, 0, none⟩ (.slice (some ⟨g', 0, none⟩) ((oct_put a0 pre).length + 1) cap')).ownsRow w.heap.size 5 1 v (oct_put a0 (pre ++ [x])).length ((oct_put a0 (pre ++ [x])).map (Value.int .u8)) ∧ True) ∧ Boxed (w'.setCell ⟨w1.heap.size, 0, none⟩ (.slice (some ⟨g', 0, none⟩) ((oct_put a0 pre).length + 1) cap')) w.heap.size 51 (.int .u64 a0)) ∧ Boxed (w'.setCell ⟨w1.heap.size, 0, none⟩ (.slice (some ⟨g', 0, none⟩) ((oct_put a0 pre).length + 1) cap')) (w1.heap.size + 1) 3 (.int .i64 (m : Int)) ∧ Below w.heap.size w (w'.setCell ⟨w1.heap.size, 0, none⟩ (.slice (some ⟨g', 0, none⟩) ((oct_put a0 pre).length + 1) cap')) := by
      refine ⟨KeepsOthers.from ((show KeepsOthers W W.drew from ⟨Nat.le_refl _, fun _ _ h _ => h⟩).trans hk2) _, k3.trans hbn.symm, ⟨⟨_, hv2, ?_, trivial⟩, k5⟩, k3, (below_drew hB).trans hb2⟩
      rw [oct_put_snoc, hjj, List.length_append, List.map_append]
      exact hr2
    rw [hpl] at hfin
    gi_region
    all_goals gi_wp2
    all_goals exact hfin
  case done =>
    rintro D ys W hD rfl ⟨⟨⟨v, hv, hrow, _⟩, _⟩, _, hB⟩ hK
    have hc := hv.cell
    gi_wp2
    refine ⟨by simp, .inl ⟨_, _, rfl, run_takeDeferred hK, ?_⟩⟩
    refine ⟨_, results_list (vs := [v, .int .i64 0]) rfl (by simp) (.tmp (.tmp .nil)), v, rfl, ?_, hB.trans (belowK_b (w := w) (Nat.le_refl _) W D _ _ (by simp at hD; omega) hK rfl rfl)⟩
    exact Kd.R_of_own (ownsRow_putObj hrow _ hK rfl) (fun _ _ => trivial)
  case stop =>
    rintro D c pre W _ _ h _
    exact h.elim
end


/-! ### command_varint: function 22, by hand -/
/-- A row of octets that is this call's own, and what lies as it lay. -/
def enc_at (base : Nat) (w W : World) (v : Value) (xs : List Int) : Prop := W.ownsRow base 5 1 v xs.length (nums .u8 xs) ∧ Below base w W ∧ base ≤ W.heap.size
def enc_keep (W W' : World) : Prop := ∀ (b : Nat) (cells : Array Value) (t : TypeId), t ≠ 5 → W.heap[b]? = some (.cells cells t (0, 0)) → W'.heap[b]? = some (.cells cells t (0, 0))
theorem enc_keep_refl (W : World) : enc_keep W W := fun _ _ _ _ h => h
theorem enc_keep_trans {A B C : World} (h : enc_keep A B) (k : enc_keep B C) : enc_keep A C := fun b c t ht hb => k b c t ht (h b c t ht hb)
theorem enc_keep_grown {W W' : World} {base : Nat} {v : Value} {n : Nat} {xs : List Value} (ho : W.ownsRow base 5 1 v n xs) (hg : W.grownBy W' v.ownBlock) : enc_keep W W' := by
  intro b cells t ht hb
  refine (hg.block b (Array.getElem?_eq_some_iff.1 hb).1 ?_).trans hb
  rcases ho.2 with ⟨rfl, _⟩ | ⟨g, cap, cur, rfl, _, hgb, _⟩
  · simp [Value.ownBlock]
  · intro e'
    obtain rfl : b = g := by simpa [Value.ownBlock] using e'
    rw [hb] at hgb
    simp at hgb
    exact ht hgb.2
theorem enc_keep_alloc {W : World} (o : Obj) : enc_keep W (W.alloc o) := by
  intro b cells t _ hb
  have hlt := (Array.getElem?_eq_some_iff.1 hb).1
  exact ((below_alloc (Below.refl W.heap.size W) o).block b hlt).trans hb
theorem enc_at_alloc {base : Nat} {w W : World} {v : Value} {xs : List Int} (h : enc_at base w W v xs) (o : Obj) : enc_at base w (W.alloc o) v xs := ⟨h.1.alloc o, h.2.1.alloc h.2.2 o, by have := h.2.2; simp; omega⟩
theorem enc_at_drew {base : Nat} {w W : World} {v : Value} {xs : List Int} (h : enc_at base w W v xs) : enc_at base w W.drew v xs := ⟨h.1.drew, below_drew h.2.1, h.2.2⟩
def enc_other (W W' : World) (v : Value) : Prop := ∀ (b : Nat) (o : Obj), W.heap[b]? = some o → some b ≠ v.ownBlock → W'.heap[b]? = some o
theorem enc_at_lt {base : Nat} {w W : World} {g n cap : Nat} {xs : List Int} (h : enc_at base w W (.slice (some ⟨g, 0, none⟩) n cap) xs) : g < W.heap.size := by
  rcases h.1.2 with ⟨h0, _⟩ | ⟨g', cap', cur, h0, _, hh, _⟩
  · cases h0
  · cases h0
    exact (Array.getElem?_eq_some_iff.1 hh).1
theorem enc_at_below {base : Nat} {w W W' : World} {v : Value} {xs : List Int} (h : enc_at base w W v xs) (hb : Below W.heap.size W W') : enc_at base w W' v xs := by
  refine ⟨⟨h.1.1, ?_⟩, h.2.1.trans (hb.mono h.2.2), Nat.le_trans h.2.2 hb.size⟩
  rcases h.1.2 with h0 | ⟨g, cap, cur, h0, h1, hh, h2⟩
  · exact .inl h0
  · exact .inr ⟨g, cap, cur, h0, h1, (hb.block g (Array.getElem?_eq_some_iff.1 hh).1).trans hh, h2⟩
theorem enc_app {base : Nat} {w W : World} {v : Value} {xs : List Int} (h : enc_at base w W v xs) (ad : Addr) (m c : Nat) (ys : List Int) (hm : ys.length = m)
    (hc : ∀ j u, (nums .u8 ys)[j]? = some u → W.cell? (ad.add j) = some u) (hp : 0 < xs.length + m) (hl : xs.length + m ≤ 140737488355328) :
    ∃ g cap W', (shutApp #[26, 26] 26 #[v, .slice (some ad) m c]).run Try.prog W = .ok (.value (.slice (some ⟨g, 0, none⟩) (xs.length + m) cap)) W' ∧ enc_at base w W' (.slice (some ⟨g, 0, none⟩) (xs.length + m) cap) (xs ++ ys) ∧ enc_keep W W' ∧ enc_other W W' v := by
  obtain ⟨i0, hi, hz0, hz1, hz2⟩ := info_parts info5
  have hml : maxLen = 9223372036854775807 := rfl
  obtain ⟨v', W', hrun, hown, hg, _⟩ := run_append_own (P := Try.prog) (w := W) base 26 26 5 i0 (.int .u8 0) 1 1 Try.underlying26 hi hz0 hz1 hz2 rfl (by decide) v xs.length (nums .u8 xs) h.1 ad m c (nums .u8 ys) (by simp [nums, hm]) hc (by simp [nums, Value.oneCell']) (by omega) (by omega) h.2.2
  obtain ⟨g, cap, rfl⟩ : ∃ g cap, v' = .slice (some ⟨g, 0, none⟩) (xs.length + m) cap := by
    rcases hown.2 with ⟨_, h0⟩ | ⟨g, cap, _, rfl, _⟩
    · omega
    · exact ⟨g, cap, rfl⟩
  refine ⟨g, cap, W', run_shutApp hrun, ⟨?_, h.2.1.grown hg h.2.2 (own_base h.1), Nat.le_trans h.2.2 hg.size⟩, enc_keep_grown h.1 hg, fun b o hb hne => (hg.block b (Array.getElem?_eq_some_iff.1 hb).1 hne).trans hb⟩
  rw [List.length_append, hm, nums_append]
  exact hown
theorem enc_lit {base : Nat} {w W : World} {v : Value} {xs : List Int} (h : enc_at base w W v xs) (ys : List Int) (hp : 0 < xs.length + ys.length) (hl : xs.length + ys.length ≤ 140737488355328) :
    ∃ g cap W', (shutApp #[26, 26] 26 #[v, .slice (some ⟨W.heap.size, 0, none⟩) ys.length ys.length]).run Try.prog (W.alloc (.cells (nums .u8 ys).toArray 5)) = .ok (.value (.slice (some ⟨g, 0, none⟩) (xs.length + ys.length) cap)) W' ∧ enc_at base w W' (.slice (some ⟨g, 0, none⟩) (xs.length + ys.length) cap) (xs ++ ys) ∧ enc_keep W W' := by
  obtain ⟨g, cap, W', h1, h2, h3, _⟩ := enc_app (enc_at_alloc h (.cells (nums .u8 ys).toArray 5)) ⟨W.heap.size, 0, none⟩ ys.length ys.length ys rfl (by simpa using World.news_of_block (cs := (nums .u8 ys).toArray) (t := 5) (fr := (0, 0)) (heap_alloc_new W (.cells (nums .u8 ys).toArray 5))) hp hl
  exact ⟨g, cap, W', h1, h2, enc_keep_trans (enc_keep_alloc _) h3⟩
theorem enc_litd {base : Nat} {w W : World} {v : Value} {xs : List Int} (h : enc_at base w W v xs) (ys : List Int) (hp : 0 < xs.length + ys.length) (hl : xs.length + ys.length ≤ 140737488355328) :
    ∃ g cap W', (shutApp #[26, 26] 26 #[v, .slice (some ⟨W.heap.size, 0, none⟩) ys.length ys.length]).run Try.prog (W.alloc (.cells (nums .u8 ys).toArray 5)).drew = .ok (.value (.slice (some ⟨g, 0, none⟩) (xs.length + ys.length) cap)) W' ∧ enc_at base w W' (.slice (some ⟨g, 0, none⟩) (xs.length + ys.length) cap) (xs ++ ys) ∧ enc_keep W W' := enc_lit (enc_at_drew h) ys hp hl
theorem enc_str {base : Nat} {w W : World} {v : Value} {xs : List Int} (h : enc_at base w W v xs) (y : ByteArray) (hp : 0 < xs.length + y.size) (hl : xs.length + y.size ≤ 140737488355328) :
    ∃ g cap W', (shutApp #[26, 9] 26 #[v, .string y]).run Try.prog W = .ok (.value (.slice (some ⟨g, 0, none⟩) (xs.length + y.size) cap)) W' ∧ enc_at base w W' (.slice (some ⟨g, 0, none⟩) (xs.length + y.size) cap) (xs ++ bytesOf y) ∧ enc_keep W W' ∧ enc_other W W' v := by
  obtain ⟨i0, hi, hz0, hz1, hz2⟩ := info_parts info5
  have hml : maxLen = 9223372036854775807 := rfl
  obtain ⟨v', W', hrun, hown, hg, _⟩ := Lib.run_append_own_string (P := Try.prog) (w := W) base 26 9 26 5 i0 Try.underlying26 (by kernel_rfl) hi hz0 hz1 hz2 v xs.length (nums .u8 xs) h.1 y (by omega) (by omega) h.2.2
  obtain ⟨g, cap, rfl⟩ : ∃ g cap, v' = .slice (some ⟨g, 0, none⟩) (xs.length + y.size) cap := by
    rcases hown.2 with ⟨_, h0⟩ | ⟨g, cap, _, rfl, _⟩
    · omega
    · exact ⟨g, cap, rfl⟩
  refine ⟨g, cap, W', run_shutApp hrun, ⟨?_, h.2.1.grown hg h.2.2 (own_base h.1), Nat.le_trans h.2.2 hg.size⟩, enc_keep_grown h.1 hg, fun b o hb hne => (hg.block b (Array.getElem?_eq_some_iff.1 hb).1 hne).trans hb⟩
  rw [List.length_append, bytesOf_length, nums_append]
  have : nums .u8 (bytesOf y) = Lib.strCells y := by simp [nums, bytesOf, Lib.strCells]
  rw [this]
  exact hown
/-- Groups of 7 bits, the lowest first. -/
def cmd_vi : Nat → Int → List Int
  | 0, _ => []
  | k + 1, n => if n < 128 then [n % 256] else (n % 128 + 128) :: cmd_vi k (n / 128)
theorem cmd_vi_length : ∀ (k : Nat) (n : Int), (cmd_vi k n).length ≤ k
  | 0, _ => Nat.le_refl _
  | k + 1, n => by
    simp only [cmd_vi]
    split
    · simp
    · have := cmd_vi_length k (n / 128); simp; omega
theorem or128 (n : Int) : Go.bits .or .u8 (n % 256) 128 = n % 128 + 128 := by
  have key : ∀ m : Fin 256, Go.bits .or .u8 ((m : Nat) : Int) 128 = ((m : Nat) : Int) % 128 + 128 := by decide +kernel
  obtain ⟨m, hm⟩ := Int.eq_ofNat_of_zero_le (Int.emod_nonneg n (show (256 : Int) ≠ 0 by decide))
  have hlt : m < 256 := by have := Int.emod_lt_of_pos n (show (0 : Int) < 256 by decide); omega
  rw [hm]
  have := key ⟨m, hlt⟩
  simp only at this
  rw [this]
  omega
section
attribute [local go_sem ↓ 5000] builtin_shutApp
set_option maxRecDepth 100000 in
set_option maxHeartbeats 2000000 in
theorem cmd_varint {base : Nat} {w W : World} {v : Value} {xs : List Int} (h : enc_at base w W v xs) (hlen : xs.length ≤ 1000) (n : Int) (h0 : 0 ≤ n) (hn : n < 4398046511104) :
    Calls Try.prog 22 #[v, .int .i64 n] W fun e W' => ∃ g cap, e = .returned (.slice (some ⟨g, 0, none⟩) (xs ++ cmd_vi 6 n).length cap) ∧ enc_at base w W' (.slice (some ⟨g, 0, none⟩) (xs ++ cmd_vi 6 n).length cap) (xs ++ cmd_vi 6 n) ∧ enc_keep W W' := by
  have HE0 := Aside0.mk h
  clear h
  have HL0 := Aside0.mk hlen
  have HN0 := Aside0.mk hn
  clear hlen hn
  go_enter Try.func22, Try.ntmps22
  go_wp2
  refine wp_scope_jumps 0 (fun a' w' => ∃ (k : Nat) (m : Int) (v : Value) (ys : List Int) (u5 u6 u7 u8 u9 u10 u11 u12 u13 u14 u15 u16 u17 u18 u19 : Value), a' = { tmps := #[v, .int .i64 m, undef, undef, .slice none 0 0, u5, u6, u7, u8, u9, u10, u11, u12, u13, u14, u15, u16, u17, u18, u19], defers := [] } ∧ 0 ≤ m ∧ Aside0 (m < (128 : Int) ^ (k + 1)) ∧ Aside0 (enc_at base w w' v ys) ∧ Aside0 (enc_keep W w') ∧ Aside0 (ys.length + k ≤ 1010) ∧ Aside0 (ys ++ cmd_vi (k + 1) m = xs ++ cmd_vi 6 n)) (fun a' _ => (intOf (a'.tmps.getD 1 undef)).toNat) rfl ?_ ?_
  · go_wp2
    go_step3
    obtain ⟨k, hk⟩ : ∃ k, k = 5 := ⟨_, rfl⟩
    have HE := HE0
    have HK0 := Aside0.mk (enc_keep_refl W)
    have HL := Aside0.mk (show xs.length + k ≤ 1010 from by have := HL0.out; omega)
    have HN := Aside0.mk (show n < (128 : Int) ^ (k + 1) from by have := HN0.out; subst hk; simpa using this)
    have HX := Aside0.mk (show xs ++ cmd_vi (k + 1) n = xs ++ cmd_vi 6 n from by rw [hk])
    clear hk
    by_cases c : n < 128
    · have c1 : decide (n < 128) = true := decide_eq_true c
      have he : cmd_vi (k + 1) n = [n % 256] := by simp only [cmd_vi]; rw [if_pos c]
      obtain ⟨g, cap, W', hrun, hat', hk'⟩ := enc_lit HE.out [n % 256] (by simp) (by have := HL.out; simp; omega)
      have hrun1 : (shutApp #[26, 26] 26 #[v, .slice (some ⟨W.heap.size, 0, none⟩) 1 1]).run Try.prog (W.alloc (.cells #[.int .u8 (n % 256)] 5)) = .ok (.value (.slice (some ⟨g, 0, none⟩) (xs.length + 1) cap)) W' := hrun
      clear hrun
      have HA := Aside0.mk hat'
      have HK := Aside0.mk (enc_keep_trans HK0.out hk')
      clear hat' hk' c
      go_wp2
      simp only [Exit.jump]
      go_ret
      have e2 := HX.out
      rw [he] at e2
      rw [← e2]
      refine ⟨g, cap, ?_, ?_, HK.out⟩
      · rw [List.length_append]; rfl
      · first | exact HA.out | (rw [List.length_append]; exact HA.out)
    · have c1 : decide (n < 128) = false := decide_eq_false c
      have hk2 : 1 ≤ k := by
        have := HN.out
        cases k with
        | zero => simp at this; omega
        | succ k => omega
      obtain ⟨j, rfl⟩ : ∃ j, k = j + 1 := ⟨k - 1, by omega⟩
      have he : cmd_vi (j + 1 + 1) n = (n % 128 + 128) :: cmd_vi (j + 1) (n / 128) := by simp only [cmd_vi]; rw [if_neg c]
      obtain ⟨g, cap, W', hrun, hat', hk'⟩ := enc_lit HE.out [Go.bits .or .u8 (n % 256) 128] (by simp) (by have := HL.out; simp; omega)
      have hrun1 : (shutApp #[26, 26] 26 #[v, .slice (some ⟨W.heap.size, 0, none⟩) 1 1]).run Try.prog (W.alloc (.cells #[.int .u8 (Go.bits .or .u8 (n % 256) 128)] 5)) = .ok (.value (.slice (some ⟨g, 0, none⟩) (xs.length + 1) cap)) W' := hrun
      clear hrun
      have HA := Aside0.mk hat'
      have HK := Aside0.mk (enc_keep_trans HK0.out hk')
      clear hat' hk'
      have hge : 128 ≤ n := by omega
      have hlt : n / 128 < n := by omega
      have hq0 : 0 ≤ n / 128 := by omega
      have hN2 := Aside0.mk (show n / 128 < (128 : Int) ^ (j + 1) from by have := HN.out; rw [Int.pow_succ] at this; omega)
      clear c
      go_wp2
      go_step3
      refine ⟨rfl, ⟨j, _, _, xs ++ [Go.bits .or .u8 (n % 256) 128], _, _, _, _, _, _, _, _, _, _, _, _, _, _, _, rfl, hq0, hN2, ⟨?_⟩, HK, ⟨?_⟩, ⟨?_⟩⟩⟩
      · first | exact HA.out | (rw [List.length_append]; exact HA.out)
      · have := HL.out; simp; omega
      · rw [← HX.out, he, or128, List.append_assoc]; rfl
  · rintro a' w' ⟨k, m, v, ys, u5, u6, u7, u8, u9, u10, u11, u12, u13, u14, u15, u16, u17, u18, u19, rfl, hm0, HN, HE, HK0, HL, HX⟩
    by_cases c : m < 128
    · have c1 : decide (m < 128) = true := decide_eq_true c
      have he : cmd_vi (k + 1) m = [m % 256] := by simp only [cmd_vi]; rw [if_pos c]
      obtain ⟨g, cap, W', hrun, hat', hk'⟩ := enc_lit HE.out [m % 256] (by simp) (by have := HL.out; simp; omega)
      have hrun1 : (shutApp #[26, 26] 26 #[v, .slice (some ⟨w'.heap.size, 0, none⟩) 1 1]).run Try.prog (w'.alloc (.cells #[.int .u8 (m % 256)] 5)) = .ok (.value (.slice (some ⟨g, 0, none⟩) (ys.length + 1) cap)) W' := hrun
      clear hrun
      have HA := Aside0.mk hat'
      have HK := Aside0.mk (enc_keep_trans HK0.out hk')
      clear hat' hk' c
      go_wp2
      simp only [Exit.jump]
      go_ret
      have e2 := HX.out
      rw [he] at e2
      rw [← e2]
      refine ⟨g, cap, ?_, ?_, HK.out⟩
      · rw [List.length_append]; rfl
      · first | exact HA.out | (rw [List.length_append]; exact HA.out)
    · have c1 : decide (m < 128) = false := decide_eq_false c
      have hk2 : 1 ≤ k := by
        have := HN.out
        cases k with
        | zero => simp at this; omega
        | succ k => omega
      obtain ⟨j, rfl⟩ : ∃ j, k = j + 1 := ⟨k - 1, by omega⟩
      have he : cmd_vi (j + 1 + 1) m = (m % 128 + 128) :: cmd_vi (j + 1) (m / 128) := by simp only [cmd_vi]; rw [if_neg c]
      obtain ⟨g, cap, W', hrun, hat', hk'⟩ := enc_lit HE.out [Go.bits .or .u8 (m % 256) 128] (by simp) (by have := HL.out; simp; omega)
      have hrun1 : (shutApp #[26, 26] 26 #[v, .slice (some ⟨w'.heap.size, 0, none⟩) 1 1]).run Try.prog (w'.alloc (.cells #[.int .u8 (Go.bits .or .u8 (m % 256) 128)] 5)) = .ok (.value (.slice (some ⟨g, 0, none⟩) (ys.length + 1) cap)) W' := hrun
      clear hrun
      have HA := Aside0.mk hat'
      have HK := Aside0.mk (enc_keep_trans HK0.out hk')
      clear hat' hk'
      have hge : 128 ≤ m := by omega
      have hlt : m / 128 < m := by omega
      have hq0 : 0 ≤ m / 128 := by omega
      have hN2 := Aside0.mk (show m / 128 < (128 : Int) ^ (j + 1) from by have := HN.out; rw [Int.pow_succ] at this; omega)
      clear c
      go_wp2
      go_step3
      refine ⟨rfl, ⟨j, _, _, ys ++ [Go.bits .or .u8 (m % 256) 128], _, _, _, _, _, _, _, _, _, _, _, _, _, _, _, rfl, hq0, hN2, ⟨?_⟩, HK, ⟨?_⟩, ⟨?_⟩⟩, ?_⟩
      · first | exact HA.out | (rw [List.length_append]; exact HA.out)
      · have := HL.out; simp; omega
      · rw [← HX.out, he, or128, List.append_assoc]; rfl
      · simp [intOf]; omega
end


end Go.Proofs.Ytpjaebbgbmhneaa.Print
