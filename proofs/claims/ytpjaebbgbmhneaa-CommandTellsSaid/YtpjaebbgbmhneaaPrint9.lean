/- Written by pp.py, a program of this project that runs the kit's print over the translation, with functions proved by hand put in. Lean checks it. -/
import Derived.Test.YtpjaebbgbmhneaaPrint0
import Derived.Test.YtpjaebbgbmhneaaPrint8
namespace Go.Proofs.Ytpjaebbgbmhneaa.Print
open Go.RowKit Go.Proofs.YtpjaebbgbmhneaaW.PrintWords Go.Proofs.YtpjaebbgbmhneaaW.PrintLast Go.Proofs.YtpjaebbgbmhneaaW.PrintMore
attribute [local go_sem] max2_int min2_int max_two min_two max_three min_three max_four min_four   -- for this text's walks alone
set_option linter.unusedVariables false
set_option linter.unusedSimpArgs false

/-! ### command_scanner_octet: function 40, by hand -/
def sc_bytes (l : List Int) : Prop := ∀ x ∈ l, 0 ≤ x ∧ x < 256
/-- What octet comes to. -/
def scOct (W0 W : World) (B : Nat) (l : List Int) (e : Ending) (W' : World) : Prop := W.grownBy W' (some B) ∧
  ((l = [] ∧ e = .panicked (sc_stop 8)) ∨ (∃ x t, l = x :: t ∧ scanAt W0 W' B t ∧ e = .returned (.int .i64 x)))
set_option maxHeartbeats 2000000 in
set_option maxRecDepth 100000 in
theorem sc_octet (W0 W : World) (B : Nat) (l : List Int) (hl : sc_bytes l) (hs : scanAt W0 W B l) :
    Calls Try.prog 40 #[.pointer (some ⟨B, 0, none⟩)] W fun e W' => scOct W0 W B l e W' := by
  have T := Aside0.mk (sc_take W0 W B l 1 hs)
  have HL := Aside0.mk hl
  clear hs hl
  go_enter Try.func40, Try.ntmps40
  go_wp2_with fail
  refine T.out.mono ?_
  rintro e W' ⟨hg, ⟨h, rfl⟩ | ⟨h, hs', A, c, rfl, hC, hc⟩⟩
  · have HG := Aside0.mk hg
    have HH := Aside0.mk h
    clear hg h T HL
    go_wp2
    refine ⟨rfl, ?_⟩
    exact show scOct W0 W B l _ _ from ⟨HG.out, .inl ⟨List.length_eq_zero_iff.1 (by have := HH.out; omega), rfl⟩⟩
  · have HG := Aside0.mk hg
    have HS := Aside0.mk hs'
    cases l with
    | nil => simp at h
    | cons x t =>
      obtain ⟨ad, cs_, rfl, _, hk_, hcell_⟩ := Kd.C_get hC 0 0 (by omega) (by simp)
      have hcs_ : cs_ = [_] := hk_
      subst hcs_
      have x0 := hcell_ 0 _ rfl
      clear hk_ hcell_
      have x0' : W0.cell? ad = some (.int .u8 x) := by have := x0; simpa [Addr.add, Kd.sz] using this
      have hx := HL.out x (by simp)
      have x1 := (hs'.1.cell (World.block_lt_of_cell? W0 _ x0')).trans x0'
      have hx0 := hx.1
      have hx1 := hx.2
      clear x0 x0' hg hs' hC hc T HL hx h
      have hwr : IntKind.i64.wrap x = x := by rw [IntKind.wrap_i64]; omega
      go_wp2
      go_ret
      exact show scOct W0 W B (x :: t) _ _ from ⟨HG.out, .inr ⟨x, t, rfl, HS.out, rfl⟩⟩

/-! ### octets_Get: function 49 -/
mutual
def octets_Get.j0 : Nat → List Int → Int → Bool → Option (Int × Int)
  | 0, _, _, _ => none
  | k + 1, x0, x2, x13 => if x13 = true then (some (0, 3)) else (octets_Get.l0 k x2 x0 (x0.length : Int) 0)
def octets_Get.l0 : Nat → Int → List Int → Int → Int → Option (Int × Int)
  | 0, _, _, _, _ => none
  | k + 1, x2, x14, x15, x16 => if x16 < x15 then (if 0 ≤ x16 then (if x16 < (x14.length : Int) then (octets_Get.l0 k (Go.bits .or .u64 (IntKind.u64.wrap (x2 * 256)) (IntKind.u64.wrap (rd x14 x16))) x14 x15 (wrap64 (x16 + 1))) else (none)) else (none)) else (some (x2, 0))
end
def octets_Get.f (k : Nat) (l0 : List Int) : Option (Int × Int) := if (l0.length : Int) = 0 then (octets_Get.j0 k l0 0 true) else (octets_Get.j0 k l0 0 (decide ((l0.length : Int) > 8)))
theorem octets_Get.mono_l : ∀ k, (∀ y0 y1 y2, LeO (octets_Get.j0 k y0 y1 y2) (octets_Get.j0 (k + 1) y0 y1 y2)) ∧ (∀ y0 y1 y2 y3, LeO (octets_Get.l0 k y0 y1 y2 y3) (octets_Get.l0 (k + 1) y0 y1 y2 y3))
  | 0 => ⟨fun _ _ _ r h => by simp [octets_Get.j0] at h, fun _ _ _ _ r h => by simp [octets_Get.l0] at h⟩
  | k + 1 => by
    obtain ⟨ih0, ih1⟩ := octets_Get.mono_l k
    refine ⟨?_, ?_⟩
    · intro y0 y1 y2
      unfold octets_Get.j0
      repeat' first
      | (with_reducible exact ih0 _ _ _)
      | (with_reducible exact ih1 _ _ _ _)
      | (with_reducible exact LeO.refl _)
      | (with_reducible exact LeO.none _)
      | (with_reducible refine LeO.ite ?_ ?_)
      | (with_reducible refine LeO.bind ?_ (fun _ => ?_))
      | exact ih0 _ _ _
      | exact ih1 _ _ _ _
      | exact LeO.none _
      | refine LeO.ite ?_ ?_
      | refine LeO.bind ?_ (fun _ => ?_)
    · intro y0 y1 y2 y3
      unfold octets_Get.l0
      repeat' first
      | (with_reducible exact ih0 _ _ _)
      | (with_reducible exact ih1 _ _ _ _)
      | (with_reducible exact LeO.refl _)
      | (with_reducible exact LeO.none _)
      | (with_reducible refine LeO.ite ?_ ?_)
      | (with_reducible refine LeO.bind ?_ (fun _ => ?_))
      | exact ih0 _ _ _
      | exact ih1 _ _ _ _
      | exact LeO.none _
      | refine LeO.ite ?_ ?_
      | refine LeO.bind ?_ (fun _ => ?_)
theorem octets_Get.mono : ∀ a0 k, LeO (octets_Get.f k a0) (octets_Get.f (k + 1) a0) := by
  intro a0 k
  obtain ⟨ih0, ih1⟩ := octets_Get.mono_l k
  unfold octets_Get.f
  repeat' first
      | (with_reducible exact ih0 _ _ _)
      | (with_reducible exact ih1 _ _ _ _)
      | (with_reducible exact LeO.refl _)
      | (with_reducible exact LeO.none _)
      | (with_reducible refine LeO.ite ?_ ?_)
      | (with_reducible refine LeO.bind ?_ (fun _ => ?_))
      | exact ih0 _ _ _
      | exact ih1 _ _ _ _
      | exact LeO.none _
      | refine LeO.ite ?_ ?_
      | refine LeO.bind ?_ (fun _ => ?_)
set_option maxHeartbeats 8000000 in
set_option maxRecDepth 100000 in
theorem octets_Get.calls (k : Nat) (A0 : Option Addr) (c0 : Nat) (l0 : List Int) (r1 : Int) (r2 : Int) (w : World) (hr0 : Kd.C (Kd.int .u8) w A0 l0.length l0) (hc0 : l0.length ≤ c0) (h : octets_Get.f k l0 = some (r1, r2)) :
    Calls Try.prog 49 #[.slice A0 l0.length c0] w fun e w' => e = .returned (.tuple #[.int .u64 r1, .int .i64 r2]) ∧ Drawn0 w w' := by
  have HR0 := Aside0.mk hr0
  have HC0 := Aside0.mk hc0
  clear hr0 hc0
  have H : (if (l0.length : Int) = 0 then (octets_Get.j0 k l0 0 true) else (octets_Get.j0 k l0 0 (decide ((l0.length : Int) > 8)))) = some (r1, r2) := h
  clear h
  have HC2 := Aside0.mk H
  clear H
  go_enter Try.func49, Try.ntmps49
  go_upto_region 1 with (fail)
  go_cut [13] (fun v13 wc => ∃ (kq : Nat) (x13_1 : Bool), v13 = .bool x13_1 ∧ Aside0 (octets_Get.j0 kq l0 0 x13_1 = some (r1, r2)) ∧ Aside0 (kq ≤ k) ∧ Drawn0 w wc)
  case first =>
    have H := HC2.out
    clear HC2
    by_cases c3 : (l0.length : Int) = 0
    · rw [if_pos c3] at H
      have c3b0 : ((l0.length : Int) == 0) = true := beq_iff_eq.mpr c3
      have c3b1 : ((l0.length : Int) != 0) = false := bne_eq_false_iff_eq.mpr c3
      clear c3
      (first | rw [c3b0] | (simp only [i64_w, i32_w]; rw [c3b0]) | skip)
      have H' := Aside0.mk H
      clear H
      go_wp2
      go_meet
      case rel => exact ⟨_, (true), (by first | rfl | (simp; done) | (simp [*]; done)), H', ⟨by first | omega | exact Nat.le_refl _⟩, by repeat (first | exact Drawn0.refl _ | apply Drawn0.step)⟩
    · rw [if_neg c3] at H
      have c3b0 : ((l0.length : Int) == 0) = false := beq_eq_false_iff_ne.mpr c3
      have c3b1 : ((l0.length : Int) != 0) = true := bne_iff_ne.mpr c3
      have c3b2 : ¬ (l0 = []) := fun h_ => c3 (by rw [h_]; rfl)
      (first | rw [c3b0] | (simp only [i64_w, i32_w]; rw [c3b0]) | skip)
      have H' := Aside0.mk H
      clear H
      go_wp2
      go_meet
      case rel => exact ⟨_, (decide ((l0.length : Int) > 8)), (by first | rfl | (simp; done) | (simp [*]; done)), H', ⟨by first | omega | exact Nat.le_refl _⟩, by repeat (first | exact Drawn0.refl _ | apply Drawn0.step)⟩
  case rest =>
    clear HC2
    try clear p2
    try clear c3
    try clear c3b0
    try clear c3b1
    try clear c3b2
    obtain ⟨kq, x13_1, rfl, HA, HJ1, ⟨mc1, rfl⟩⟩ := hcut
    cases kq with
    | zero => exact absurd HA.out (by simp [octets_Get.j0])
    | succ kj1 =>
      have H := HA.out
      clear HA
      simp only [octets_Get.j0] at H
      by_cases c4 : x13_1 = true
      · subst c4
        have H1 : (some (0, 3)) = some (r1, r2) := by rw [if_pos rfl] at H; exact H
        clear H
        have H := H1
        clear H1
        simp only [Option.some.injEq, Prod.mk.injEq] at H
        obtain ⟨rfl, rfl⟩ := H
        go_wp2
        go_ret2
        exact ⟨by first | rfl | (simp; done) | (simp [*]; done), by repeat (first | exact Drawn0.refl _ | apply Drawn0.step)⟩
      · replace c4 := Bool.eq_false_iff.mpr c4
        subst c4
        have H1 : (octets_Get.l0 kj1 0 l0 (l0.length : Int) 0) = some (r1, r2) := by rw [if_neg (show ¬ (false = true) by decide)] at H; exact H
        clear H
        have H := H1
        clear H1
        have H' := Aside0.mk H
        clear H
        go_wp2
        go_loopg [2, 16] kj1 (fun kq v2 v16 w' => ∃ (x2_2 : Int) (x16_2 : Int), v2 = .int .u64 x2_2 ∧ v16 = .int .i64 x16_2 ∧ Aside0 (octets_Get.l0 kq x2_2 l0 (l0.length : Int) x16_2 = some (r1, r2)) ∧ Aside0 (kq ≤ kj1) ∧ Drawn0 w w')
        case atStart => exact ⟨(0), (0), (by first | rfl | (simp; done) | (simp [*]; done)), (by first | rfl | (simp; done) | (simp [*]; done)), H', ⟨Nat.le_refl _⟩, by repeat (first | exact Drawn0.refl _ | apply Drawn0.step)⟩
        case round =>
          clear H'
          try clear c1
          try clear p2
          try clear c3
          try clear c3b0
          try clear c3b1
          try clear c3b2
          try clear c4
          try clear p2
          obtain ⟨x2_2, x16_2, rfl, rfl, HA, HK2, ⟨m2, rfl⟩⟩ := hrel
          cases gk with
          | zero => exact absurd HA.out (by simp [octets_Get.l0])
          | succ k2 =>
            have H := HA.out
            clear HA
            simp only [octets_Get.l0] at H
            by_cases c5 : x16_2 < (l0.length : Int)
            · rw [if_pos c5] at H
              have c5b0 : decide (x16_2 < (l0.length : Int)) = true := decide_eq_true c5
              clear c5
              by_cases c6 : 0 ≤ x16_2
              · rw [if_pos c6] at H
                have c6b0 : decide (0 ≤ x16_2) = true := decide_eq_true c6
                clear c6
                by_cases c7 : x16_2 < (l0.length : Int)
                · rw [if_pos c7] at H
                  have c7b0 : decide (x16_2 < (l0.length : Int)) = true := decide_eq_true c7
                  clear c7
                  have H' := Aside0.mk H
                  clear H
                  have p190 : 0 ≤ (x16_2 : Int) := of_decide_eq_true (by first | (with_reducible assumption) | assumption)
                  have q190 : x16_2 < (l0.length : Int) := of_decide_eq_true (by first | (with_reducible assumption) | assumption)
                  obtain ⟨ad190, e190, hx190_0⟩ := Kd.at_int HR0.out x16_2 p190 q190
                  cases e190
                  replace p190 := eq_true p190
                  replace q190 := eq_true q190
                  go_wp2
                  go_roundg k2
                  case measure => have := HJ1.out; have := HK2.out; omega
                  case rel => exact ⟨(Go.bits .or .u64 (IntKind.u64.wrap (x2_2 * 256)) (IntKind.u64.wrap (rd l0 x16_2))), (wrap64 (x16_2 + 1)), (by first | rfl | (simp; done) | (simp [*]; done)), (by first | rfl | (simp; done) | (simp [*]; done)), H', ⟨by have := HJ1.out; have := HK2.out; omega⟩, by repeat (first | exact Drawn0.refl _ | apply Drawn0.step)⟩
                · rw [if_neg c7] at H
                  exact absurd H (by simp)
              · rw [if_neg c6] at H
                exact absurd H (by simp)
            · rw [if_neg c5] at H
              have c5b0 : decide (x16_2 < (l0.length : Int)) = false := decide_eq_false c5
              clear c5
              simp only [Option.some.injEq, Prod.mk.injEq] at H
              obtain ⟨rfl, rfl⟩ := H
              go_wp2
              go_ret2
              exact ⟨by first | rfl | (simp; done) | (simp [*]; done), by repeat (first | exact Drawn0.refl _ | apply Drawn0.step)⟩

/-! ### command_scanner_fixed: function 41, by hand -/
/-- Octets as a number, the first one the greatest. -/
def sc_be (l : List Int) : Int := l.foldl (fun n x => n * 256 + x) 0
theorem sc_or_u64 (a : Nat) (b : Nat) (ha : a < 72057594037927936) (hb : b < 256) : Go.bits .or .u64 ((a : Int) * 256) (b : Int) = (a : Int) * 256 + b := by
  have h := bits_or_u64_nat (a * 256) b (by omega) (by omega)
  rw [show ((a * 256 : Nat) : Int) = (a : Int) * 256 by omega] at h
  rw [h, show a * 256 = 2 ^ 8 * a by omega, ← Nat.two_pow_add_eq_or_of_lt (by omega)]
  omega
theorem sc_get_l0 (l : List Int) (hl : sc_bytes l) (h8 : l.length ≤ 8) (d : Nat) : ∀ (k i : Nat) (n : Nat), i ≤ l.length → l.length - i = d → d < k → n < 256 ^ i →
    octets_Get.l0 k (n : Int) l (l.length : Int) (i : Int) = some ((l.drop i).foldl (fun n x => n * 256 + x) (n : Int), 0) := by
  induction d with
  | zero =>
    intro k i n h1 h2 h3 h4
    obtain ⟨k, rfl⟩ : ∃ m, k = m + 1 := ⟨k - 1, by omega⟩
    obtain rfl : i = l.length := by omega
    simp only [octets_Get.l0]
    rw [if_neg (by omega), List.drop_length]
    rfl
  | succ d ih =>
    intro k i n h1 h2 h3 h4
    obtain ⟨k, rfl⟩ : ∃ m, k = m + 1 := ⟨k - 1, by omega⟩
    have hlt : i < l.length := by omega
    have hn : n < 72057594037927936 := Nat.lt_of_lt_of_le h4 (by have : (256 : Nat) ^ i ≤ 256 ^ 7 := Nat.pow_le_pow_right (by omega) (by omega); simpa using this)
    have hb := hl _ (List.getElem_mem hlt)
    obtain ⟨b, hb'⟩ := Int.eq_ofNat_of_zero_le hb.1
    have hrd : rd l (i : Int) = l[i] := by simp [rd, List.getD_eq_getElem?_getD, List.getElem?_eq_getElem hlt]
    simp only [octets_Get.l0]
    rw [if_pos (by omega), if_pos (by omega), if_pos (by omega), hrd, List.drop_eq_getElem_cons hlt, hb']
    rw [show IntKind.u64.wrap ((n : Int) * 256) = (n : Int) * 256 by rw [IntKind.wrap_u64]; omega, show IntKind.u64.wrap (b : Int) = (b : Int) by rw [IntKind.wrap_u64]; omega, sc_or_u64 n b hn (by omega), wrap_next hlt (by omega)]
    have := ih k (i + 1) (n * 256 + b) (by omega) (by omega) (by omega) (by rw [Nat.pow_succ]; omega)
    rw [show ((n * 256 + b : Nat) : Int) = (n : Int) * 256 + b by omega] at this
    rw [this]
    rfl
theorem sc_be_lt (l : List Int) (hl : sc_bytes l) : ∀ n : Int, 0 ≤ n → 0 ≤ l.foldl (fun n x => n * 256 + x) n ∧ l.foldl (fun n x => n * 256 + x) n < (n + 1) * 256 ^ l.length := by
  induction l with
  | nil => intro n h; simp; omega
  | cons x l ih =>
    intro n h
    have hx := hl x (by simp)
    have := ih (fun y hy => hl y (by simp [hy])) (n * 256 + x) (by omega)
    simp only [List.foldl_cons, List.length_cons, Int.pow_succ]
    refine ⟨this.1, ?_⟩
    have h2 : (n * 256 + x + 1) * 256 ^ l.length ≤ ((n + 1) * 256) * 256 ^ l.length := Int.mul_le_mul_of_nonneg_right (by omega) (Int.pow_nonneg (by omega))
    rw [Int.mul_assoc] at h2
    rw [Int.mul_comm (256 ^ l.length) 256]
    omega
theorem sc_get (l : List Int) (hl : sc_bytes l) (h8 : l.length = 8) : octets_Get.f 20 l = some (sc_be l, 0) := by
  unfold octets_Get.f
  rw [if_neg (by omega), decide_eq_false (by omega)]
  simp only [octets_Get.j0]
  rw [if_neg (by decide)]
  have := sc_get_l0 l hl (by omega) 8 19 0 0 (by omega) (by omega) (by omega) (by simp)
  rw [List.drop_zero] at this
  exact this
theorem sc_bytes_drop {l : List Int} (h : sc_bytes l) (n : Nat) : sc_bytes (l.drop n) := fun x hx => h x (List.mem_of_mem_drop hx)
theorem sc_bytes_take {l : List Int} (h : sc_bytes l) (n : Nat) : sc_bytes (l.take n) := fun x hx => h x (List.mem_of_mem_take hx)
/-- What fixed comes to. -/
def scFix (W0 W : World) (B : Nat) (l : List Int) (e : Ending) (W' : World) : Prop := W.grownBy W' (some B) ∧
  ((l.length < 8 ∧ e = .panicked (sc_stop 8)) ∨ (8 ≤ l.length ∧ scanAt W0 W' B (l.drop 8) ∧ e = .returned (.int .i64 (min (sc_be (l.take 8)) 1099511627777))))
theorem sc_grown_drewN (w : World) (n : Nat) (row : Option Nat) : w.grownBy (w.drewN n) row := ⟨rfl, rfl, rfl, Nat.le_refl _, fun _ _ _ => rfl⟩
theorem scanAt_grown {W0 W W' : World} {B : Nat} {l : List Int} (h : scanAt W0 W B l) (hg : W.grownBy W' none) : scanAt W0 W' B l := by
  obtain ⟨hb, hB, A, c, hbox, hC, hc⟩ := h
  exact ⟨hb.grown hg hb.size (fun k e => by cases e), hB, A, c, hbox.kept hg (by simp), hC, hc⟩
set_option maxHeartbeats 2000000 in
set_option maxRecDepth 100000 in
theorem sc_fixed (W0 W : World) (B : Nat) (l : List Int) (hl : sc_bytes l) (hs : scanAt W0 W B l) :
    Calls Try.prog 41 #[.pointer (some ⟨B, 0, none⟩)] W fun e W' => scFix W0 W B l e W' := by
  have T := Aside0.mk (sc_take W0 W B l 8 hs)
  have HL := Aside0.mk hl
  clear hs hl
  go_enter Try.func41, Try.ntmps41
  go_wp2_with fail
  refine T.out.mono ?_
  rintro e W' ⟨hg, ⟨h, rfl⟩ | ⟨h, hs', A, c, rfl, hC, hc⟩⟩
  · have HG := Aside0.mk hg
    have HH := Aside0.mk h
    clear hg h T HL
    go_wp2
    refine ⟨rfl, ?_⟩
    exact show scFix W0 W B l _ _ from ⟨HG.out, .inl ⟨HH.out, rfl⟩⟩
  · have HG := Aside0.mk hg
    have HS := Aside0.mk hs'
    have HH := Aside0.mk h
    have hlen : (l.take 8).length = 8 := by rw [List.length_take]; omega
    have hby := sc_bytes_take HL.out 8
    have hge := sc_get (l.take 8) hby hlen
    have hC' := Kd.C_below hC hs'.1
    have G := Aside0.mk (octets_Get.calls 20 A c (l.take 8) (sc_be (l.take 8)) 0 W' (by rw [hlen]; exact hC') (by rw [hlen]; exact hc) hge)
    rw [hlen] at G
    obtain ⟨b1, b2⟩ := sc_be_lt (l.take 8) hby 0 (by omega)
    rw [hlen] at b2
    generalize hv : sc_be (l.take 8) = v at G
    rw [show (l.take 8).foldl (fun n x => n * 256 + x) 0 = v from hv] at b1 b2
    have HV := Aside0.mk hv
    clear hg hs' h hlen hby hge hC hC' hc hv T
    go_wp2_with fail
    refine G.out.mono ?_
    rintro e W2 ⟨rfl, hd⟩
    obtain ⟨nd, rfl⟩ := hd.out
    have b3 : v < 18446744073709551616 := by simpa using b2
    clear b2 hd G
    by_cases hm : 1099511627777 < v
    · go_wp2
      go_ret
      exact show scFix W0 W B l _ _ from ⟨HG.out.trans (sc_grown_drewN _ _ _), .inr ⟨HH.out, scanAt_grown HS.out (sc_grown_drewN _ _ _), by rw [HV.out, Int.min_def, if_neg (by omega)]; rfl⟩⟩
    · go_wp2
      go_ret
      exact show scFix W0 W B l _ _ from ⟨HG.out.trans (sc_grown_drewN _ _ _), .inr ⟨HH.out, scanAt_grown HS.out (sc_grown_drewN _ _ _), by rw [HV.out, Int.min_def, if_pos (by omega)]; rfl⟩⟩

/-! ### command_scanner_varint: function 42, by hand -/
/-- A number in groups of seven bits, from group i on: its rest and value, or why there is none. -/
def sc_var : Nat → Nat → Int → List Int → Except Int (Int × List Int)
  | 0, _, _, _ => .error 4
  | _ + 1, _, _, [] => .error 8
  | f + 1, i, n, c :: t => if c = 0 ∧ 0 < i then .error 4 else if c < 128 then .ok (n + c % 128 * 128 ^ i, t) else sc_var f (i + 1) (n + c % 128 * 128 ^ i) t
/-- What a scan of a number comes to. -/
def scNum (W0 W : World) (B : Nat) (r : Except Int (Int × List Int)) (e : Ending) (W' : World) : Prop := W.grownBy W' (some B) ∧
  ((∃ x, r = .error x ∧ e = .panicked (sc_stop x)) ∨ (∃ n t, r = .ok (n, t) ∧ scanAt W0 W' B t ∧ e = .returned (.int .i64 n)))
theorem sc_or_i64 (a b : Nat) (ha : a < 9223372036854775808) (hb : b < 9223372036854775808) : Go.bits .or .i64 (a : Int) (b : Int) = ((a ||| b : Nat) : Int) := by
  have hx : a ||| b < 2 ^ 63 := Nat.or_lt_two_pow (by omega) (by omega)
  have h1 : (BitVec.ofInt 64 (a : Int)).toNat = a := by
    rw [BitVec.ofInt_natCast, BitVec.toNat_ofNat]; exact Nat.mod_eq_of_lt (by omega)
  have h2 : (BitVec.ofInt 64 (b : Int)).toNat = b := by
    rw [BitVec.ofInt_natCast, BitVec.toNat_ofNat]; exact Nat.mod_eq_of_lt (by omega)
  show IntKind.i64.wrap ((BitVec.ofInt 64 (a : Int) ||| BitVec.ofInt 64 (b : Int)).toNat : Int) = _
  rw [BitVec.toNat_or, h1, h2, IntKind.wrap_i64]
  omega
theorem sc_group (n i : Nat) (c : Int) (hi : i < 6) (hn : n < 128 ^ i) (hc : 0 ≤ c) : Go.bits .or .i64 (n : Int) (c % 128 * 128 ^ i) = (n : Int) + c % 128 * 128 ^ i := by
  obtain ⟨m, hm⟩ := Int.eq_ofNat_of_zero_le (show 0 ≤ c % 128 by omega)
  have hm2 : m < 128 := by omega
  have hp : (128 : Nat) ^ i ≤ 128 ^ 5 := Nat.pow_le_pow_right (by omega) (by omega)
  have h1 : m * 128 ^ i ≤ 127 * 128 ^ 5 := Nat.mul_le_mul (by omega) hp
  rw [hm, show ((m : Int) * 128 ^ i) = ((m * 128 ^ i : Nat) : Int) by rw [Int.natCast_mul, Int.natCast_pow]; rfl]
  rw [sc_or_i64 n _ (by omega) (by omega)]
  have e : (128 : Nat) ^ i = 2 ^ (7 * i) := by rw [Nat.pow_mul]
  rw [Nat.or_comm, e, Nat.mul_comm m, ← Nat.two_pow_add_eq_or_of_lt (by rw [← e]; exact hn)]
  omega
set_option maxHeartbeats 4000000 in
set_option maxRecDepth 100000 in
theorem sc_varint (W0 W : World) (B : Nat) (l : List Int) (hl : sc_bytes l) (hs : scanAt W0 W B l) :
    Calls Try.prog 42 #[.pointer (some ⟨B, 0, none⟩)] W fun e W' => scNum W0 W B (sc_var 6 0 0 l) e W' := by
  have HL := Aside0.mk hl
  have HS := Aside0.mk hs
  clear hs hl
  go_enter Try.func42, Try.ntmps42
  go_wp2
  go_loopw [3, 6] (fun n i wr => ∃ (j m : Nat) (t : List Int), j ≤ 6 ∧ i = .int .i64 j ∧ n = .int .i64 m ∧ Aside0 (m < 128 ^ j) ∧ Aside0 (sc_bytes t) ∧ Aside0 (scanAt W0 wr B t) ∧ Aside0 (W.grownBy wr (some B)) ∧ Aside0 (sc_var 6 0 0 l = sc_var (6 - j) j m t)) (fun _ i _ => 6 - (intOf i).toNat)
  case atStart =>
    exact ⟨0, 0, l, by omega, rfl, rfl, ⟨by simp⟩, HL, HS, ⟨⟨rfl, rfl, rfl, Nat.le_refl _, fun _ _ _ => rfl⟩⟩, ⟨rfl⟩⟩
  case round =>
    obtain ⟨j, m, t, hj, rfl, rfl, HM, HT, HA, HG, HE⟩ := hrel
    by_cases hlt : j < 6
    · have T := Aside0.mk (sc_octet W0 wr B t HT.out HA.out)
      go_wp2_with fail
      refine T.out.mono ?_
      rintro e W' ⟨hg, ⟨rfl, rfl⟩ | ⟨c, t', rfl, hs', rfl⟩⟩
      · have HG2 := Aside0.mk (HG.out.trans hg)
        clear hg T HG
        go_wp2
        refine ⟨rfl, ?_⟩
        exact show scNum W0 W B _ _ _ from ⟨HG2.out, .inl ⟨8, by rw [HE.out]; obtain ⟨q, hq⟩ : ∃ q, 6 - j = q + 1 := ⟨5 - j, by omega⟩; rw [hq]; rfl, rfl⟩⟩
      · have HG2 := Aside0.mk (HG.out.trans hg)
        have HS2 := Aside0.mk hs'
        have hc := HT.out c (by simp)
        have hc0 := hc.1
        have hc1 := hc.2
        have hand := i64_and127 c
        clear hg T HG hs' hc
        obtain ⟨f, hf⟩ : ∃ f, 6 - j = f + 1 := ⟨5 - j, by omega⟩
        have HE2 := Aside0.mk (HE.out.trans (by rw [hf]; rfl : sc_var (6 - j) j m (c :: t') = if c = 0 ∧ 0 < j then .error 4 else if c < 128 then .ok ((m : Int) + c % 128 * 128 ^ j, t') else sc_var f (j + 1) ((m : Int) + c % 128 * 128 ^ j) t'))
        have HF := Aside0.mk hf
        have hgr := sc_group m j c hlt HM.out hc0
        have hp : (128 : Nat) ^ j ≤ 128 ^ 5 := Nat.pow_le_pow_right (by omega) (by omega)
        obtain ⟨g, hg7⟩ := Int.eq_ofNat_of_zero_le (show 0 ≤ c % 128 by omega)
        have hg8 : g < 128 := by omega
        have hm2 : g * 128 ^ j ≤ 127 * 128 ^ 5 := Nat.mul_le_mul (by omega) hp
        have e7 : (2 : Int) ^ (7 * j) = 128 ^ j := by rw [Int.pow_mul]; rfl
        have hpk : (c % 128 * 128 ^ j : Int) = ((g * 128 ^ j : Nat) : Int) := by rw [hg7, Int.natCast_mul, Int.natCast_pow]; rfl
        obtain ⟨q, hq⟩ : ∃ q : Nat, q = m + g * 128 ^ j := ⟨_, rfl⟩
        have hor : Go.bits .or .i64 (m : Int) (wrap64 (c % 128 * 2 ^ (7 * j))) = (q : Int) := by
          rw [e7, wrap_add (by omega) (by omega), hgr, hpk]
          omega
        have HMK := Aside0.mk (show (m : Int) + c % 128 * 128 ^ j = (q : Int) by rw [hpk]; omega)
        have HM2 := Aside0.mk (show q < 128 ^ (j + 1) by
          have h1 := HM.out
          have h2 : g * 128 ^ j ≤ 127 * 128 ^ j := Nat.mul_le_mul_right _ (by omega)
          rw [Nat.pow_succ]
          omega)
        clear hq hf hgr hp hg7 hg8 hm2 e7 hpk HE
        by_cases e0 : c = 0
        · by_cases j0 : 0 < j
          · subst e0
            clear hor
            go_wp2
            refine ⟨rfl, ?_⟩
            exact show scNum W0 W B _ _ _ from ⟨HG2.out, .inl ⟨4, by rw [HE2.out, if_pos (by simpa using j0)], rfl⟩⟩
          · obtain rfl : j = 0 := by omega
            have hm0 : m = 0 := by have := HM.out; simp at this; exact this
            subst hm0
            subst e0
            have hw0 : wrap64 0 = 0 := by unfold wrap64; omega
            have h01 : Go.bits .or .i64 0 0 = 0 := by have := sc_or_i64 0 0 (by omega) (by omega); simpa using this
            have h00 : Go.bits .or .i64 0 (wrap64 0) = 0 := by rw [hw0]; exact h01
            clear hor
            go_wp2
            go_ret
            exact show scNum W0 W B _ _ _ from ⟨HG2.out, .inr ⟨0, t', by rw [HE2.out, if_neg (by omega), if_pos (by omega)]; rfl, HS2.out, rfl⟩⟩
        · by_cases c128 : c < 128
          · have H0 := Aside0.mk e0
            have HC8 := Aside0.mk c128
            go_wp2
            go_ret
            exact show scNum W0 W B _ _ _ from ⟨HG2.out, .inr ⟨_, t', by rw [HE2.out, if_neg (fun h => H0.out h.1), if_pos HC8.out, HMK.out], HS2.out, rfl⟩⟩
          · have H0 := Aside0.mk e0
            have HC8 := Aside0.mk (show ¬ c < 128 from c128)
            have HT2 := Aside0.mk (show sc_bytes t' from fun y hy => HT.out y (by simp [hy]))
            go_wp2
            go_roundw
            case rel =>
              exact ⟨j + 1, q, t', by omega, by go_num, rfl, HM2, HT2, HS2, HG2, ⟨by rw [HE2.out, if_neg (fun h => H0.out h.1), if_neg (by have := HC8.out; omega), HMK.out, show 6 - (j + 1) = f by have := HF.out; omega]⟩⟩
            case measure => simp [intOf]; omega
    · obtain rfl : j = 6 := by omega
      clear hlt
      go_wp2
      refine ⟨rfl, ?_⟩
      exact show scNum W0 W B _ _ _ from ⟨HG.out, .inl ⟨4, by rw [HE.out]; rfl, rfl⟩⟩

/-! ### command_scanner_op: function 43, by hand -/
/-- One op of a version, and what lies behind it. -/
def sc_op (v : Int) : List Int → Except Int (S48 × List Int)
  | kind :: k :: t =>
    if v = 1 then
      if t.length < k.toNat then .error 8 else
      match t.drop k.toNat with
      | a :: b :: u => if u.length < (a * 256 + b).toNat then .error 8 else .ok (⟨kind, strOfNums (t.take k.toNat), strOfNums (u.take (a * 256 + b).toNat)⟩, u.drop (a * 256 + b).toNat)
      | _ => .error 8
    else
      match t with
      | n :: u => if u.length < k.toNat then .error 8 else if (u.drop k.toNat).length < n.toNat then .error 8 else .ok (⟨kind, strOfNums (u.take k.toNat), strOfNums ((u.drop k.toNat).take n.toNat)⟩, (u.drop k.toNat).drop n.toNat)
      | _ => .error 8
  | _ => .error 8
def scOp (W0 W : World) (B : Nat) (r : Except Int (S48 × List Int)) (e : Ending) (W' : World) : Prop := W.grownBy W' (some B) ∧
  ((∃ x, r = .error x ∧ e = .panicked (sc_stop x)) ∨ (∃ o t, r = .ok (o, t) ∧ scanAt W0 W' B t ∧ e = .returned (.agg #[.int .i64 o.f0, .string o.f1, .string o.f2])))
theorem scanAt_other {W0 W W' : World} {B r : Nat} {l : List Int} (h : scanAt W0 W B l) (hr : W0.heap.size ≤ r) (hne : r ≠ B) (hg : W.grownBy W' (some r)) : scanAt W0 W' B l := by
  obtain ⟨hb, hB, A, c, hbox, hC, hc⟩ := h
  exact ⟨hb.grown hg hb.size (fun k e => by cases e; exact hr), hB, A, c, hbox.kept hg (by simpa using Ne.symm hne), hC, hc⟩
theorem sc_conv (W : World) (ad : Addr) (l : List Int) (c : Nat) (h : ∀ j, j < l.length → W.cell? (ad.add j) = some (.int .u8 (l.getD j 0))) :
    (convert 26 9 (.slice (some ad) l.length c)).run Try.prog W = .ok (.string (strOfNums l)) W := by
  rw [run_convert_bytes_string W 26 9 5 (some ad) l.length c Try.underlying26 Try.underlying5 Try.underlying9]
  have hl := run_loadCells_list (P := Try.prog) W ad (l.map (Value.int .u8)) (fun j v hj => by
    have hj' : j < l.length := by
      have := (List.getElem?_eq_some_iff.1 hj).1
      simpa using this
    rw [h j hj']
    simp [List.getElem?_eq_getElem hj'] at hj
    rw [← hj]
    simp [List.getD_eq_getElem?_getD, List.getElem?_eq_getElem hj'])
  simp only [List.length_map] at hl
  rw [run_bytesToString W ad l.length c _ hl, foldl_push_bytes]
  simp [strOfNums]
theorem sc_string {W0 W : World} {A : Option Addr} {c : Nat} {l : List Int} (hb : Below W0.heap.size W0 W) (hC : Kd.C (Kd.int .u8) W0 A l.length l) :
    (convert 26 9 (.slice A l.length c)).run Try.prog W = .ok (.string (strOfNums l)) W := by
  obtain ⟨_, _, hcell⟩ := Kd.reads_of_C (d := (0 : Int)) hC
  cases A with
  | none =>
    rcases Nat.eq_zero_or_pos l.length with h0 | h0
    · obtain rfl := List.eq_nil_of_length_eq_zero h0
      exact run_convert_bytes_nil W 26 5 Try.underlying26 Try.underlying5 0 c 9 Try.underlying9
    · obtain ⟨ad, e, _⟩ := hcell h0; cases e
  | some ad =>
    refine sc_conv W ad l c (fun j hj => ?_)
    obtain ⟨ad2, e, h2⟩ := hcell (by omega)
    cases e
    have x := h2 j hj
    exact (hb.cell (World.block_lt_of_cell? W0 _ x)).trans x
/-- A box for an op. -/
def opBox (W : World) (b : Nat) (x y z : Value) : Prop := W.heap[b]? = some (.cells #[x, y, z] 48 (0, 0))
theorem opBox.lt {W : World} {b : Nat} {x y z : Value} (h : opBox W b x y z) : b < W.heap.size := (Array.getElem?_eq_some_iff.1 h).1
theorem opBox.kept {W W' : World} {row : Option Nat} {b : Nat} {x y z : Value} (h : opBox W b x y z) (hg : W.grownBy W' row) (hne : some b ≠ row) : opBox W' b x y z := (hg.block b h.lt hne).trans h
theorem opBox.cell0 {W : World} {b : Nat} {x y z : Value} (h : opBox W b x y z) : W.cell? ⟨b, 0, none⟩ = some x := by simp [World.cell?, show W.heap[b]? = _ from h]
theorem opBox.cell1 {W : World} {b : Nat} {x y z : Value} (h : opBox W b x y z) : W.cell? ⟨b, 1, none⟩ = some y := by simp [World.cell?, show W.heap[b]? = _ from h]
theorem opBox.cell2 {W : World} {b : Nat} {x y z : Value} (h : opBox W b x y z) : W.cell? ⟨b, 2, none⟩ = some z := by simp [World.cell?, show W.heap[b]? = _ from h]
theorem opBox.frozen {W : World} {b : Nat} {x y z : Value} (h : opBox W b x y z) (i : Nat) : W.frozen? ⟨b, i, none⟩ = false := by simp [World.frozen?, show W.heap[b]? = _ from h]
theorem opBox.set1 {W : World} {b : Nat} {x y z : Value} (h : opBox W b x y z) (v : Value) : opBox (W.setCell ⟨b, 1, none⟩ v) b x v z := by
  obtain ⟨hlt, hk⟩ := Array.getElem?_eq_some_iff.1 h
  show (W.heap.modify b _)[b]? = _
  rw [Array.getElem?_eq_getElem (by rw [Array.size_modify]; exact hlt), Array.getElem_modify_self, hk]
  rfl
theorem opBox.set2 {W : World} {b : Nat} {x y z : Value} (h : opBox W b x y z) (v : Value) : opBox (W.setCell ⟨b, 2, none⟩ v) b x y v := by
  obtain ⟨hlt, hk⟩ := Array.getElem?_eq_some_iff.1 h
  show (W.heap.modify b _)[b]? = _
  rw [Array.getElem?_eq_getElem (by rw [Array.size_modify]; exact hlt), Array.getElem_modify_self, hk]
  rfl
theorem sc_grown_setCell (W : World) (b i : Nat) (v : Value) : W.grownBy (W.setCell ⟨b, i, none⟩ v) (some b) :=
  ⟨rfl, rfl, rfl, (KeepsWalks.setCell W _ v).size, fun k _ hk => Below.heap_setCell _ _ _ k (fun e => hk (by rw [e]))⟩
/-- What a row grew by: a block that is newer than W is none of W's. -/
theorem sc_grown_new {W W1 W2 : World} {row : Option Nat} {b : Nat} (h : W.grownBy W1 row) (hb : W.heap.size ≤ b) (h2 : W1.grownBy W2 (some b)) : W.grownBy W2 row :=
  ⟨h2.os.trans h.os, h2.tape.trans h.tape, h2.output.trans h.output, Nat.le_trans h.size h2.size, fun k hk hne => (h2.block k (by have := h.size; omega) (fun e => by cases e; omega)).trans (h.block k hk hne)⟩
structure opSt (W0 W Wc : World) (B b4 b5 : Nat) (t : List Int) (x y z : Value) : Prop where
  grown : W.grownBy Wc (some B)
  scan : scanAt W0 Wc B t
  box4 : opBox Wc b4 (.int .i64 0) (.string ⟨#[]⟩) (.string ⟨#[]⟩)
  box5 : opBox Wc b5 x y z
  w0 : W0.heap.size ≤ W.heap.size
  bw : B < W.heap.size
  n4 : W.heap.size ≤ b4
  n5 : W.heap.size ≤ b5
  ne : b4 ≠ b5
theorem opSt.call {W0 W Wc W' : World} {B b4 b5 : Nat} {t t' : List Int} {x y z : Value} (h : opSt W0 W Wc B b4 b5 t x y z) (hg : Wc.grownBy W' (some B)) (hs : scanAt W0 W' B t') : opSt W0 W W' B b4 b5 t' x y z :=
  ⟨h.grown.trans hg, hs, h.box4.kept hg (by have := h.bw; have := h.n4; simp; omega), h.box5.kept hg (by have := h.bw; have := h.n5; simp; omega), h.w0, h.bw, h.n4, h.n5, h.ne⟩
theorem opSt.store1 {W0 W Wc : World} {B b4 b5 : Nat} {t : List Int} {x y z : Value} (h : opSt W0 W Wc B b4 b5 t x y z) (v : Value) : opSt W0 W (Wc.setCell ⟨b5, 1, none⟩ v) B b4 b5 t x v z :=
  ⟨sc_grown_new h.grown h.n5 (sc_grown_setCell _ _ _ _), scanAt_other h.scan (Nat.le_trans h.w0 h.n5) (by have := h.bw; have := h.n5; omega) (sc_grown_setCell _ _ _ _), h.box4.kept (sc_grown_setCell _ _ _ _) (by have := h.ne; simpa using this), h.box5.set1 v, h.w0, h.bw, h.n4, h.n5, h.ne⟩
theorem opSt.store2 {W0 W Wc : World} {B b4 b5 : Nat} {t : List Int} {x y z : Value} (h : opSt W0 W Wc B b4 b5 t x y z) (v : Value) : opSt W0 W (Wc.setCell ⟨b5, 2, none⟩ v) B b4 b5 t x y v :=
  ⟨sc_grown_new h.grown h.n5 (sc_grown_setCell _ _ _ _), scanAt_other h.scan (Nat.le_trans h.w0 h.n5) (by have := h.bw; have := h.n5; omega) (sc_grown_setCell _ _ _ _), h.box4.kept (sc_grown_setCell _ _ _ _) (by have := h.ne; simpa using this), h.box5.set2 v, h.w0, h.bw, h.n4, h.n5, h.ne⟩
theorem opBox.set0 {W : World} {b : Nat} {x y z : Value} (h : opBox W b x y z) (v : Value) : opBox (W.setCell ⟨b, 0, none⟩ v) b v y z := by
  obtain ⟨hlt, hk⟩ := Array.getElem?_eq_some_iff.1 h
  show (W.heap.modify b _)[b]? = _
  rw [Array.getElem?_eq_getElem (by rw [Array.size_modify]; exact hlt), Array.getElem_modify_self, hk]
  rfl
theorem opSt.fin {W0 W Wc : World} {B b4 b5 : Nat} {t : List Int} {x y z : Value} (h : opSt W0 W Wc B b4 b5 t x y z) :
    W.grownBy (((Wc.setCell ⟨b4, 0, none⟩ x).setCell ⟨b4, 1, none⟩ y).setCell ⟨b4, 2, none⟩ z) (some B) ∧ scanAt W0 (((Wc.setCell ⟨b4, 0, none⟩ x).setCell ⟨b4, 1, none⟩ y).setCell ⟨b4, 2, none⟩ z) B t ∧ opBox (((Wc.setCell ⟨b4, 0, none⟩ x).setCell ⟨b4, 1, none⟩ y).setCell ⟨b4, 2, none⟩ z) b4 x y z := by
  have hw := Nat.le_trans h.w0 h.n4
  have hne : b4 ≠ B := by have := h.bw; have := h.n4; omega
  exact ⟨sc_grown_new (sc_grown_new (sc_grown_new h.grown h.n4 (sc_grown_setCell _ _ _ _)) h.n4 (sc_grown_setCell _ _ _ _)) h.n4 (sc_grown_setCell _ _ _ _),
    scanAt_other (scanAt_other (scanAt_other h.scan hw hne (sc_grown_setCell _ _ _ _)) hw hne (sc_grown_setCell _ _ _ _)) hw hne (sc_grown_setCell _ _ _ _), ((h.box4.set0 x).set1 y).set2 z⟩
set_option maxHeartbeats 4000000 in
set_option maxRecDepth 100000 in
theorem sc_op_calls (W0 W : World) (B : Nat) (l : List Int) (v : Int) (hl : sc_bytes l) (hs : scanAt W0 W B l) :
    Calls Try.prog 43 #[.pointer (some ⟨B, 0, none⟩), .int .i64 v] W fun e W' => scOp W0 W B (sc_op v l) e W' := by
  have HL := Aside0.mk hl
  have HS0 := Aside0.mk (scanAt_grown hs (World.grownBy_alloc W (.cells #[.int .i64 0, .string ⟨#[]⟩, .string ⟨#[]⟩] 48) none))
  have HBlt := Aside0.mk (show B < W.heap.size from by obtain ⟨_, _, A, c, hbox, _⟩ := hs; exact hbox.lt)
  have HW0 := Aside0.mk (show W0.heap.size ≤ W.heap.size from hs.1.size)
  clear hs hl
  have T := Aside0.mk (sc_octet W0 _ B l HL.out HS0.out)
  go_enter Try.func43, Try.ntmps43
  go_wp2_with fail
  refine T.out.mono ?_
  rintro e W1 ⟨hg, ⟨rfl, rfl⟩ | ⟨kind, t, rfl, hs1, rfl⟩⟩
  · have HG := Aside0.mk ((World.grownBy_alloc W (.cells #[.int .i64 0, .string ⟨#[]⟩, .string ⟨#[]⟩] 48) (some B)).trans hg)
    clear hg T
    go_wp2
    refine ⟨rfl, ?_⟩
    exact show scOp W0 W B _ _ _ from ⟨HG.out, .inl ⟨8, rfl, rfl⟩⟩
  have HS : Aside0 (opSt W0 W (W1.alloc (.cells #[.int .i64 kind, .string ⟨#[]⟩, .string ⟨#[]⟩] 48)) B W.heap.size W1.heap.size t (.int .i64 kind) (.string ⟨#[]⟩) (.string ⟨#[]⟩)) := by
    have hgr := (World.grownBy_alloc W (.cells #[.int .i64 0, .string ⟨#[]⟩, .string ⟨#[]⟩] 48) (some B)).trans hg
    have hb4 : opBox W1 W.heap.size (.int .i64 0) (.string ⟨#[]⟩) (.string ⟨#[]⟩) := opBox.kept (W := W.alloc (.cells #[.int .i64 0, .string ⟨#[]⟩, .string ⟨#[]⟩] 48)) (b := W.heap.size) (World.alloc_heap_new W _) hg (by have := HBlt.out; simp; omega)
    exact ⟨⟨hgr.trans (World.grownBy_alloc _ _ _), scanAt_grown hs1 (World.grownBy_alloc _ _ _), hb4.kept (World.grownBy_alloc _ _ none) (by simp), World.alloc_heap_new W1 _, HW0.out, HBlt.out, Nat.le_refl _, hgr.size, by have := hb4.lt; omega⟩⟩
  have Ht : Aside0 (sc_bytes t) := ⟨fun y hy => HL.out y (by simp [hy])⟩
  have hb45 : (W.heap.size = W1.heap.size) = False := eq_false HS.out.ne
  have hb54 : (W1.heap.size = W.heap.size) = False := eq_false (Ne.symm HS.out.ne)
  clear hg hs1 T HS0
  have T := Aside0.mk (sc_octet W0 _ B t Ht.out HS.out.scan)
  go_wp2_with fail
  refine T.out.mono ?_
  rintro e W2 ⟨hg, ⟨hnil, rfl⟩ | ⟨kx, u, hcons, hs1, rfl⟩⟩
  · have HG := Aside0.mk (HS.out.grown.trans hg)
    clear hg T HS
    go_wp2
    refine ⟨rfl, ?_⟩
    exact show scOp W0 W B _ _ _ from ⟨HG.out, .inl ⟨8, (by rw [hnil]; rfl), rfl⟩⟩
  have HS1 := Aside0.mk (HS.out.call hg hs1)
  clear hg hs1 T HS
  have HS := HS1
  clear HS1
  have hx0 := Ht.out kx (by rw [hcons]; simp)
  have Hu : Aside0 (sc_bytes u) := ⟨fun y hy => Ht.out y (by rw [hcons]; simp [hy])⟩
  obtain ⟨k, rfl⟩ := Int.eq_ofNat_of_zero_le hx0.1
  have hk := hx0.2
  clear hx0
  have HCk := Aside0.mk hcons
  clear hcons
  obtain rfl := HCk.out
  clear HCk
  by_cases hv : v = 1
  · subst hv
    have T := Aside0.mk (sc_take W0 _ B (u) k HS.out.scan)
    go_wp2_with fail
    refine T.out.mono ?_
    rintro e W3 ⟨hg, ⟨hsh, rfl⟩ | ⟨hle, hs1, AW3, cW3, rfl, hC, hcap⟩⟩
    · have HG := Aside0.mk (HS.out.grown.trans hg)
      clear hg T HS
      go_wp2
      refine ⟨rfl, ?_⟩
      exact show scOp W0 W B _ _ _ from ⟨HG.out, .inl ⟨8, (by simp only [sc_op, Int.toNat_natCast]; rw [if_pos trivial, if_pos hsh]), rfl⟩⟩
    have HS1 := Aside0.mk (HS.out.call hg hs1)
    have HLEW3 := Aside0.mk hle
    have hlen : ((u).take k).length = k := by rw [List.length_take]; omega
    have hconv := sc_string (l := (u).take k) (A := AW3) (c := cW3) HS1.out.scan.1 (by rw [hlen]; exact hC)
    rw [hlen] at hconv
    clear hg hs1 T HS hle hC hcap hlen
    have HS := HS1
    clear HS1
    have hc_ := HS.out.box5.cell1
    have hf_ := HS.out.box5.frozen 1
    go_wp2_with fail
    have HSn := Aside0.mk (HS.out.store1 (.string (strOfNums (u.take k))))
    clear HS hc_ hf_
    have HS := HSn
    clear HSn hconv
    have Hd : Aside0 (sc_bytes (u.drop k)) := ⟨sc_bytes_drop Hu.out k⟩
    have T := Aside0.mk (sc_octet W0 _ B (u.drop k) Hd.out HS.out.scan)
    go_wp2_with fail
    refine T.out.mono ?_
    rintro e W4 ⟨hg, ⟨hnil, rfl⟩ | ⟨ax, p, hcons, hs1, rfl⟩⟩
    · have HG := Aside0.mk (HS.out.grown.trans hg)
      clear hg T HS
      go_wp2
      refine ⟨rfl, ?_⟩
      exact show scOp W0 W B _ _ _ from ⟨HG.out, .inl ⟨8, (by simp only [sc_op, Int.toNat_natCast]; rw [if_pos trivial, if_neg (by have := HLEW3.out; omega), hnil]), rfl⟩⟩
    have HS1 := Aside0.mk (HS.out.call hg hs1)
    clear hg hs1 T HS
    have HS := HS1
    clear HS1
    have hx0 := Hd.out ax (by rw [hcons]; simp)
    have Hp : Aside0 (sc_bytes p) := ⟨fun y hy => Hd.out y (by rw [hcons]; simp [hy])⟩
    obtain ⟨a, rfl⟩ := Int.eq_ofNat_of_zero_le hx0.1
    have ha := hx0.2
    clear hx0
    have HCa := Aside0.mk hcons
    clear hcons
    have T := Aside0.mk (sc_octet W0 _ B p Hp.out HS.out.scan)
    go_wp2_with fail
    refine T.out.mono ?_
    rintro e W5 ⟨hg, ⟨hnil, rfl⟩ | ⟨bx, r, hcons, hs1, rfl⟩⟩
    · have HG := Aside0.mk (HS.out.grown.trans hg)
      clear hg T HS
      go_wp2
      refine ⟨rfl, ?_⟩
      exact show scOp W0 W B _ _ _ from ⟨HG.out, .inl ⟨8, (by simp only [sc_op, Int.toNat_natCast]; rw [if_pos trivial, if_neg (by have := HLEW3.out; omega), HCa.out, hnil]), rfl⟩⟩
    have HS1 := Aside0.mk (HS.out.call hg hs1)
    clear hg hs1 T HS
    have HS := HS1
    clear HS1
    have hx0 := Hp.out bx (by rw [hcons]; simp)
    have Hr : Aside0 (sc_bytes r) := ⟨fun y hy => Hp.out y (by rw [hcons]; simp [hy])⟩
    obtain ⟨b, rfl⟩ := Int.eq_ofNat_of_zero_le hx0.1
    have hb := hx0.2
    clear hx0
    have HCb := Aside0.mk hcons
    clear hcons
    obtain ⟨n, hn⟩ : ∃ n : Nat, n = a * 256 + b := ⟨_, rfl⟩
    have hor : Go.bits .or .i64 ((a : Int) * 256) (b : Int) = (n : Int) := by
      have h := sc_or_i64 (a * 256) b (by omega) (by omega)
      rw [show ((a * 256 : Nat) : Int) = (a : Int) * 256 by omega] at h
      rw [h, show a * 256 = 2 ^ 8 * a by omega, ← Nat.two_pow_add_eq_or_of_lt (by omega)]
      omega
    have HN := Aside0.mk (show ((a : Int) * 256 + (b : Int)).toNat = n by omega)
    clear hn
    have T := Aside0.mk (sc_take W0 _ B (r) n HS.out.scan)
    go_wp2_with fail
    refine T.out.mono ?_
    rintro e W6 ⟨hg, ⟨hsh, rfl⟩ | ⟨hle, hs1, AW6, cW6, rfl, hC, hcap⟩⟩
    · have HG := Aside0.mk (HS.out.grown.trans hg)
      clear hg T HS
      go_wp2
      refine ⟨rfl, ?_⟩
      exact show scOp W0 W B _ _ _ from ⟨HG.out, .inl ⟨8, (by simp only [sc_op, Int.toNat_natCast]; rw [if_pos trivial, if_neg (by have := HLEW3.out; omega), HCa.out, HCb.out]; dsimp only; rw [HN.out, if_pos hsh]), rfl⟩⟩
    have HS1 := Aside0.mk (HS.out.call hg hs1)
    have HLEW6 := Aside0.mk hle
    have hlen : ((r).take n).length = n := by rw [List.length_take]; omega
    have hconv := sc_string (l := (r).take n) (A := AW6) (c := cW6) HS1.out.scan.1 (by rw [hlen]; exact hC)
    rw [hlen] at hconv
    clear hg hs1 T HS hle hC hcap hlen
    have HS := HS1
    clear HS1
    have hc0_ := HS.out.box5.cell0
    have hc1_ := HS.out.box5.cell1
    have hc2_ := HS.out.box5.cell2
    have hf_ := HS.out.box5.frozen 2
    have hd0_ := HS.out.box4.cell0
    have hd1_ := HS.out.box4.cell1
    have hd2_ := HS.out.box4.cell2
    have hg0_ := HS.out.box4.frozen 0
    have hg1_ := HS.out.box4.frozen 1
    have hg2_ := HS.out.box4.frozen 2
    have F := Aside0.mk (HS.out.store2 (.string (strOfNums (r.take n)))).fin
    clear HS
    go_wp2
    obtain ⟨f1, f2, f3⟩ := F.out
    refine bodyPost_ret (results_cell_row rfl _ _ W.heap.size 48 _ (0, 0) _ rfl f3 Try.underlying48 rfl (by kernel_rfl)) rfl ?_
    exact show scOp W0 W B _ _ _ from ⟨f1, .inr ⟨_, _, (by simp only [sc_op, Int.toNat_natCast]; rw [if_pos trivial, if_neg (by have := HLEW3.out; omega), HCa.out, HCb.out]; dsimp only; rw [HN.out, if_neg (by have := HLEW6.out; omega)]), f2, rfl⟩⟩
  · have hv1 : (v == 1) = false := by simpa using hv
    have HV := Aside0.mk hv
    clear hv
    have T := Aside0.mk (sc_octet W0 _ B u Hu.out HS.out.scan)
    go_wp2_with fail
    refine T.out.mono ?_
    rintro e W3 ⟨hg, ⟨hnil, rfl⟩ | ⟨nx, p, hcons, hs1, rfl⟩⟩
    · have HG := Aside0.mk (HS.out.grown.trans hg)
      clear hg T HS
      go_wp2
      refine ⟨rfl, ?_⟩
      exact show scOp W0 W B _ _ _ from ⟨HG.out, .inl ⟨8, (by simp only [sc_op]; rw [if_neg HV.out, hnil]), rfl⟩⟩
    have HS1 := Aside0.mk (HS.out.call hg hs1)
    clear hg hs1 T HS
    have HS := HS1
    clear HS1
    have hx0 := Hu.out nx (by rw [hcons]; simp)
    have Hp : Aside0 (sc_bytes p) := ⟨fun y hy => Hu.out y (by rw [hcons]; simp [hy])⟩
    obtain ⟨n, rfl⟩ := Int.eq_ofNat_of_zero_le hx0.1
    have hn := hx0.2
    clear hx0
    have HCn := Aside0.mk hcons
    clear hcons
    obtain rfl := HCn.out
    clear HCn
    have T := Aside0.mk (sc_take W0 _ B (p) k HS.out.scan)
    go_wp2_with fail
    refine T.out.mono ?_
    rintro e W4 ⟨hg, ⟨hsh, rfl⟩ | ⟨hle, hs1, AW4, cW4, rfl, hC, hcap⟩⟩
    · have HG := Aside0.mk (HS.out.grown.trans hg)
      clear hg T HS
      go_wp2
      refine ⟨rfl, ?_⟩
      exact show scOp W0 W B _ _ _ from ⟨HG.out, .inl ⟨8, (by simp only [sc_op, Int.toNat_natCast]; rw [if_neg HV.out, if_pos hsh]), rfl⟩⟩
    have HS1 := Aside0.mk (HS.out.call hg hs1)
    have HLEW4 := Aside0.mk hle
    have hlen : ((p).take k).length = k := by rw [List.length_take]; omega
    have hconv := sc_string (l := (p).take k) (A := AW4) (c := cW4) HS1.out.scan.1 (by rw [hlen]; exact hC)
    rw [hlen] at hconv
    clear hg hs1 T HS hle hC hcap hlen
    have HS := HS1
    clear HS1
    have hc_ := HS.out.box5.cell1
    have hf_ := HS.out.box5.frozen 1
    go_wp2_with fail
    have HSn := Aside0.mk (HS.out.store1 (.string (strOfNums (p.take k))))
    clear HS hc_ hf_
    have HS := HSn
    clear HSn hconv
    have T := Aside0.mk (sc_take W0 _ B (p.drop k) n HS.out.scan)
    go_wp2_with fail
    refine T.out.mono ?_
    rintro e W5 ⟨hg, ⟨hsh, rfl⟩ | ⟨hle, hs1, AW5, cW5, rfl, hC, hcap⟩⟩
    · have HG := Aside0.mk (HS.out.grown.trans hg)
      clear hg T HS
      go_wp2
      refine ⟨rfl, ?_⟩
      exact show scOp W0 W B _ _ _ from ⟨HG.out, .inl ⟨8, (by simp only [sc_op, Int.toNat_natCast]; rw [if_neg HV.out, if_neg (by have := HLEW4.out; omega), if_pos hsh]), rfl⟩⟩
    have HS1 := Aside0.mk (HS.out.call hg hs1)
    have HLEW5 := Aside0.mk hle
    have hlen : ((p.drop k).take n).length = n := by rw [List.length_take]; omega
    have hconv := sc_string (l := (p.drop k).take n) (A := AW5) (c := cW5) HS1.out.scan.1 (by rw [hlen]; exact hC)
    rw [hlen] at hconv
    clear hg hs1 T HS hle hC hcap hlen
    have HS := HS1
    clear HS1
    have hc0_ := HS.out.box5.cell0
    have hc1_ := HS.out.box5.cell1
    have hc2_ := HS.out.box5.cell2
    have hf_ := HS.out.box5.frozen 2
    have hd0_ := HS.out.box4.cell0
    have hd1_ := HS.out.box4.cell1
    have hd2_ := HS.out.box4.cell2
    have hg0_ := HS.out.box4.frozen 0
    have hg1_ := HS.out.box4.frozen 1
    have hg2_ := HS.out.box4.frozen 2
    have F := Aside0.mk (HS.out.store2 (.string (strOfNums ((p.drop k).take n)))).fin
    clear HS
    go_wp2
    obtain ⟨f1, f2, f3⟩ := F.out
    refine bodyPost_ret (results_cell_row rfl _ _ W.heap.size 48 _ (0, 0) _ rfl f3 Try.underlying48 rfl (by kernel_rfl)) rfl ?_
    exact show scOp W0 W B _ _ _ from ⟨f1, .inr ⟨_, _, (by simp only [sc_op, Int.toNat_natCast]; rw [if_neg HV.out, if_neg (by have := HLEW4.out; omega), if_neg (by have := HLEW5.out; omega)]), f2, rfl⟩⟩

end Go.Proofs.Ytpjaebbgbmhneaa.Print
