/- Written by pp.py, a program of this project that runs the kit's print over the translation, with functions proved by hand put in. Lean checks it. -/
import Derived.Test.YtgoiojfdphfelaaPrint0
import Derived.Test.YtgoiojfdphfelaaPrint1
import Derived.Test.YtgoiojfdphfelaaPrint2
namespace Go.Proofs.Ytgoiojfdphfelaa.Print
open Go.RowKit Go.Proofs.YtgoiojfdphfelaaW.PrintWords Go.Proofs.YtgoiojfdphfelaaW.PrintLast Go.Proofs.YtgoiojfdphfelaaW.PrintMore
attribute [local go_sem] max2_int min2_int max_two min_two max_three min_three max_four min_four   -- for this text's walks alone
set_option linter.unusedVariables false
set_option linter.unusedSimpArgs false

/-! ### transeptlaw14_QuorumShares: function 4 -/
mutual
def transeptlaw14_QuorumShares.j0 : Nat → List Bool → List Bool → Int → Bool → Int → Bool → Int → Bool → Option (Bool)
  | 0, _, _, _, _, _, _, _, _ => none
  | k + 1, x0, x1, x5, x6, x7, x8, x9, x40 => if x40 = true then (if x7 = x9 then (if x5 < 1 then (some true) else (some (decide (x5 > 9)))) else (none)) else (transeptlaw14_QuorumShares.l0 k x0 x1 x5 x6 x8 false 0)
def transeptlaw14_QuorumShares.l0 : Nat → List Bool → List Bool → Int → Bool → Bool → Bool → Int → Option (Bool)
  | 0, _, _, _, _, _, _, _ => none
  | k + 1, x0, x1, x5, x6, x8, x10, x11 => if x11 < x5 then (if x10 = true then (transeptlaw14_QuorumShares.l0 k x0 x1 x5 x6 x8 true (wrap64 (x11 + 1))) else (if 0 ≤ x11 then (if x11 < (x0.length : Int) then (if rdOf false x0 x11 = true then (if x11 < (x1.length : Int) then (transeptlaw14_QuorumShares.l0 k x0 x1 x5 x6 x8 (rdOf false x1 x11) (wrap64 (x11 + 1))) else (none)) else (transeptlaw14_QuorumShares.l0 k x0 x1 x5 x6 x8 false (wrap64 (x11 + 1)))) else (none)) else (none))) else (if x6 = true then (if x8 = true then (some x10) else (some true)) else (some true))
end
def transeptlaw14_QuorumShares.f (k : Nat) (l0 : List Bool) (l1 : List Bool) : Option (Bool) := (transeptlaw14_alive.f).bind fun t133 => (if t133 = true then (if 0 ≤ (mn (l0.length : Int) (l1.length : Int)) then (if (mn (l0.length : Int) (l1.length : Int)) ≤ (l0.length : Int) then ((quorum_Wins.f k (l0.take ((mn (l0.length : Int) (l1.length : Int)) : Int).toNat)).bind fun bt135 => (if (mn (l0.length : Int) (l1.length : Int)) ≤ (l1.length : Int) then ((quorum_Wins.f k (l1.take ((mn (l0.length : Int) (l1.length : Int)) : Int).toNat)).bind fun bt138 => ((transeptlaw14_num.f bt135.2).bind fun t140 => (if t140 = 0 then ((transeptlaw14_num.f bt138.2).bind fun t141 => (transeptlaw14_QuorumShares.j0 k l0 l1 (mn (l0.length : Int) (l1.length : Int)) bt135.1 bt135.2 bt138.1 bt138.2 (t141 != 0))) else (transeptlaw14_QuorumShares.j0 k l0 l1 (mn (l0.length : Int) (l1.length : Int)) bt135.1 bt135.2 bt138.1 bt138.2 true)))) else (none))) else (none)) else (none)) else (none))
theorem transeptlaw14_QuorumShares.mono_l : ∀ k, (∀ y0 y1 y2 y3 y4 y5 y6 y7, LeO (transeptlaw14_QuorumShares.j0 k y0 y1 y2 y3 y4 y5 y6 y7) (transeptlaw14_QuorumShares.j0 (k + 1) y0 y1 y2 y3 y4 y5 y6 y7)) ∧ (∀ y0 y1 y2 y3 y4 y5 y6, LeO (transeptlaw14_QuorumShares.l0 k y0 y1 y2 y3 y4 y5 y6) (transeptlaw14_QuorumShares.l0 (k + 1) y0 y1 y2 y3 y4 y5 y6))
  | 0 => ⟨fun _ _ _ _ _ _ _ _ r h => by simp [transeptlaw14_QuorumShares.j0] at h, fun _ _ _ _ _ _ _ r h => by simp [transeptlaw14_QuorumShares.l0] at h⟩
  | k + 1 => by
    obtain ⟨ih0, ih1⟩ := transeptlaw14_QuorumShares.mono_l k
    refine ⟨?_, ?_⟩
    · intro y0 y1 y2 y3 y4 y5 y6 y7
      unfold transeptlaw14_QuorumShares.j0
      repeat' first
      | (with_reducible exact ih0 _ _ _ _ _ _ _ _)
      | (with_reducible exact ih1 _ _ _ _ _ _ _)
      | (with_reducible exact quorum_Wins.mono _ _)
      | (with_reducible exact LeO.refl _)
      | (with_reducible exact LeO.none _)
      | (with_reducible refine LeO.ite ?_ ?_)
      | (with_reducible refine LeO.bind ?_ (fun _ => ?_))
      | exact ih0 _ _ _ _ _ _ _ _
      | exact ih1 _ _ _ _ _ _ _
      | exact quorum_Wins.mono _ _
      | exact LeO.none _
      | refine LeO.ite ?_ ?_
      | refine LeO.bind ?_ (fun _ => ?_)
    · intro y0 y1 y2 y3 y4 y5 y6
      unfold transeptlaw14_QuorumShares.l0
      repeat' first
      | (with_reducible exact ih0 _ _ _ _ _ _ _ _)
      | (with_reducible exact ih1 _ _ _ _ _ _ _)
      | (with_reducible exact quorum_Wins.mono _ _)
      | (with_reducible exact LeO.refl _)
      | (with_reducible exact LeO.none _)
      | (with_reducible refine LeO.ite ?_ ?_)
      | (with_reducible refine LeO.bind ?_ (fun _ => ?_))
      | exact ih0 _ _ _ _ _ _ _ _
      | exact ih1 _ _ _ _ _ _ _
      | exact quorum_Wins.mono _ _
      | exact LeO.none _
      | refine LeO.ite ?_ ?_
      | refine LeO.bind ?_ (fun _ => ?_)
theorem transeptlaw14_QuorumShares.mono : ∀ a0 a1 k, LeO (transeptlaw14_QuorumShares.f k a0 a1) (transeptlaw14_QuorumShares.f (k + 1) a0 a1) := by
  intro a0 a1 k
  obtain ⟨ih0, ih1⟩ := transeptlaw14_QuorumShares.mono_l k
  unfold transeptlaw14_QuorumShares.f
  repeat' first
      | (with_reducible exact ih0 _ _ _ _ _ _ _ _)
      | (with_reducible exact ih1 _ _ _ _ _ _ _)
      | (with_reducible exact quorum_Wins.mono _ _)
      | (with_reducible exact LeO.refl _)
      | (with_reducible exact LeO.none _)
      | (with_reducible refine LeO.ite ?_ ?_)
      | (with_reducible refine LeO.bind ?_ (fun _ => ?_))
      | exact ih0 _ _ _ _ _ _ _ _
      | exact ih1 _ _ _ _ _ _ _
      | exact quorum_Wins.mono _ _
      | exact LeO.none _
      | refine LeO.ite ?_ ?_
      | refine LeO.bind ?_ (fun _ => ?_)
set_option maxHeartbeats 8000000 in
set_option maxRecDepth 100000 in
theorem transeptlaw14_QuorumShares.calls (k : Nat) (A0 : Option Addr) (c0 : Nat) (l0 : List Bool) (A1 : Option Addr) (c1 : Nat) (l1 : List Bool) (r : Bool) (w : World) (hr0 : Kd.C Kd.bool w A0 l0.length l0) (hc0 : l0.length ≤ c0) (hr1 : Kd.C Kd.bool w A1 l1.length l1) (hc1 : l1.length ≤ c1) (h : transeptlaw14_QuorumShares.f k l0 l1 = some r) :
    Calls Try.prog 4 #[.slice A0 l0.length c0, .slice A1 l1.length c1] w fun e w' => e = .returned (.bool r) ∧ Below w.heap.size w w' := by
  have HR0 := Aside0.mk hr0
  have HC0 := Aside0.mk hc0
  clear hr0 hc0
  have HR1 := Aside0.mk hr1
  have HC1 := Aside0.mk hc1
  clear hr1 hc1
  have HB := Aside0.mk (Below.refl w.heap.size w)
  have H : ((transeptlaw14_alive.f).bind fun t133 => (if t133 = true then (if 0 ≤ (mn (l0.length : Int) (l1.length : Int)) then (if (mn (l0.length : Int) (l1.length : Int)) ≤ (l0.length : Int) then ((quorum_Wins.f k (l0.take ((mn (l0.length : Int) (l1.length : Int)) : Int).toNat)).bind fun bt135 => (if (mn (l0.length : Int) (l1.length : Int)) ≤ (l1.length : Int) then ((quorum_Wins.f k (l1.take ((mn (l0.length : Int) (l1.length : Int)) : Int).toNat)).bind fun bt138 => ((transeptlaw14_num.f bt135.2).bind fun t140 => (if t140 = 0 then ((transeptlaw14_num.f bt138.2).bind fun t141 => (transeptlaw14_QuorumShares.j0 k l0 l1 (mn (l0.length : Int) (l1.length : Int)) bt135.1 bt135.2 bt138.1 bt138.2 (t141 != 0))) else (transeptlaw14_QuorumShares.j0 k l0 l1 (mn (l0.length : Int) (l1.length : Int)) bt135.1 bt135.2 bt138.1 bt138.2 true)))) else (none))) else (none)) else (none)) else (none))) = some r := h
  clear h
  replace H := Option.bind_eq_some_iff.mp H
  obtain ⟨t133, A30, H⟩ := H
  replace H : (if t133 = true then (if 0 ≤ (mn (l0.length : Int) (l1.length : Int)) then (if (mn (l0.length : Int) (l1.length : Int)) ≤ (l0.length : Int) then ((quorum_Wins.f k (l0.take ((mn (l0.length : Int) (l1.length : Int)) : Int).toNat)).bind fun bt135 => (if (mn (l0.length : Int) (l1.length : Int)) ≤ (l1.length : Int) then ((quorum_Wins.f k (l1.take ((mn (l0.length : Int) (l1.length : Int)) : Int).toNat)).bind fun bt138 => ((transeptlaw14_num.f bt135.2).bind fun t140 => (if t140 = 0 then ((transeptlaw14_num.f bt138.2).bind fun t141 => (transeptlaw14_QuorumShares.j0 k l0 l1 (mn (l0.length : Int) (l1.length : Int)) bt135.1 bt135.2 bt138.1 bt138.2 (t141 != 0))) else (transeptlaw14_QuorumShares.j0 k l0 l1 (mn (l0.length : Int) (l1.length : Int)) bt135.1 bt135.2 bt138.1 bt138.2 true)))) else (none))) else (none)) else (none)) else (none)) = some r := H
  have A3 := Aside0.mk A30
  clear A30
  by_cases c4 : t133 = true
  · subst c4
    have H1 : (if 0 ≤ (mn (l0.length : Int) (l1.length : Int)) then (if (mn (l0.length : Int) (l1.length : Int)) ≤ (l0.length : Int) then ((quorum_Wins.f k (l0.take ((mn (l0.length : Int) (l1.length : Int)) : Int).toNat)).bind fun bt135 => (if (mn (l0.length : Int) (l1.length : Int)) ≤ (l1.length : Int) then ((quorum_Wins.f k (l1.take ((mn (l0.length : Int) (l1.length : Int)) : Int).toNat)).bind fun bt138 => ((transeptlaw14_num.f bt135.2).bind fun t140 => (if t140 = 0 then ((transeptlaw14_num.f bt138.2).bind fun t141 => (transeptlaw14_QuorumShares.j0 k l0 l1 (mn (l0.length : Int) (l1.length : Int)) bt135.1 bt135.2 bt138.1 bt138.2 (t141 != 0))) else (transeptlaw14_QuorumShares.j0 k l0 l1 (mn (l0.length : Int) (l1.length : Int)) bt135.1 bt135.2 bt138.1 bt138.2 true)))) else (none))) else (none)) else (none)) = some r := by rw [if_pos rfl] at H; exact H
    clear H
    have H := H1
    clear H1
    obtain ⟨ji5, hji5⟩ : ∃ j_ : Int, (mn (l0.length : Int) (l1.length : Int)) = j_ := ⟨_, rfl⟩
    replace H : (if 0 ≤ (ji5) then (if (ji5) ≤ (l0.length : Int) then ((quorum_Wins.f k (l0.take ((ji5) : Int).toNat)).bind fun bt135 => (if (ji5) ≤ (l1.length : Int) then ((quorum_Wins.f k (l1.take ((ji5) : Int).toNat)).bind fun bt138 => ((transeptlaw14_num.f bt135.2).bind fun t140 => (if t140 = 0 then ((transeptlaw14_num.f bt138.2).bind fun t141 => (transeptlaw14_QuorumShares.j0 k l0 l1 ji5 bt135.1 bt135.2 bt138.1 bt138.2 (t141 != 0))) else (transeptlaw14_QuorumShares.j0 k l0 l1 ji5 bt135.1 bt135.2 bt138.1 bt138.2 true)))) else (none))) else (none)) else (none)) = some r := by first | (rw [hji5] at H; exact H) | (simp only [hji5] at H ⊢; exact H)
    (try rw [hji5] at A3)
    (try (have hji5l : 0 ≤ ji5 := by (rw [← hji5]; unfold mn; (repeat' split) <;> omega)))
    (try (have hji5m : 0 ≤ ji5 := by omega))
    have hji5_ : (if (l1.length : Int) < (l0.length : Int) then (l1.length : Int) else (l0.length : Int)) = ji5 := hji5
    (try (have hji5n_ := hji5_; simp only [Int.ofNat_lt] at hji5n_))
    by_cases c6 : 0 ≤ (ji5)
    · rw [if_pos c6] at H
      have c6b0 := eq_true c6
      have c6b1 : decide (0 ≤ (ji5)) = true := decide_eq_true c6
      clear c6
      by_cases c7 : (ji5) ≤ (l0.length : Int)
      · rw [if_pos c7] at H
        have c7b0 := eq_true c7
        have c7b1 : decide ((ji5) ≤ (l0.length : Int)) = true := decide_eq_true c7
        clear c7
        replace H := Option.bind_eq_some_iff.mp H
        obtain ⟨⟨t135, t136⟩, A80, H⟩ := H
        replace H : (if (ji5) ≤ (l1.length : Int) then ((quorum_Wins.f k (l1.take ((ji5) : Int).toNat)).bind fun bt138 => ((transeptlaw14_num.f t136).bind fun t140 => (if t140 = 0 then ((transeptlaw14_num.f bt138.2).bind fun t141 => (transeptlaw14_QuorumShares.j0 k l0 l1 ji5 t135 t136 bt138.1 bt138.2 (t141 != 0))) else (transeptlaw14_QuorumShares.j0 k l0 l1 ji5 t135 t136 bt138.1 bt138.2 true)))) else (none)) = some r := H
        have A8 := Aside0.mk A80
        clear A80
        have c9b0 := eq_true (of_decide_eq_true (by first | (with_reducible assumption) | assumption) : 0 ≤ (ji5))
        by_cases c10 : (ji5) ≤ (l1.length : Int)
        · rw [if_pos c10] at H
          have c10b0 := eq_true c10
          have c10b1 : decide ((ji5) ≤ (l1.length : Int)) = true := decide_eq_true c10
          clear c10
          replace H := Option.bind_eq_some_iff.mp H
          obtain ⟨⟨t138, t139⟩, A110, H⟩ := H
          replace H : ((transeptlaw14_num.f t136).bind fun t140 => (if t140 = 0 then ((transeptlaw14_num.f t139).bind fun t141 => (transeptlaw14_QuorumShares.j0 k l0 l1 ji5 t135 t136 t138 t139 (t141 != 0))) else (transeptlaw14_QuorumShares.j0 k l0 l1 ji5 t135 t136 t138 t139 true))) = some r := H
          have A11 := Aside0.mk A110
          clear A110
          have HC12 := Aside0.mk H
          clear H
          go_enter Try.func4, Try.ntmps4
          go_upto_region 6 with (first | ((with_reducible refine gate_callee (f := 7) rfl ?_); refine goesL_ (some 12) rfl rfl Try.func7 (by kernel_rfl) rfl #[] rfl (by (try simp only [List.map_toArray, List.map_cons, List.map_nil]); first | done | rfl | (simp only [List.length_drop, List.length_take]; rfl)) ?_; (with_reducible refine (transeptlaw14_alive.calls  true _ A3.out).mono ?_); rintro e w13 ⟨rfl, hb⟩; refine ⟨_, rfl, ?_⟩; have n0_ := Aside0.mk (below_step (by repeat (first | (with_reducible first | exact HB.out | apply below_alloc | apply pw_below_drewN | apply below_drew1) | exact HB.out)) hb); clear HB; have HB := n0_; clear n0_; (try clear hb); (try clear hb2); (try clear hk); (try clear hi); obtain ⟨i014, hi014, _, hsz14, _⟩ := info_parts info4; obtain ⟨hcut14, hA14, hC14⟩ := print_take_of (P := Try.prog) Value.bool false 30 4 .i64 Try.underlying30 hi014 hsz14 A0 c0 l0 (ji5) (of_decide_eq_true (by first | (with_reducible assumption) | assumption)) (of_decide_eq_true (by first | (with_reducible assumption) | assumption)) HC0.out; have HR134 := Aside0.mk (Kd.C_of_reads (h1 := fun _ => rfl) (hA14 _ (Kd.reads_of_C HR0.out))); have HC134 := Aside0.mk hC14; clear hA14 hC14 hi014 hsz14) | ((with_reducible refine gate_callee (f := 11) rfl ?_); refine goesL_ (some 23) rfl rfl Try.func11 (by kernel_rfl) rfl #[.slice A0 (l0.take ((ji5) : Int).toNat).length c0] rfl (by (try simp only [List.map_toArray, List.map_cons, List.map_nil]); first | done | (rw [show (l0.take ((ji5) : Int).toNat).length = (ji5).toNat from (by rw [List.length_take]; have h_ : ((ji5) : Int) ≤ (l0.length : Int) := of_decide_eq_true (by first | (with_reducible assumption) | assumption); omega)] <;> rfl) | (simp only [hji5]; rfl) | rfl | (simp only [List.length_drop, List.length_take]; rfl)) ?_; (with_reducible refine (quorum_Wins.calls k _ _ (l0.take ((ji5) : Int).toNat) t135 t136 _ ?side1 ?side2 A8.out).mono ?_); (case side1 => repeat (first | exact (Kd.C_below HR134.out HB.out) | (with_reducible refine Kd.C_alloc ?_ _) | (with_reducible refine Kd.C_drewN ?_ _) | (with_reducible refine Kd.C_drew ?_))); (case side2 => exact HC134.out); rintro e w' ⟨rfl, ⟨nd, rfl⟩⟩; refine ⟨_, rfl, ?_⟩; obtain ⟨i015, hi015, _, hsz15, _⟩ := info_parts info4; obtain ⟨hcut15, hA15, hC15⟩ := print_take_of (P := Try.prog) Value.bool false 30 4 .i64 Try.underlying30 hi015 hsz15 A1 c1 l1 (ji5) (of_decide_eq_true (by first | (with_reducible assumption) | assumption)) (of_decide_eq_true (by first | (with_reducible assumption) | assumption)) HC1.out; have HR137 := Aside0.mk (Kd.C_of_reads (h1 := fun _ => rfl) (hA15 _ (Kd.reads_of_C HR1.out))); have HC137 := Aside0.mk hC15; clear hA15 hC15 hi015 hsz15) | ((with_reducible refine gate_callee (f := 11) rfl ?_); refine goesL_ (some 30) rfl rfl Try.func11 (by kernel_rfl) rfl #[.slice A1 (l1.take ((ji5) : Int).toNat).length c1] rfl (by (try simp only [List.map_toArray, List.map_cons, List.map_nil]); first | done | (rw [show (l1.take ((ji5) : Int).toNat).length = (ji5).toNat from (by rw [List.length_take]; have h_ : ((ji5) : Int) ≤ (l1.length : Int) := of_decide_eq_true (by first | (with_reducible assumption) | assumption); omega)] <;> rfl) | (simp only [hji5]; rfl) | rfl | (simp only [List.length_drop, List.length_take]; rfl)) ?_; (with_reducible refine (quorum_Wins.calls k _ _ (l1.take ((ji5) : Int).toNat) t138 t139 _ ?side1 ?side2 A11.out).mono ?_); (case side1 => repeat (first | exact (Kd.C_below HR137.out (by repeat (first | (with_reducible first | exact HB.out | apply below_alloc | apply pw_below_drewN | apply below_drew1) | exact HB.out))) | (with_reducible refine Kd.C_alloc ?_ _) | (with_reducible refine Kd.C_drewN ?_ _) | (with_reducible refine Kd.C_drew ?_))); (case side2 => exact HC137.out); rintro e w' ⟨rfl, ⟨nd, rfl⟩⟩; refine ⟨_, rfl, ?_⟩))
          (try simp only [Act.put, List.setIfInBounds_toArray, List.set_cons_zero, List.set_cons_succ])
          go_cut [40] (fun v40 wc => ∃ (kq : Nat) (x40_11 : Bool), v40 = .bool x40_11 ∧ Aside0 (transeptlaw14_QuorumShares.j0 kq l0 l1 ji5 t135 t136 t138 t139 x40_11 = some r) ∧ Aside0 (kq ≤ k) ∧ Aside0 (Below w.heap.size w wc))
          case first =>
            have H := HC12.out
            clear HC12
            replace H := Option.bind_eq_some_iff.mp H
            obtain ⟨t140, A160, H⟩ := H
            replace H : (if t140 = 0 then ((transeptlaw14_num.f t139).bind fun t141 => (transeptlaw14_QuorumShares.j0 k l0 l1 ji5 t135 t136 t138 t139 (t141 != 0))) else (transeptlaw14_QuorumShares.j0 k l0 l1 ji5 t135 t136 t138 t139 true)) = some r := H
            have A16 := Aside0.mk A160
            clear A160
            by_cases c17 : t140 = 0
            · rw [if_pos c17] at H
              have c17b0 : (t140 == 0) = true := beq_iff_eq.mpr c17
              have c17b1 : (t140 != 0) = false := bne_eq_false_iff_eq.mpr c17
              clear c17
              (first | rw [c17b0] | (simp only [i64_w, i32_w]; rw [c17b0]) | skip)
              replace H := Option.bind_eq_some_iff.mp H
              obtain ⟨t141, A180, H⟩ := H
              replace H : (transeptlaw14_QuorumShares.j0 k l0 l1 ji5 t135 t136 t138 t139 (t141 != 0)) = some r := H
              have A18 := Aside0.mk A180
              clear A180
              have H' := Aside0.mk H
              clear H
              go_wp2_with (first | ((with_reducible refine gate_callee (f := 10) rfl ?_); refine goesL_ (some 34) rfl rfl Try.func10 (by kernel_rfl) rfl #[.int .i64 t136] rfl (by (try simp only [List.map_toArray, List.map_cons, List.map_nil]); first | done | rfl | (simp only [List.length_drop, List.length_take]; rfl)) ?_; (with_reducible refine (transeptlaw14_num.calls t136 t140 _ A16.out).mono ?_); rintro e w' ⟨rfl, ⟨nd, rfl⟩⟩; refine ⟨_, rfl, ?_⟩) | (go_at_call 10; (with_reducible refine (transeptlaw14_num.calls t139 t141 _ A18.out).mono ?_); rintro e w' ⟨rfl, ⟨nd, rfl⟩⟩))
              go_meet
              case rel => exact ⟨_, ((t141 != 0)), (by first | rfl | (simp; done) | (simp [*]; done)), H', ⟨by first | omega | exact Nat.le_refl _⟩, ⟨by repeat (first | (with_reducible first | exact HB.out | apply below_alloc | apply pw_below_drewN | apply below_drew1) | exact HB.out)⟩⟩
            · rw [if_neg c17] at H
              have c17b0 : (t140 == 0) = false := beq_eq_false_iff_ne.mpr c17
              have c17b1 : (t140 != 0) = true := bne_iff_ne.mpr c17
              (first | rw [c17b0] | (simp only [i64_w, i32_w]; rw [c17b0]) | skip)
              have H' := Aside0.mk H
              clear H
              go_wp2_with (first | ((with_reducible refine gate_callee (f := 10) rfl ?_); refine goesL_ (some 34) rfl rfl Try.func10 (by kernel_rfl) rfl #[.int .i64 t136] rfl (by (try simp only [List.map_toArray, List.map_cons, List.map_nil]); first | done | rfl | (simp only [List.length_drop, List.length_take]; rfl)) ?_; (with_reducible refine (transeptlaw14_num.calls t136 t140 _ A16.out).mono ?_); rintro e w' ⟨rfl, ⟨nd, rfl⟩⟩; refine ⟨_, rfl, ?_⟩))
              go_meet
              case rel => exact ⟨_, (true), (by first | rfl | (simp; done) | (simp [*]; done)), H', ⟨by first | omega | exact Nat.le_refl _⟩, ⟨by repeat (first | (with_reducible first | exact HB.out | apply below_alloc | apply pw_below_drewN | apply below_drew1) | exact HB.out)⟩⟩
          case rest =>
            clear HC12
            try clear c1
            try clear p2
            try clear c4
            try clear c6
            try clear c6b0
            try clear c6b1
            try clear c7
            try clear c7b0
            try clear c7b1
            try clear c9
            try clear c9b0
            try clear c10
            try clear c10b0
            try clear c10b1
            try clear c11
            try clear c17
            try clear c17b0
            try clear c17b1
            obtain ⟨kq, x40_11, rfl, HA, HJ11, HB⟩ := hcut
            cases kq with
            | zero => exact absurd HA.out (by simp [transeptlaw14_QuorumShares.j0])
            | succ kj11 =>
              have H := HA.out
              clear HA
              simp only [transeptlaw14_QuorumShares.j0] at H
              by_cases c19 : x40_11 = true
              · subst c19
                have H1 : (if t136 = t139 then (if ji5 < 1 then (some true) else (some (decide (ji5 > 9)))) else (none)) = some r := by rw [if_pos rfl] at H; exact H
                clear H
                have H := H1
                clear H1
                by_cases c20 : t136 = t139
                · rw [if_pos c20] at H
                  have c20b0 : (t136 == t139) = true := beq_iff_eq.mpr c20
                  have c20b1 : (t136 != t139) = false := bne_eq_false_iff_eq.mpr c20
                  clear c20
                  by_cases c21 : ji5 < 1
                  · rw [if_pos c21] at H
                    have c21b0 : decide (ji5 < 1) = true := decide_eq_true c21
                    clear c21
                    obtain rfl := Option.some.inj H
                    go_wp2
                    go_ret
                    exact ⟨by first | rfl | (simp [errW_none, errW_some] <;> rfl) | (simp only [← hji5]; first | rfl | (simp [errW_none, errW_some] <;> rfl)) | (simp [*, errW_none, errW_some] <;> rfl), by repeat (first | (with_reducible first | exact HB.out | apply below_alloc | apply pw_below_drewN | apply below_drew1) | exact HB.out)⟩
                  · rw [if_neg c21] at H
                    have c21b0 : decide (ji5 < 1) = false := decide_eq_false c21
                    clear c21
                    obtain rfl := Option.some.inj H
                    go_wp2
                    go_ret
                    exact ⟨by first | rfl | (simp [errW_none, errW_some] <;> rfl) | (simp only [← hji5]; first | rfl | (simp [errW_none, errW_some] <;> rfl)) | (simp [*, errW_none, errW_some] <;> rfl), by repeat (first | (with_reducible first | exact HB.out | apply below_alloc | apply pw_below_drewN | apply below_drew1) | exact HB.out)⟩
                · rw [if_neg c20] at H
                  exact absurd H (by simp)
              · replace c19 := Bool.eq_false_iff.mpr c19
                subst c19
                have H1 : (transeptlaw14_QuorumShares.l0 kj11 l0 l1 ji5 t135 t138 false 0) = some r := by rw [if_neg (show ¬ (false = true) by decide)] at H; exact H
                clear H
                have H := H1
                clear H1
                have H' := Aside0.mk H
                clear H
                go_wp2
                go_loopg [10, 11] kj11 (fun kq v10 v11 w' => ∃ (x10_2 : Bool) (x11_2 : Int), v10 = .bool x10_2 ∧ v11 = .int .i64 x11_2 ∧ Aside0 (transeptlaw14_QuorumShares.l0 kq l0 l1 ji5 t135 t138 x10_2 x11_2 = some r) ∧ Aside0 (kq ≤ kj11) ∧ Aside0 (Below w.heap.size w w'))
                case atStart => exact ⟨(false), (0), (by first | rfl | (simp; done) | (simp [*]; done)), (by first | rfl | (simp; done) | (simp [*]; done)), H', ⟨Nat.le_refl _⟩, ⟨by repeat (first | (with_reducible first | exact HB.out | apply below_alloc | apply pw_below_drewN | apply below_drew1) | exact HB.out)⟩⟩
                case round =>
                  clear H'
                  try clear c1
                  try clear c2
                  try clear p2
                  try clear c4
                  try clear c6
                  try clear c6b0
                  try clear c6b1
                  try clear c7
                  try clear c7b0
                  try clear c7b1
                  try clear c9
                  try clear c9b0
                  try clear c10
                  try clear c10b0
                  try clear c10b1
                  try clear c11
                  try clear c17
                  try clear c17b0
                  try clear c17b1
                  try clear c19
                  try clear c20
                  try clear c20b0
                  try clear c20b1
                  try clear c21
                  try clear c21b0
                  try clear p2
                  obtain ⟨x10_2, x11_2, rfl, rfl, HA, HK2, HB⟩ := hrel
                  cases gk with
                  | zero => exact absurd HA.out (by simp [transeptlaw14_QuorumShares.l0])
                  | succ k2 =>
                    have H := HA.out
                    clear HA
                    simp only [transeptlaw14_QuorumShares.l0] at H
                    by_cases c22 : x11_2 < ji5
                    · rw [if_pos c22] at H
                      have c22b0 : decide (x11_2 < ji5) = true := decide_eq_true c22
                      clear c22
                      by_cases c23 : x10_2 = true
                      · subst c23
                        have H1 : (transeptlaw14_QuorumShares.l0 k2 l0 l1 ji5 t135 t138 true (wrap64 (x11_2 + 1))) = some r := by rw [if_pos rfl] at H; exact H
                        clear H
                        have H := H1
                        clear H1
                        have H' := Aside0.mk H
                        clear H
                        go_wp2
                        go_roundg k2
                        case measure => have := HJ11.out; have := HK2.out; omega
                        case rel => exact ⟨(true), (wrap64 (x11_2 + 1)), (by first | rfl | (simp; done) | (simp [*]; done)), (by first | rfl | (simp; done) | (simp [*]; done)), H', ⟨by have := HJ11.out; have := HK2.out; omega⟩, ⟨by repeat (first | (with_reducible first | exact HB.out | apply below_alloc | apply pw_below_drewN | apply below_drew1) | exact HB.out)⟩⟩
                      · replace c23 := Bool.eq_false_iff.mpr c23
                        subst c23
                        have H1 : (if 0 ≤ x11_2 then (if x11_2 < (l0.length : Int) then (if rdOf false l0 x11_2 = true then (if x11_2 < (l1.length : Int) then (transeptlaw14_QuorumShares.l0 k2 l0 l1 ji5 t135 t138 (rdOf false l1 x11_2) (wrap64 (x11_2 + 1))) else (none)) else (transeptlaw14_QuorumShares.l0 k2 l0 l1 ji5 t135 t138 false (wrap64 (x11_2 + 1)))) else (none)) else (none)) = some r := by rw [if_neg (show ¬ (false = true) by decide)] at H; exact H
                        clear H
                        have H := H1
                        clear H1
                        by_cases c24 : 0 ≤ x11_2
                        · rw [if_pos c24] at H
                          have c24b0 : decide (0 ≤ x11_2) = true := decide_eq_true c24
                          clear c24
                          by_cases c25 : x11_2 < (l0.length : Int)
                          · rw [if_pos c25] at H
                            have c25b0 : decide (x11_2 < (l0.length : Int)) = true := decide_eq_true c25
                            clear c25
                            obtain ⟨bq26, hbq26⟩ : ∃ b_ : Bool, b_ = (rdOf false l0 x11_2) := ⟨_, rfl⟩
                            replace H : (if bq26 = true then (if x11_2 < (l1.length : Int) then (transeptlaw14_QuorumShares.l0 k2 l0 l1 ji5 t135 t138 (rdOf false l1 x11_2) (wrap64 (x11_2 + 1))) else (none)) else (transeptlaw14_QuorumShares.l0 k2 l0 l1 ji5 t135 t138 false (wrap64 (x11_2 + 1)))) = some r := by rw [← hbq26] at H; exact H
                            have Nbq26 := Aside0.mk hbq26
                            clear hbq26
                            by_cases c27 : bq26 = true
                            · subst c27
                              have H1 : (if x11_2 < (l1.length : Int) then (transeptlaw14_QuorumShares.l0 k2 l0 l1 ji5 t135 t138 (rdOf false l1 x11_2) (wrap64 (x11_2 + 1))) else (none)) = some r := by rw [if_pos rfl] at H; exact H
                              clear H
                              have H := H1
                              clear H1
                              by_cases c28 : x11_2 < (l1.length : Int)
                              · rw [if_pos c28] at H
                                have c28b0 : decide (x11_2 < (l1.length : Int)) = true := decide_eq_true c28
                                clear c28
                                have H' := Aside0.mk H
                                clear H
                                have p142 : 0 ≤ (x11_2 : Int) := of_decide_eq_true (by first | (with_reducible assumption) | assumption)
                                have q142 : x11_2 < (l0.length : Int) := of_decide_eq_true (by first | (with_reducible assumption) | assumption)
                                obtain ⟨ad142, e142, hx142_0⟩ := Kd.at_bool HR0.out x11_2 p142 q142
                                (try rw [← Nbq26.out] at hx142_0)
                                cases e142
                                replace hx142_0 := (HB.out.cell (World.block_lt_of_cell? w _ hx142_0)).trans hx142_0
                                replace p142 := eq_true p142
                                replace q142 := eq_true q142
                                have p143 : 0 ≤ (x11_2 : Int) := of_decide_eq_true (by first | (with_reducible assumption) | assumption)
                                have q143 : x11_2 < (l1.length : Int) := of_decide_eq_true (by first | (with_reducible assumption) | assumption)
                                obtain ⟨ad143, e143, hx143_0⟩ := Kd.at_bool HR1.out x11_2 p143 q143
                                (try rw [← Nbq26.out] at hx143_0)
                                cases e143
                                replace hx143_0 := (HB.out.cell (World.block_lt_of_cell? w _ hx143_0)).trans hx143_0
                                replace p143 := eq_true p143
                                replace q143 := eq_true q143
                                go_wp2
                                go_roundg k2
                                case measure => have := HJ11.out; have := HK2.out; omega
                                case rel => exact ⟨(rdOf false l1 x11_2), (wrap64 (x11_2 + 1)), (by first | rfl | (simp; done) | (simp [*]; done)), (by first | rfl | (simp; done) | (simp [*]; done)), H', ⟨by have := HJ11.out; have := HK2.out; omega⟩, ⟨by repeat (first | (with_reducible first | exact HB.out | apply below_alloc | apply pw_below_drewN | apply below_drew1) | exact HB.out)⟩⟩
                              · rw [if_neg c28] at H
                                exact absurd H (by simp)
                            · replace c27 := Bool.eq_false_iff.mpr c27
                              subst c27
                              have H1 : (transeptlaw14_QuorumShares.l0 k2 l0 l1 ji5 t135 t138 false (wrap64 (x11_2 + 1))) = some r := by rw [if_neg (show ¬ (false = true) by decide)] at H; exact H
                              clear H
                              have H := H1
                              clear H1
                              have H' := Aside0.mk H
                              clear H
                              have p142 : 0 ≤ (x11_2 : Int) := of_decide_eq_true (by first | (with_reducible assumption) | assumption)
                              have q142 : x11_2 < (l0.length : Int) := of_decide_eq_true (by first | (with_reducible assumption) | assumption)
                              obtain ⟨ad142, e142, hx142_0⟩ := Kd.at_bool HR0.out x11_2 p142 q142
                              (try rw [← Nbq26.out] at hx142_0)
                              cases e142
                              replace hx142_0 := (HB.out.cell (World.block_lt_of_cell? w _ hx142_0)).trans hx142_0
                              replace p142 := eq_true p142
                              replace q142 := eq_true q142
                              go_wp2
                              go_roundg k2
                              case measure => have := HJ11.out; have := HK2.out; omega
                              case rel => exact ⟨(false), (wrap64 (x11_2 + 1)), (by first | rfl | (simp; done) | (simp [*]; done)), (by first | rfl | (simp; done) | (simp [*]; done)), H', ⟨by have := HJ11.out; have := HK2.out; omega⟩, ⟨by repeat (first | (with_reducible first | exact HB.out | apply below_alloc | apply pw_below_drewN | apply below_drew1) | exact HB.out)⟩⟩
                          · rw [if_neg c25] at H
                            exact absurd H (by simp)
                        · rw [if_neg c24] at H
                          exact absurd H (by simp)
                    · rw [if_neg c22] at H
                      have c22b0 : decide (x11_2 < ji5) = false := decide_eq_false c22
                      clear c22
                      by_cases c29 : t135 = true
                      · subst c29
                        have H1 : (if t138 = true then (some x10_2) else (some true)) = some r := by rw [if_pos rfl] at H; exact H
                        clear H
                        have H := H1
                        clear H1
                        by_cases c30 : t138 = true
                        · subst c30
                          have H1 : (some x10_2) = some r := by rw [if_pos rfl] at H; exact H
                          clear H
                          have H := H1
                          clear H1
                          obtain rfl := Option.some.inj H
                          go_wp2
                          go_ret
                          exact ⟨by first | rfl | (simp [errW_none, errW_some] <;> rfl) | (simp only [← hji5]; first | rfl | (simp [errW_none, errW_some] <;> rfl)) | (simp [*, errW_none, errW_some] <;> rfl), by repeat (first | (with_reducible first | exact HB.out | apply below_alloc | apply pw_below_drewN | apply below_drew1) | exact HB.out)⟩
                        · replace c30 := Bool.eq_false_iff.mpr c30
                          subst c30
                          have H1 : (some true) = some r := by rw [if_neg (show ¬ (false = true) by decide)] at H; exact H
                          clear H
                          have H := H1
                          clear H1
                          obtain rfl := Option.some.inj H
                          go_wp2
                          go_ret
                          exact ⟨by first | rfl | (simp [errW_none, errW_some] <;> rfl) | (simp only [← hji5]; first | rfl | (simp [errW_none, errW_some] <;> rfl)) | (simp [*, errW_none, errW_some] <;> rfl), by repeat (first | (with_reducible first | exact HB.out | apply below_alloc | apply pw_below_drewN | apply below_drew1) | exact HB.out)⟩
                      · replace c29 := Bool.eq_false_iff.mpr c29
                        subst c29
                        have H1 : (some true) = some r := by rw [if_neg (show ¬ (false = true) by decide)] at H; exact H
                        clear H
                        have H := H1
                        clear H1
                        obtain rfl := Option.some.inj H
                        go_wp2
                        go_ret
                        exact ⟨by first | rfl | (simp [errW_none, errW_some] <;> rfl) | (simp only [← hji5]; first | rfl | (simp [errW_none, errW_some] <;> rfl)) | (simp [*, errW_none, errW_some] <;> rfl), by repeat (first | (with_reducible first | exact HB.out | apply below_alloc | apply pw_below_drewN | apply below_drew1) | exact HB.out)⟩
        · rw [if_neg c10] at H
          exact absurd H (by simp)
      · rw [if_neg c7] at H
        exact absurd H (by simp)
    · rw [if_neg c6] at H
      exact absurd H (by simp)
  · replace c4 := Bool.eq_false_iff.mpr c4
    subst c4
    have H1 : (none) = some r := by rw [if_neg (show ¬ (false = true) by decide)] at H; exact H
    clear H
    have H := H1
    clear H1
    exact absurd H (by simp)

/-! ### quorum_Commit: function 12 -/
def quorum_Commit.f (l0 : List Int) (a1 : Int) (a2 : Int) : Option (Int × Int) := (quorum_Agreed.f l0).bind fun bt144 => (if bt144.2 = 0 then ((quorum_inside.f (([a1, a2] : List Int))).bind fun t149 => (if t149 = true then (if bt144.1 < a2 then (some (a1, 0)) else (some (mx bt144.1 a1, 0))) else (some (0, 4)))) else (some (0, bt144.2)))
set_option maxHeartbeats 8000000 in
set_option maxRecDepth 100000 in
theorem quorum_Commit.calls (A0 : Option Addr) (c0 : Nat) (l0 : List Int) (a1 : Int) (a2 : Int) (r1 : Int) (r2 : Int) (w : World) (hr0 : Kd.C (Kd.int .i64) w A0 l0.length l0) (hc0 : l0.length ≤ c0) (h : quorum_Commit.f l0 a1 a2 = some (r1, r2)) :
    Calls Try.prog 12 #[.slice A0 l0.length c0, .int .i64 a1, .int .i64 a2] w fun e w' => e = .returned (.tuple #[.int .i64 r1, .int .i64 r2]) ∧ Below w.heap.size w w' := by
  have HR0 := Aside0.mk hr0
  have HC0 := Aside0.mk hc0
  clear hr0 hc0
  have HB := Aside0.mk (Below.refl w.heap.size w)
  have H : ((quorum_Agreed.f l0).bind fun bt144 => (if bt144.2 = 0 then ((quorum_inside.f (([a1, a2] : List Int))).bind fun t149 => (if t149 = true then (if bt144.1 < a2 then (some (a1, 0)) else (some (mx bt144.1 a1, 0))) else (some (0, 4)))) else (some (0, bt144.2)))) = some (r1, r2) := h
  clear h
  replace H := Option.bind_eq_some_iff.mp H
  obtain ⟨⟨t144, t145⟩, A40, H⟩ := H
  replace H : (if t145 = 0 then ((quorum_inside.f (([a1, a2] : List Int))).bind fun t149 => (if t149 = true then (if t144 < a2 then (some (a1, 0)) else (some (mx t144 a1, 0))) else (some (0, 4)))) else (some (0, t145))) = some (r1, r2) := H
  have A4 := Aside0.mk A40
  clear A40
  by_cases c5 : t145 = 0
  · rw [if_pos c5] at H
    have c5b0 : (t145 == 0) = true := beq_iff_eq.mpr c5
    have c5b1 : (t145 != 0) = false := bne_eq_false_iff_eq.mpr c5
    clear c5
    obtain ⟨y146, hy146⟩ : ∃ y_ : List Int, y_ = (([a1, a2] : List Int)) := ⟨_, rfl⟩
    replace H : ((quorum_inside.f y146).bind fun t149 => (if t149 = true then (if t144 < a2 then (some (a1, 0)) else (some (mx t144 a1, 0))) else (some (0, 4)))) = some (r1, r2) := by first | (rw [hy146]; with_reducible exact H) | (have H2_ := (Option.bind_some _ _).symm.trans H; rw [hy146]; with_reducible exact H2_) | (have H2_ := (Option.bind_some _ _).symm.trans H; with_reducible exact H2_) | with_reducible exact H | (rw [hy146]; exact H) | exact H
    have Ny146 := Aside0.mk hy146
    clear hy146
    replace H := Option.bind_eq_some_iff.mp H
    obtain ⟨t149, A60, H⟩ := H
    replace H : (if t149 = true then (if t144 < a2 then (some (a1, 0)) else (some (mx t144 a1, 0))) else (some (0, 4))) = some (r1, r2) := H
    have A6 := Aside0.mk A60
    clear A60
    by_cases c7 : t149 = true
    · subst c7
      have H1 : (if t144 < a2 then (some (a1, 0)) else (some (mx t144 a1, 0))) = some (r1, r2) := by rw [if_pos rfl] at H; exact H
      clear H
      have H := H1
      clear H1
      by_cases c8 : t144 < a2
      · rw [if_pos c8] at H
        have c8b0 : decide (t144 < a2) = true := decide_eq_true c8
        clear c8
        simp only [Option.some.injEq, Prod.mk.injEq] at H
        obtain ⟨rfl, rfl⟩ := H
        go_enter Try.func12, Try.ntmps12
        go_wp2_with (first | ((with_reducible refine gate_callee (f := 8) rfl ?_); refine goesL_ (some 12) rfl rfl Try.func8 (by kernel_rfl) rfl #[.slice A0 l0.length c0] rfl (by (try simp only [List.map_toArray, List.map_cons, List.map_nil]); first | done | rfl | (simp only [List.length_drop, List.length_take]; rfl)) ?_; (with_reducible refine (quorum_Agreed.calls _ _ l0 t144 t145 _ ?side1 ?side2 A4.out).mono ?_); (case side1 => repeat (first | exact HR0.out | (with_reducible refine Kd.C_alloc ?_ _) | (with_reducible refine Kd.C_drewN ?_ _) | (with_reducible refine Kd.C_drew ?_))); (case side2 => exact HC0.out); rintro e w9 ⟨rfl, hb⟩; refine ⟨_, rfl, ?_⟩; have n0_ := Aside0.mk (below_step (by repeat (first | (with_reducible first | exact HB.out | apply below_alloc | apply pw_below_drewN | apply below_drew1) | exact HB.out)) hb); clear HB; have HB := n0_; clear n0_; (try clear hb); (try clear hb2); (try clear hk); (try clear hi)) | ((with_reducible refine gate_dst (N := 22) rfl ?_); refine Kd.R_lit (Kd.int .i64) _ 3 ?hg (N := 22) ?hd (xs := ([a1, a2] : List Int)) (inner := [.int .i64 a1, .int .i64 a2]) (ok := fun _ => True) (okp := fun _ => True) ?hr ?hp (fun _ hk => hk) trivial (Below.refl _ _) (Nat.le_refl _) (by simp) ?_; (case hd => rfl); (case hg => rfl); (case hr => first | (go_simp; done) | (go_simp; rfl)); (case hp => exact (Reps.one (show Kd.M (Kd.int .i64) _ _ _ a1 [.int .i64 a1] from rfl) (Reps.one (show Kd.M (Kd.int .i64) _ _ _ a2 [.int .i64 a2] from rfl) (Reps.none _ _)))); intro v147 w10 ho11 hb hg_ hnew_; clear hg_ hnew_; (first | rw [← Ny146.out] at ho11 | (simp only [Int.reduceToNat] at ho11; rw [← Ny146.out] at ho11)); have n0_ := Aside0.mk (Kd.R_lower ho11 (below_size (by repeat (first | (with_reducible first | exact HB.out | apply below_alloc | apply pw_below_drewN | apply below_drew1) | exact HB.out)))); have n1_ := Aside0.mk (below_step (by repeat (first | (with_reducible first | exact HB.out | apply below_alloc | apply pw_below_drewN | apply below_drew1) | exact HB.out)) hb); clear HB; have HO148 := n0_; have HB := n1_; clear n0_ n1_; clear hb ho11; obtain ⟨Ao12, co12, eo12⟩ := Kd.R_slice HO148.out; subst eo12) | ((with_reducible refine gate_callee (f := 21) rfl ?_); refine goesL_ (some 23) rfl rfl Try.func21 (by kernel_rfl) rfl #[.slice Ao12 y146.length co12] rfl (by (try simp only [List.map_toArray, List.map_cons, List.map_nil]); first | done | rfl | (simp only [List.length_drop, List.length_take]; rfl)) ?_; (with_reducible refine (quorum_inside.calls _ _ y146 true _ ?side1 ?side2 A6.out).mono ?_); (case side1 => repeat (first | exact (Kd.R_reads' HO148.out).2.2 | (with_reducible refine Kd.C_alloc ?_ _) | (with_reducible refine Kd.C_drewN ?_ _) | (with_reducible refine Kd.C_drew ?_))); (case side2 => exact (Kd.R_reads' HO148.out).2.1); rintro e w13 ⟨rfl, hb⟩; refine ⟨_, rfl, ?_⟩; have n0_ := Aside0.mk (Kd.R_below (by (with_reducible repeat (first | apply Kd.R_alloc | apply Kd.R_drewN | apply Kd.R_drew)); exact HO148.out) hb); have n1_ := Aside0.mk (below_step (by repeat (first | (with_reducible first | exact HB.out | apply below_alloc | apply pw_below_drewN | apply below_drew1) | exact HB.out)) hb); clear HO148; clear HB; have HO148 := n0_; have HB := n1_; clear n0_ n1_; (try clear hb); (try clear hb2); (try clear hk); (try clear hi)))
        go_ret2
        exact ⟨by first | rfl | (simp [errW_none, errW_some] <;> rfl) | (simp [*, errW_none, errW_some] <;> rfl), by repeat (first | (with_reducible first | exact HB.out | apply below_alloc | apply pw_below_drewN | apply below_drew1) | exact HB.out)⟩
      · rw [if_neg c8] at H
        have c8b0 : decide (t144 < a2) = false := decide_eq_false c8
        clear c8
        obtain ⟨ji14, hji14⟩ : ∃ j_ : Int, (mx t144 a1) = j_ := ⟨_, rfl⟩
        replace H : (some (ji14, 0)) = some (r1, r2) := by first | (rw [hji14] at H; exact H) | (simp only [hji14] at H ⊢; exact H)
        (try rw [hji14] at A4)
        (try rw [hji14] at A6)
        have hji14_ : (if t144 < a1 then a1 else t144) = ji14 := hji14
        simp only [Option.some.injEq, Prod.mk.injEq] at H
        obtain ⟨rfl, rfl⟩ := H
        go_enter Try.func12, Try.ntmps12
        go_wp2_with (first | ((with_reducible refine gate_callee (f := 8) rfl ?_); refine goesL_ (some 12) rfl rfl Try.func8 (by kernel_rfl) rfl #[.slice A0 l0.length c0] rfl (by (try simp only [List.map_toArray, List.map_cons, List.map_nil]); first | done | rfl | (simp only [List.length_drop, List.length_take]; rfl)) ?_; (with_reducible refine (quorum_Agreed.calls _ _ l0 t144 t145 _ ?side1 ?side2 A4.out).mono ?_); (case side1 => repeat (first | exact HR0.out | (with_reducible refine Kd.C_alloc ?_ _) | (with_reducible refine Kd.C_drewN ?_ _) | (with_reducible refine Kd.C_drew ?_))); (case side2 => exact HC0.out); rintro e w15 ⟨rfl, hb⟩; refine ⟨_, rfl, ?_⟩; have n0_ := Aside0.mk (below_step (by repeat (first | (with_reducible first | exact HB.out | apply below_alloc | apply pw_below_drewN | apply below_drew1) | exact HB.out)) hb); clear HB; have HB := n0_; clear n0_; (try clear hb); (try clear hb2); (try clear hk); (try clear hi)) | ((with_reducible refine gate_dst (N := 22) rfl ?_); refine Kd.R_lit (Kd.int .i64) _ 3 ?hg (N := 22) ?hd (xs := ([a1, a2] : List Int)) (inner := [.int .i64 a1, .int .i64 a2]) (ok := fun _ => True) (okp := fun _ => True) ?hr ?hp (fun _ hk => hk) trivial (Below.refl _ _) (Nat.le_refl _) (by simp) ?_; (case hd => rfl); (case hg => rfl); (case hr => first | (go_simp; done) | (go_simp; rfl)); (case hp => exact (Reps.one (show Kd.M (Kd.int .i64) _ _ _ a1 [.int .i64 a1] from rfl) (Reps.one (show Kd.M (Kd.int .i64) _ _ _ a2 [.int .i64 a2] from rfl) (Reps.none _ _)))); intro v147 w16 ho17 hb hg_ hnew_; clear hg_ hnew_; (first | rw [← Ny146.out] at ho17 | (simp only [Int.reduceToNat] at ho17; rw [← Ny146.out] at ho17)); have n0_ := Aside0.mk (Kd.R_lower ho17 (below_size (by repeat (first | (with_reducible first | exact HB.out | apply below_alloc | apply pw_below_drewN | apply below_drew1) | exact HB.out)))); have n1_ := Aside0.mk (below_step (by repeat (first | (with_reducible first | exact HB.out | apply below_alloc | apply pw_below_drewN | apply below_drew1) | exact HB.out)) hb); clear HB; have HO148 := n0_; have HB := n1_; clear n0_ n1_; clear hb ho17; obtain ⟨Ao18, co18, eo18⟩ := Kd.R_slice HO148.out; subst eo18) | ((with_reducible refine gate_callee (f := 21) rfl ?_); refine goesL_ (some 23) rfl rfl Try.func21 (by kernel_rfl) rfl #[.slice Ao18 y146.length co18] rfl (by (try simp only [List.map_toArray, List.map_cons, List.map_nil]); first | done | rfl | (simp only [List.length_drop, List.length_take]; rfl)) ?_; (with_reducible refine (quorum_inside.calls _ _ y146 true _ ?side1 ?side2 A6.out).mono ?_); (case side1 => repeat (first | exact (Kd.R_reads' HO148.out).2.2 | (with_reducible refine Kd.C_alloc ?_ _) | (with_reducible refine Kd.C_drewN ?_ _) | (with_reducible refine Kd.C_drew ?_))); (case side2 => exact (Kd.R_reads' HO148.out).2.1); rintro e w19 ⟨rfl, hb⟩; refine ⟨_, rfl, ?_⟩; have n0_ := Aside0.mk (Kd.R_below (by (with_reducible repeat (first | apply Kd.R_alloc | apply Kd.R_drewN | apply Kd.R_drew)); exact HO148.out) hb); have n1_ := Aside0.mk (below_step (by repeat (first | (with_reducible first | exact HB.out | apply below_alloc | apply pw_below_drewN | apply below_drew1) | exact HB.out)) hb); clear HO148; clear HB; have HO148 := n0_; have HB := n1_; clear n0_ n1_; (try clear hb); (try clear hb2); (try clear hk); (try clear hi)))
        go_ret2
        exact ⟨by first | rfl | (simp [errW_none, errW_some] <;> rfl) | (simp only [← hji14]; first | rfl | (simp [errW_none, errW_some] <;> rfl)) | (simp [*, errW_none, errW_some] <;> rfl), by repeat (first | (with_reducible first | exact HB.out | apply below_alloc | apply pw_below_drewN | apply below_drew1) | exact HB.out)⟩
    · replace c7 := Bool.eq_false_iff.mpr c7
      subst c7
      have H1 : (some (0, 4)) = some (r1, r2) := by rw [if_neg (show ¬ (false = true) by decide)] at H; exact H
      clear H
      have H := H1
      clear H1
      simp only [Option.some.injEq, Prod.mk.injEq] at H
      obtain ⟨rfl, rfl⟩ := H
      go_enter Try.func12, Try.ntmps12
      go_wp2_with (first | ((with_reducible refine gate_callee (f := 8) rfl ?_); refine goesL_ (some 12) rfl rfl Try.func8 (by kernel_rfl) rfl #[.slice A0 l0.length c0] rfl (by (try simp only [List.map_toArray, List.map_cons, List.map_nil]); first | done | rfl | (simp only [List.length_drop, List.length_take]; rfl)) ?_; (with_reducible refine (quorum_Agreed.calls _ _ l0 t144 t145 _ ?side1 ?side2 A4.out).mono ?_); (case side1 => repeat (first | exact HR0.out | (with_reducible refine Kd.C_alloc ?_ _) | (with_reducible refine Kd.C_drewN ?_ _) | (with_reducible refine Kd.C_drew ?_))); (case side2 => exact HC0.out); rintro e w20 ⟨rfl, hb⟩; refine ⟨_, rfl, ?_⟩; have n0_ := Aside0.mk (below_step (by repeat (first | (with_reducible first | exact HB.out | apply below_alloc | apply pw_below_drewN | apply below_drew1) | exact HB.out)) hb); clear HB; have HB := n0_; clear n0_; (try clear hb); (try clear hb2); (try clear hk); (try clear hi)) | ((with_reducible refine gate_dst (N := 22) rfl ?_); refine Kd.R_lit (Kd.int .i64) _ 3 ?hg (N := 22) ?hd (xs := ([a1, a2] : List Int)) (inner := [.int .i64 a1, .int .i64 a2]) (ok := fun _ => True) (okp := fun _ => True) ?hr ?hp (fun _ hk => hk) trivial (Below.refl _ _) (Nat.le_refl _) (by simp) ?_; (case hd => rfl); (case hg => rfl); (case hr => first | (go_simp; done) | (go_simp; rfl)); (case hp => exact (Reps.one (show Kd.M (Kd.int .i64) _ _ _ a1 [.int .i64 a1] from rfl) (Reps.one (show Kd.M (Kd.int .i64) _ _ _ a2 [.int .i64 a2] from rfl) (Reps.none _ _)))); intro v147 w21 ho22 hb hg_ hnew_; clear hg_ hnew_; (first | rw [← Ny146.out] at ho22 | (simp only [Int.reduceToNat] at ho22; rw [← Ny146.out] at ho22)); have n0_ := Aside0.mk (Kd.R_lower ho22 (below_size (by repeat (first | (with_reducible first | exact HB.out | apply below_alloc | apply pw_below_drewN | apply below_drew1) | exact HB.out)))); have n1_ := Aside0.mk (below_step (by repeat (first | (with_reducible first | exact HB.out | apply below_alloc | apply pw_below_drewN | apply below_drew1) | exact HB.out)) hb); clear HB; have HO148 := n0_; have HB := n1_; clear n0_ n1_; clear hb ho22; obtain ⟨Ao23, co23, eo23⟩ := Kd.R_slice HO148.out; subst eo23) | ((with_reducible refine gate_callee (f := 21) rfl ?_); refine goesL_ (some 23) rfl rfl Try.func21 (by kernel_rfl) rfl #[.slice Ao23 y146.length co23] rfl (by (try simp only [List.map_toArray, List.map_cons, List.map_nil]); first | done | rfl | (simp only [List.length_drop, List.length_take]; rfl)) ?_; (with_reducible refine (quorum_inside.calls _ _ y146 false _ ?side1 ?side2 A6.out).mono ?_); (case side1 => repeat (first | exact (Kd.R_reads' HO148.out).2.2 | (with_reducible refine Kd.C_alloc ?_ _) | (with_reducible refine Kd.C_drewN ?_ _) | (with_reducible refine Kd.C_drew ?_))); (case side2 => exact (Kd.R_reads' HO148.out).2.1); rintro e w24 ⟨rfl, hb⟩; refine ⟨_, rfl, ?_⟩; have n0_ := Aside0.mk (Kd.R_below (by (with_reducible repeat (first | apply Kd.R_alloc | apply Kd.R_drewN | apply Kd.R_drew)); exact HO148.out) hb); have n1_ := Aside0.mk (below_step (by repeat (first | (with_reducible first | exact HB.out | apply below_alloc | apply pw_below_drewN | apply below_drew1) | exact HB.out)) hb); clear HO148; clear HB; have HO148 := n0_; have HB := n1_; clear n0_ n1_; (try clear hb); (try clear hb2); (try clear hk); (try clear hi)))
      go_ret2
      exact ⟨by first | rfl | (simp [errW_none, errW_some] <;> rfl) | (simp [*, errW_none, errW_some] <;> rfl), by repeat (first | (with_reducible first | exact HB.out | apply below_alloc | apply pw_below_drewN | apply below_drew1) | exact HB.out)⟩
  · rw [if_neg c5] at H
    have c5b0 : (t145 == 0) = false := beq_eq_false_iff_ne.mpr c5
    have c5b1 : (t145 != 0) = true := bne_iff_ne.mpr c5
    simp only [Option.some.injEq, Prod.mk.injEq] at H
    obtain ⟨rfl, rfl⟩ := H
    go_enter Try.func12, Try.ntmps12
    go_wp2_with (first | ((with_reducible refine gate_callee (f := 8) rfl ?_); refine goesL_ (some 12) rfl rfl Try.func8 (by kernel_rfl) rfl #[.slice A0 l0.length c0] rfl (by (try simp only [List.map_toArray, List.map_cons, List.map_nil]); first | done | rfl | (simp only [List.length_drop, List.length_take]; rfl)) ?_; (with_reducible refine (quorum_Agreed.calls _ _ l0 t144 t145 _ ?side1 ?side2 A4.out).mono ?_); (case side1 => repeat (first | exact HR0.out | (with_reducible refine Kd.C_alloc ?_ _) | (with_reducible refine Kd.C_drewN ?_ _) | (with_reducible refine Kd.C_drew ?_))); (case side2 => exact HC0.out); rintro e w25 ⟨rfl, hb⟩; refine ⟨_, rfl, ?_⟩; have n0_ := Aside0.mk (below_step (by repeat (first | (with_reducible first | exact HB.out | apply below_alloc | apply pw_below_drewN | apply below_drew1) | exact HB.out)) hb); clear HB; have HB := n0_; clear n0_; (try clear hb); (try clear hb2); (try clear hk); (try clear hi)))
    go_ret2
    exact ⟨by first | rfl | (simp [errW_none, errW_some] <;> rfl) | (simp [*, errW_none, errW_some] <;> rfl), by repeat (first | (with_reducible first | exact HB.out | apply below_alloc | apply pw_below_drewN | apply below_drew1) | exact HB.out)⟩

/-! ### transeptlaw14_QuorumGrows: function 5 -/
def transeptlaw14_QuorumGrows.l0 : Nat → List Int → Int → Int → Int → Int → Int → Int → Int → Option (Bool)
  | 0, _, _, _, _, _, _, _, _ => none
  | k + 1, x0, x3, x4, x11, x15, x16, x17, x18 => if x18 < (x0.length : Int) then (if 0 ≤ x18 then (if (rd x0 x18) ≥ x11 then (transeptlaw14_QuorumGrows.l0 k x0 x3 x4 x11 x15 x16 (wrap64 (x17 + 1)) (wrap64 (x18 + 1))) else (transeptlaw14_QuorumGrows.l0 k x0 x3 x4 x11 x15 x16 x17 (wrap64 (x18 + 1)))) else (none)) else ((quorum_Commit.f x0 x3 x4).bind fun bt162 => ((transeptlaw14_num.f bt162.2).bind fun t164 => (if t164 = 0 then (if bt162.1 < x3 then (none) else ((transeptlaw14_num.f x16).bind fun t165 => (if t165 = 0 then (if x15 ≥ x11 then (some (decide ((wrap64 (2 * x17)) > (x0.length : Int)))) else (none)) else (none)))) else ((transeptlaw14_num.f x16).bind fun t166 => (if t166 = 0 then (if x15 ≥ x11 then (some (decide ((wrap64 (2 * x17)) > (x0.length : Int)))) else (none)) else (none))))))
def transeptlaw14_QuorumGrows.f (k : Nat) (l0 : List Int) (a1 : Int) (a2 : Int) (a3 : Int) (a4 : Int) : Option (Bool) := (transeptlaw14_alive.f).bind fun t150 => (if t150 = true then ((quorum_Agreed.f l0).bind fun bt151 => ((transeptlaw14_num.f bt151.2).bind fun t153 => (if t153 = 0 then ((transeptplain_CopyInts.f l0).bind fun t154 => (if (t154.length : Int) = 0 then (none) else (if 0 ≤ (Int.tmod (wrap64 ((Int.tmod a1 (t154.length : Int)) + (t154.length : Int))) (t154.length : Int)) then (if (Int.tmod (wrap64 ((Int.tmod a1 (t154.length : Int)) + (t154.length : Int))) (t154.length : Int)) < (t154.length : Int) then ((quorum_Agreed.f (t154.set ((Int.tmod (wrap64 ((Int.tmod a1 (t154.length : Int)) + (t154.length : Int))) (t154.length : Int)) : Int).toNat (mn (wrap64 ((rd t154 (Int.tmod (wrap64 ((Int.tmod a1 (t154.length : Int)) + (t154.length : Int))) (t154.length : Int))) + (Int.tmod (wrap64 ((Int.tmod a2 1000) + 1000)) 1000))) 1099511627776))).bind fun bt159 => (transeptlaw14_QuorumGrows.l0 k l0 a3 a4 bt151.1 bt159.1 bt159.2 0 0)) else (none)) else (none)))) else (some (bt151.1 == 0))))) else (none))
theorem transeptlaw14_QuorumGrows.mono_l : ∀ k, (∀ y0 y1 y2 y3 y4 y5 y6 y7, LeO (transeptlaw14_QuorumGrows.l0 k y0 y1 y2 y3 y4 y5 y6 y7) (transeptlaw14_QuorumGrows.l0 (k + 1) y0 y1 y2 y3 y4 y5 y6 y7))
  | 0 => fun _ _ _ _ _ _ _ _ r h => by simp [transeptlaw14_QuorumGrows.l0] at h
  | k + 1 => by
    have ih0 := transeptlaw14_QuorumGrows.mono_l k
    · intro y0 y1 y2 y3 y4 y5 y6 y7
      unfold transeptlaw14_QuorumGrows.l0
      repeat' first
      | (with_reducible exact ih0 _ _ _ _ _ _ _ _)
      | (with_reducible exact LeO.refl _)
      | (with_reducible exact LeO.none _)
      | (with_reducible refine LeO.ite ?_ ?_)
      | (with_reducible refine LeO.bind ?_ (fun _ => ?_))
      | exact ih0 _ _ _ _ _ _ _ _
      | exact LeO.none _
      | refine LeO.ite ?_ ?_
      | refine LeO.bind ?_ (fun _ => ?_)
theorem transeptlaw14_QuorumGrows.mono : ∀ a0 a1 a2 a3 a4 k, LeO (transeptlaw14_QuorumGrows.f k a0 a1 a2 a3 a4) (transeptlaw14_QuorumGrows.f (k + 1) a0 a1 a2 a3 a4) := by
  intro a0 a1 a2 a3 a4 k
  have ih0 := transeptlaw14_QuorumGrows.mono_l k
  unfold transeptlaw14_QuorumGrows.f
  repeat' first
      | (with_reducible exact ih0 _ _ _ _ _ _ _ _)
      | (with_reducible exact LeO.refl _)
      | (with_reducible exact LeO.none _)
      | (with_reducible refine LeO.ite ?_ ?_)
      | (with_reducible refine LeO.bind ?_ (fun _ => ?_))
      | exact ih0 _ _ _ _ _ _ _ _
      | exact LeO.none _
      | refine LeO.ite ?_ ?_
      | refine LeO.bind ?_ (fun _ => ?_)
set_option maxHeartbeats 8000000 in
set_option maxRecDepth 100000 in
theorem transeptlaw14_QuorumGrows.calls (k : Nat) (A0 : Option Addr) (c0 : Nat) (l0 : List Int) (a1 : Int) (a2 : Int) (a3 : Int) (a4 : Int) (r : Bool) (w : World) (hr0 : Kd.C (Kd.int .i64) w A0 l0.length l0) (hc0 : l0.length ≤ c0) (h : transeptlaw14_QuorumGrows.f k l0 a1 a2 a3 a4 = some r) :
    Calls Try.prog 5 #[.slice A0 l0.length c0, .int .i64 a1, .int .i64 a2, .int .i64 a3, .int .i64 a4] w fun e w' => e = .returned (.bool r) ∧ Below w.heap.size w w' := by
  have HR0 := Aside0.mk hr0
  have HC0 := Aside0.mk hc0
  clear hr0 hc0
  have HB := Aside0.mk (Below.refl w.heap.size w)
  have H : ((transeptlaw14_alive.f).bind fun t150 => (if t150 = true then ((quorum_Agreed.f l0).bind fun bt151 => ((transeptlaw14_num.f bt151.2).bind fun t153 => (if t153 = 0 then ((transeptplain_CopyInts.f l0).bind fun t154 => (if (t154.length : Int) = 0 then (none) else (if 0 ≤ (Int.tmod (wrap64 ((Int.tmod a1 (t154.length : Int)) + (t154.length : Int))) (t154.length : Int)) then (if (Int.tmod (wrap64 ((Int.tmod a1 (t154.length : Int)) + (t154.length : Int))) (t154.length : Int)) < (t154.length : Int) then ((quorum_Agreed.f (t154.set ((Int.tmod (wrap64 ((Int.tmod a1 (t154.length : Int)) + (t154.length : Int))) (t154.length : Int)) : Int).toNat (mn (wrap64 ((rd t154 (Int.tmod (wrap64 ((Int.tmod a1 (t154.length : Int)) + (t154.length : Int))) (t154.length : Int))) + (Int.tmod (wrap64 ((Int.tmod a2 1000) + 1000)) 1000))) 1099511627776))).bind fun bt159 => (transeptlaw14_QuorumGrows.l0 k l0 a3 a4 bt151.1 bt159.1 bt159.2 0 0)) else (none)) else (none)))) else (some (bt151.1 == 0))))) else (none))) = some r := h
  clear h
  replace H := Option.bind_eq_some_iff.mp H
  obtain ⟨t150, A60, H⟩ := H
  replace H : (if t150 = true then ((quorum_Agreed.f l0).bind fun bt151 => ((transeptlaw14_num.f bt151.2).bind fun t153 => (if t153 = 0 then ((transeptplain_CopyInts.f l0).bind fun t154 => (if (t154.length : Int) = 0 then (none) else (if 0 ≤ (Int.tmod (wrap64 ((Int.tmod a1 (t154.length : Int)) + (t154.length : Int))) (t154.length : Int)) then (if (Int.tmod (wrap64 ((Int.tmod a1 (t154.length : Int)) + (t154.length : Int))) (t154.length : Int)) < (t154.length : Int) then ((quorum_Agreed.f (t154.set ((Int.tmod (wrap64 ((Int.tmod a1 (t154.length : Int)) + (t154.length : Int))) (t154.length : Int)) : Int).toNat (mn (wrap64 ((rd t154 (Int.tmod (wrap64 ((Int.tmod a1 (t154.length : Int)) + (t154.length : Int))) (t154.length : Int))) + (Int.tmod (wrap64 ((Int.tmod a2 1000) + 1000)) 1000))) 1099511627776))).bind fun bt159 => (transeptlaw14_QuorumGrows.l0 k l0 a3 a4 bt151.1 bt159.1 bt159.2 0 0)) else (none)) else (none)))) else (some (bt151.1 == 0))))) else (none)) = some r := H
  have A6 := Aside0.mk A60
  clear A60
  by_cases c7 : t150 = true
  · subst c7
    have H1 : ((quorum_Agreed.f l0).bind fun bt151 => ((transeptlaw14_num.f bt151.2).bind fun t153 => (if t153 = 0 then ((transeptplain_CopyInts.f l0).bind fun t154 => (if (t154.length : Int) = 0 then (none) else (if 0 ≤ (Int.tmod (wrap64 ((Int.tmod a1 (t154.length : Int)) + (t154.length : Int))) (t154.length : Int)) then (if (Int.tmod (wrap64 ((Int.tmod a1 (t154.length : Int)) + (t154.length : Int))) (t154.length : Int)) < (t154.length : Int) then ((quorum_Agreed.f (t154.set ((Int.tmod (wrap64 ((Int.tmod a1 (t154.length : Int)) + (t154.length : Int))) (t154.length : Int)) : Int).toNat (mn (wrap64 ((rd t154 (Int.tmod (wrap64 ((Int.tmod a1 (t154.length : Int)) + (t154.length : Int))) (t154.length : Int))) + (Int.tmod (wrap64 ((Int.tmod a2 1000) + 1000)) 1000))) 1099511627776))).bind fun bt159 => (transeptlaw14_QuorumGrows.l0 k l0 a3 a4 bt151.1 bt159.1 bt159.2 0 0)) else (none)) else (none)))) else (some (bt151.1 == 0))))) = some r := by rw [if_pos rfl] at H; exact H
    clear H
    have H := H1
    clear H1
    replace H := Option.bind_eq_some_iff.mp H
    obtain ⟨⟨t151, t152⟩, A80, H⟩ := H
    replace H : ((transeptlaw14_num.f t152).bind fun t153 => (if t153 = 0 then ((transeptplain_CopyInts.f l0).bind fun t154 => (if (t154.length : Int) = 0 then (none) else (if 0 ≤ (Int.tmod (wrap64 ((Int.tmod a1 (t154.length : Int)) + (t154.length : Int))) (t154.length : Int)) then (if (Int.tmod (wrap64 ((Int.tmod a1 (t154.length : Int)) + (t154.length : Int))) (t154.length : Int)) < (t154.length : Int) then ((quorum_Agreed.f (t154.set ((Int.tmod (wrap64 ((Int.tmod a1 (t154.length : Int)) + (t154.length : Int))) (t154.length : Int)) : Int).toNat (mn (wrap64 ((rd t154 (Int.tmod (wrap64 ((Int.tmod a1 (t154.length : Int)) + (t154.length : Int))) (t154.length : Int))) + (Int.tmod (wrap64 ((Int.tmod a2 1000) + 1000)) 1000))) 1099511627776))).bind fun bt159 => (transeptlaw14_QuorumGrows.l0 k l0 a3 a4 t151 bt159.1 bt159.2 0 0)) else (none)) else (none)))) else (some (t151 == 0)))) = some r := H
    have A8 := Aside0.mk A80
    clear A80
    replace H := Option.bind_eq_some_iff.mp H
    obtain ⟨t153, A90, H⟩ := H
    replace H : (if t153 = 0 then ((transeptplain_CopyInts.f l0).bind fun t154 => (if (t154.length : Int) = 0 then (none) else (if 0 ≤ (Int.tmod (wrap64 ((Int.tmod a1 (t154.length : Int)) + (t154.length : Int))) (t154.length : Int)) then (if (Int.tmod (wrap64 ((Int.tmod a1 (t154.length : Int)) + (t154.length : Int))) (t154.length : Int)) < (t154.length : Int) then ((quorum_Agreed.f (t154.set ((Int.tmod (wrap64 ((Int.tmod a1 (t154.length : Int)) + (t154.length : Int))) (t154.length : Int)) : Int).toNat (mn (wrap64 ((rd t154 (Int.tmod (wrap64 ((Int.tmod a1 (t154.length : Int)) + (t154.length : Int))) (t154.length : Int))) + (Int.tmod (wrap64 ((Int.tmod a2 1000) + 1000)) 1000))) 1099511627776))).bind fun bt159 => (transeptlaw14_QuorumGrows.l0 k l0 a3 a4 t151 bt159.1 bt159.2 0 0)) else (none)) else (none)))) else (some (t151 == 0))) = some r := H
    have A9 := Aside0.mk A90
    clear A90
    by_cases c10 : t153 = 0
    · rw [if_pos c10] at H
      have c10b0 : (t153 == 0) = true := beq_iff_eq.mpr c10
      have c10b1 : (t153 != 0) = false := bne_eq_false_iff_eq.mpr c10
      clear c10
      replace H := Option.bind_eq_some_iff.mp H
      obtain ⟨t154, A110, H⟩ := H
      replace H : (if (t154.length : Int) = 0 then (none) else (if 0 ≤ (Int.tmod (wrap64 ((Int.tmod a1 (t154.length : Int)) + (t154.length : Int))) (t154.length : Int)) then (if (Int.tmod (wrap64 ((Int.tmod a1 (t154.length : Int)) + (t154.length : Int))) (t154.length : Int)) < (t154.length : Int) then ((quorum_Agreed.f (t154.set ((Int.tmod (wrap64 ((Int.tmod a1 (t154.length : Int)) + (t154.length : Int))) (t154.length : Int)) : Int).toNat (mn (wrap64 ((rd t154 (Int.tmod (wrap64 ((Int.tmod a1 (t154.length : Int)) + (t154.length : Int))) (t154.length : Int))) + (Int.tmod (wrap64 ((Int.tmod a2 1000) + 1000)) 1000))) 1099511627776))).bind fun bt159 => (transeptlaw14_QuorumGrows.l0 k l0 a3 a4 t151 bt159.1 bt159.2 0 0)) else (none)) else (none))) = some r := H
      have A11 := Aside0.mk A110
      clear A110
      by_cases c12 : (t154.length : Int) = 0
      · rw [if_pos c12] at H
        exact absurd H (by simp)
      · rw [if_neg c12] at H
        have c12b0 : ((t154.length : Int) == 0) = false := beq_eq_false_iff_ne.mpr c12
        have c12b1 : ((t154.length : Int) != 0) = true := bne_iff_ne.mpr c12
        have c12b2 : ¬ (t154 = []) := fun h_ => c12 (by rw [h_]; rfl)
        obtain ⟨ji13, hji13⟩ : ∃ j_ : Int, (Int.tmod (wrap64 ((Int.tmod a1 (t154.length : Int)) + (t154.length : Int))) (t154.length : Int)) = j_ := ⟨_, rfl⟩
        replace H : (if 0 ≤ (ji13) then (if (ji13) < (t154.length : Int) then ((quorum_Agreed.f (t154.set ((ji13) : Int).toNat (mn (wrap64 ((rd t154 (ji13)) + (Int.tmod (wrap64 ((Int.tmod a2 1000) + 1000)) 1000))) 1099511627776))).bind fun bt159 => (transeptlaw14_QuorumGrows.l0 k l0 a3 a4 t151 bt159.1 bt159.2 0 0)) else (none)) else (none)) = some r := by first | (rw [hji13] at H; exact H) | (simp only [hji13] at H ⊢; exact H)
        (try rw [hji13] at A6)
        (try rw [hji13] at A8)
        (try rw [hji13] at A9)
        (try rw [hji13] at A11)
        by_cases c14 : 0 ≤ (ji13)
        · rw [if_pos c14] at H
          have c14b0 : decide (0 ≤ (ji13)) = true := decide_eq_true c14
          clear c14
          by_cases c15 : (ji13) < (t154.length : Int)
          · rw [if_pos c15] at H
            have c15b0 : decide ((ji13) < (t154.length : Int)) = true := decide_eq_true c15
            clear c15
            obtain ⟨ji16, hji16⟩ : ∃ j_ : Int, (mn (wrap64 ((rd t154 (ji13)) + (Int.tmod (wrap64 ((Int.tmod a2 1000) + 1000)) 1000))) 1099511627776) = j_ := ⟨_, rfl⟩
            replace H : ((quorum_Agreed.f (t154.set ((ji13) : Int).toNat (ji16))).bind fun bt159 => (transeptlaw14_QuorumGrows.l0 k l0 a3 a4 t151 bt159.1 bt159.2 0 0)) = some r := by first | (rw [hji16] at H; exact H) | (simp only [hji16] at H ⊢; exact H)
            (try rw [hji16] at A6)
            (try rw [hji16] at A8)
            (try rw [hji16] at A9)
            (try rw [hji16] at A11)
            have hji16_ : (if 1099511627776 < (wrap64 ((rd t154 (ji13)) + (Int.tmod (wrap64 ((Int.tmod a2 1000) + 1000)) 1000))) then 1099511627776 else (wrap64 ((rd t154 (ji13)) + (Int.tmod (wrap64 ((Int.tmod a2 1000) + 1000)) 1000)))) = ji16 := hji16
            obtain ⟨y158, hy158⟩ : ∃ y_ : List Int, y_ = (t154.set ((ji13) : Int).toNat (ji16)) := ⟨_, rfl⟩
            replace H : ((quorum_Agreed.f y158).bind fun bt159 => (transeptlaw14_QuorumGrows.l0 k l0 a3 a4 t151 bt159.1 bt159.2 0 0)) = some r := by first | (rw [hy158]; with_reducible exact H) | (have H2_ := (Option.bind_some _ _).symm.trans H; rw [hy158]; with_reducible exact H2_) | (have H2_ := (Option.bind_some _ _).symm.trans H; with_reducible exact H2_) | with_reducible exact H | (rw [hy158]; exact H) | exact H
            have Ny158 := Aside0.mk hy158
            clear hy158
            replace H := Option.bind_eq_some_iff.mp H
            obtain ⟨⟨t159, t160⟩, A180, H⟩ := H
            replace H : (transeptlaw14_QuorumGrows.l0 k l0 a3 a4 t151 t159 t160 0 0) = some r := H
            have A18 := Aside0.mk A180
            clear A180
            have H' := Aside0.mk H
            clear H
            go_enter Try.func5, Try.ntmps5
            go_wp2_with (first | ((with_reducible refine gate_callee (f := 7) rfl ?_); refine goesL_ (some 21) rfl rfl Try.func7 (by kernel_rfl) rfl #[] rfl (by (try simp only [List.map_toArray, List.map_cons, List.map_nil]); first | done | rfl | (simp only [List.length_drop, List.length_take]; rfl)) ?_; (with_reducible refine (transeptlaw14_alive.calls  true _ A6.out).mono ?_); rintro e w19 ⟨rfl, hb⟩; refine ⟨_, rfl, ?_⟩; have n0_ := Aside0.mk (below_step (by repeat (first | (with_reducible first | exact HB.out | apply below_alloc | apply pw_below_drewN | apply below_drew1) | exact HB.out)) hb); clear HB; have HB := n0_; clear n0_; (try clear hb); (try clear hb2); (try clear hk); (try clear hi)) | ((with_reducible refine gate_callee (f := 8) rfl ?_); refine goesL_ (some 25) rfl rfl Try.func8 (by kernel_rfl) rfl #[.slice A0 l0.length c0] rfl (by (try simp only [List.map_toArray, List.map_cons, List.map_nil]); first | done | rfl | (simp only [List.length_drop, List.length_take]; rfl)) ?_; (with_reducible refine (quorum_Agreed.calls _ _ l0 t151 t152 _ ?side1 ?side2 A8.out).mono ?_); (case side1 => repeat (first | exact (Kd.C_below HR0.out HB.out) | (with_reducible refine Kd.C_alloc ?_ _) | (with_reducible refine Kd.C_drewN ?_ _) | (with_reducible refine Kd.C_drew ?_))); (case side2 => exact HC0.out); rintro e w20 ⟨rfl, hb⟩; refine ⟨_, rfl, ?_⟩; have n0_ := Aside0.mk (below_step (by repeat (first | (with_reducible first | exact HB.out | apply below_alloc | apply pw_below_drewN | apply below_drew1) | exact HB.out)) hb); clear HB; have HB := n0_; clear n0_; (try clear hb); (try clear hb2); (try clear hk); (try clear hi)) | ((with_reducible refine gate_callee (f := 10) rfl ?_); refine goesL_ (some 29) rfl rfl Try.func10 (by kernel_rfl) rfl #[.int .i64 t152] rfl (by (try simp only [List.map_toArray, List.map_cons, List.map_nil]); first | done | rfl | (simp only [List.length_drop, List.length_take]; rfl)) ?_; (with_reducible refine (transeptlaw14_num.calls t152 t153 _ A9.out).mono ?_); rintro e w' ⟨rfl, ⟨nd, rfl⟩⟩; refine ⟨_, rfl, ?_⟩; (try (rw [drewN_self w20]; generalize hq_ : World.drewN w20 _ = w20; have n0_ : Aside0 (Below w.heap.size w w20) := ⟨by rw [← hq_]; exact (by repeat (first | (with_reducible first | exact HB.out | apply below_alloc | apply pw_below_drewN | apply below_drew1) | exact HB.out))⟩; clear HB hq_; have HB := n0_; clear n0_))) | ((with_reducible refine gate_callee (f := 9) rfl ?_); refine goesL_ (some 34) rfl rfl Try.func9 (by kernel_rfl) rfl #[.slice A0 l0.length c0] rfl (by (try simp only [List.map_toArray, List.map_cons, List.map_nil]); first | done | rfl | (simp only [List.length_drop, List.length_take]; rfl)) ?_; (with_reducible refine (transeptplain_CopyInts.calls _ _ l0 t154 _ ?side1 ?side2 A11.out).mono ?_); (case side1 => repeat (first | exact (Kd.C_below HR0.out HB.out) | (with_reducible refine Kd.C_alloc ?_ _) | (with_reducible refine Kd.C_drewN ?_ _) | (with_reducible refine Kd.C_drew ?_))); (case side2 => exact HC0.out); rintro e w21 ⟨v155, rfl, ho0, hb⟩; refine ⟨_, rfl, ?_⟩; have n0_ := Aside0.mk (Kd.R_lower ho0 (below_size (by repeat (first | (with_reducible first | exact HB.out | apply below_alloc | apply pw_below_drewN | apply below_drew1) | exact HB.out)))); have n1_ := Aside0.mk (below_step (by repeat (first | (with_reducible first | exact HB.out | apply below_alloc | apply pw_below_drewN | apply below_drew1) | exact HB.out)) hb); clear HB; have HO156 := n0_; have HB := n1_; clear n0_ n1_; (try clear hb); (try clear hb2); (try clear hk); (try clear hi); (try clear ho0); obtain ⟨Ao22, co22, eo22⟩ := Kd.R_slice HO156.out; subst eo22; have p157 : 0 ≤ ((ji13) : Int) := of_decide_eq_true (by first | (with_reducible assumption) | assumption); have q157 : (ji13) < (t154.length : Int) := of_decide_eq_true (by first | (with_reducible assumption) | assumption); obtain ⟨ad157, e157, hx157_0⟩ := Kd.at_int (Kd.R_reads' HO156.out).2.2 (ji13) p157 q157; cases e157; replace p157 := eq_true p157; replace q157 := eq_true q157; have p17 : 0 ≤ ((ji13) : Int) := of_decide_eq_true (by first | (with_reducible assumption) | assumption); have q17 : ((ji13) : Int) < ((t154.length : Int) : Int) := of_decide_eq_true (by first | (with_reducible assumption) | assumption); obtain ⟨go17, co17, eo17, gb17, gl17, cl17, HG17⟩ := Kd.R_form HO156.out (by omega); (first | cases eo17 | (injection eo17 with ea_ en_ ec_; (first | subst ea_ | (injection ea_ with ea_; subst ea_)); subst ec_; clear en_)); have GB17 := Aside0.mk gb17; have GG17 := Aside0.mk HG17; clear gb17 gl17 HG17; (first | simp only [add_plain] at hx157_0 | skip); obtain ⟨hx17_0, hf17_0⟩ := Kd.R_celln 0 HO156.out ((ji13) : Int) p17 q17; replace p17 := eq_true p17; replace q17 := eq_true q17; obtain ⟨hy23_, hz23_⟩ := Kd.R_celln 0 HO156.out ((ji13) : Int) (of_decide_eq_true (by first | (with_reducible assumption) | assumption)) (of_decide_eq_true (by first | (with_reducible assumption) | assumption)); have HP23 := Kd.R_putg HO156.out ((ji13) : Int) ji16) | ((with_reducible refine gate_store (t := 3) (p := 57) rfl ?_); refine store_event (t := 3) (p := 57) (v := ?vo_w24) (w1 := (w21.setCell ⟨go17, ((ji13) : Int).toNat, none⟩ (.int .i64 ji16))) ?hg ?ho ?hn ?hr ?_; (case ho => rfl); (case hg => rfl); (case hn => rfl); (case hr => first | (go_simp; done) | (go_simp; rfl)); intro w24 hw; have hg : w21.grownBy w24 (some go17) := (by rw [hw]; exact HP23.2); have hp_ : Kd.R (Kd.int .i64) 3 w24 w.heap.size (fun _ => True) (.slice (some ⟨go17, 0, none⟩) t154.length co22) y158 := (by rw [hw, Ny158.out]; exact HP23.1); clear HP23; have n0_ := Aside0.mk (hp_); have n1_ := Aside0.mk ((by rw [hw]; exact below_set (HB.out) GB17.out : Below w.heap.size w w24)); clear HO156; clear HB; have HO156 := n0_; have HB := n1_; clear n0_ n1_; clear hg hw hp_) | ((with_reducible refine gate_callee (f := 8) rfl ?_); refine goesL_ (some 60) rfl rfl Try.func8 (by kernel_rfl) rfl #[.slice (some ⟨go17, 0, none⟩) y158.length co22] rfl (by (try simp only [List.map_toArray, List.map_cons, List.map_nil]); first | done | (rw [show y158.length = t154.length from (Kd.R_reads' HO156.out).1.symm] <;> rfl) | rfl | (simp only [List.length_drop, List.length_take]; rfl)) ?_; (with_reducible refine (quorum_Agreed.calls _ _ y158 t159 t160 _ ?side1 ?side2 A18.out).mono ?_); (case side1 => repeat (first | exact (Kd.R_reads' HO156.out).2.2 | (with_reducible refine Kd.C_alloc ?_ _) | (with_reducible refine Kd.C_drewN ?_ _) | (with_reducible refine Kd.C_drew ?_))); (case side2 => rw [show y158.length = t154.length from (Kd.R_reads' HO156.out).1.symm]; exact (Kd.R_reads' HO156.out).2.1); rintro e w25 ⟨rfl, hb⟩; refine ⟨_, rfl, ?_⟩; have n0_ := Aside0.mk (Kd.R_below (by (with_reducible repeat (first | apply Kd.R_alloc | apply Kd.R_drewN | apply Kd.R_drew)); exact HO156.out) hb); have n1_ := Aside0.mk (below_step (by repeat (first | (with_reducible first | exact HB.out | apply below_alloc | apply pw_below_drewN | apply below_drew1) | exact HB.out)) hb); clear HO156; clear HB; have HO156 := n0_; have HB := n1_; clear n0_ n1_; (try clear hb); (try clear hb2); (try clear hk); (try clear hi)))
            go_loopg [17, 18] k (fun kq v17 v18 w' => ∃ (x17_1 : Int) (x18_1 : Int), v17 = .int .i64 x17_1 ∧ v18 = .int .i64 x18_1 ∧ Aside0 (transeptlaw14_QuorumGrows.l0 kq l0 a3 a4 t151 t159 t160 x17_1 x18_1 = some r) ∧ Aside0 (kq ≤ k) ∧ Aside0 (Below w.heap.size w w'))
            case atStart => exact ⟨(0), (0), (by first | rfl | (simp; done) | (simp [*]; done)), (by first | rfl | (simp; done) | (simp [*]; done)), H', ⟨Nat.le_refl _⟩, ⟨by repeat (first | (with_reducible first | exact HB.out | apply below_alloc | apply pw_below_drewN | apply below_drew1) | exact HB.out)⟩⟩
            case round =>
              clear H'
              try clear c1
              try clear p1
              try clear q1
              try clear hx1
              try clear p2
              try clear c5
              try clear p6
              try clear c7
              try clear c8
              try clear c9
              try clear c10
              try clear c10b0
              try clear c10b1
              try clear c12
              try clear c12b0
              try clear c12b1
              try clear c12b2
              try clear c14
              try clear c14b0
              try clear c15
              try clear c15b0
              try clear p15
              try clear q15
              try clear hx15
              try clear p17
              try clear q17
              try clear hx17
              try clear hf17
              try clear hx157_0
              try clear hx17_0
              try clear p157
              try clear p17
              try clear q157
              try clear q17
              obtain ⟨x17_1, x18_1, rfl, rfl, HA, HK1, HB⟩ := hrel
              cases gk with
              | zero => exact absurd HA.out (by simp [transeptlaw14_QuorumGrows.l0])
              | succ k1 =>
                have H := HA.out
                clear HA
                simp only [transeptlaw14_QuorumGrows.l0] at H
                by_cases c26 : x18_1 < (l0.length : Int)
                · rw [if_pos c26] at H
                  have c26b0 : decide (x18_1 < (l0.length : Int)) = true := decide_eq_true c26
                  clear c26
                  by_cases c27 : 0 ≤ x18_1
                  · rw [if_pos c27] at H
                    have c27b0 : decide (0 ≤ x18_1) = true := decide_eq_true c27
                    clear c27
                    by_cases c28 : (rd l0 x18_1) ≥ t151
                    · rw [if_pos c28] at H
                      have c28b0 : decide (t151 ≤ (rd l0 x18_1)) = true := decide_eq_true c28
                      clear c28
                      have H' := Aside0.mk H
                      clear H
                      have p161 : 0 ≤ (x18_1 : Int) := of_decide_eq_true (by first | (with_reducible assumption) | assumption)
                      have q161 : x18_1 < (l0.length : Int) := of_decide_eq_true (by first | (with_reducible assumption) | assumption)
                      obtain ⟨ad161, e161, hx161_0⟩ := Kd.at_int HR0.out x18_1 p161 q161
                      cases e161
                      replace hx161_0 := (HB.out.cell (World.block_lt_of_cell? w _ hx161_0)).trans hx161_0
                      replace p161 := eq_true p161
                      replace q161 := eq_true q161
                      go_wp2
                      go_roundg k1
                      case measure => have := HK1.out; omega
                      case rel => exact ⟨(wrap64 (x17_1 + 1)), (wrap64 (x18_1 + 1)), (by first | rfl | (simp; done) | (simp [*]; done)), (by first | rfl | (simp; done) | (simp [*]; done)), H', ⟨by have := HK1.out; omega⟩, ⟨by repeat (first | (with_reducible first | exact HB.out | apply below_alloc | apply pw_below_drewN | apply below_drew1) | exact HB.out)⟩⟩
                    · rw [if_neg c28] at H
                      have c28b0 : decide (t151 ≤ (rd l0 x18_1)) = false := decide_eq_false c28
                      clear c28
                      have H' := Aside0.mk H
                      clear H
                      have p161 : 0 ≤ (x18_1 : Int) := of_decide_eq_true (by first | (with_reducible assumption) | assumption)
                      have q161 : x18_1 < (l0.length : Int) := of_decide_eq_true (by first | (with_reducible assumption) | assumption)
                      obtain ⟨ad161, e161, hx161_0⟩ := Kd.at_int HR0.out x18_1 p161 q161
                      cases e161
                      replace hx161_0 := (HB.out.cell (World.block_lt_of_cell? w _ hx161_0)).trans hx161_0
                      replace p161 := eq_true p161
                      replace q161 := eq_true q161
                      go_wp2
                      go_roundg k1
                      case measure => have := HK1.out; omega
                      case rel => exact ⟨(x17_1), (wrap64 (x18_1 + 1)), (by first | rfl | (simp; done) | (simp [*]; done)), (by first | rfl | (simp; done) | (simp [*]; done)), H', ⟨by have := HK1.out; omega⟩, ⟨by repeat (first | (with_reducible first | exact HB.out | apply below_alloc | apply pw_below_drewN | apply below_drew1) | exact HB.out)⟩⟩
                  · rw [if_neg c27] at H
                    exact absurd H (by simp)
                · rw [if_neg c26] at H
                  have c26b0 : decide (x18_1 < (l0.length : Int)) = false := decide_eq_false c26
                  clear c26
                  replace H := Option.bind_eq_some_iff.mp H
                  obtain ⟨⟨t162, t163⟩, A290, H⟩ := H
                  replace H : ((transeptlaw14_num.f t163).bind fun t164 => (if t164 = 0 then (if t162 < a3 then (none) else ((transeptlaw14_num.f t160).bind fun t165 => (if t165 = 0 then (if t159 ≥ t151 then (some (decide ((wrap64 (2 * x17_1)) > (l0.length : Int)))) else (none)) else (none)))) else ((transeptlaw14_num.f t160).bind fun t166 => (if t166 = 0 then (if t159 ≥ t151 then (some (decide ((wrap64 (2 * x17_1)) > (l0.length : Int)))) else (none)) else (none))))) = some r := H
                  have A29 := Aside0.mk A290
                  clear A290
                  replace H := Option.bind_eq_some_iff.mp H
                  obtain ⟨t164, A300, H⟩ := H
                  replace H : (if t164 = 0 then (if t162 < a3 then (none) else ((transeptlaw14_num.f t160).bind fun t165 => (if t165 = 0 then (if t159 ≥ t151 then (some (decide ((wrap64 (2 * x17_1)) > (l0.length : Int)))) else (none)) else (none)))) else ((transeptlaw14_num.f t160).bind fun t166 => (if t166 = 0 then (if t159 ≥ t151 then (some (decide ((wrap64 (2 * x17_1)) > (l0.length : Int)))) else (none)) else (none)))) = some r := H
                  have A30 := Aside0.mk A300
                  clear A300
                  by_cases c31 : t164 = 0
                  · rw [if_pos c31] at H
                    have c31b0 : (t164 == 0) = true := beq_iff_eq.mpr c31
                    have c31b1 : (t164 != 0) = false := bne_eq_false_iff_eq.mpr c31
                    clear c31
                    by_cases c32 : t162 < a3
                    · rw [if_pos c32] at H
                      exact absurd H (by simp)
                    · rw [if_neg c32] at H
                      have c32b0 : decide (t162 < a3) = false := decide_eq_false c32
                      clear c32
                      replace H := Option.bind_eq_some_iff.mp H
                      obtain ⟨t165, A330, H⟩ := H
                      replace H : (if t165 = 0 then (if t159 ≥ t151 then (some (decide ((wrap64 (2 * x17_1)) > (l0.length : Int)))) else (none)) else (none)) = some r := H
                      have A33 := Aside0.mk A330
                      clear A330
                      by_cases c34 : t165 = 0
                      · rw [if_pos c34] at H
                        have c34b0 : (t165 == 0) = true := beq_iff_eq.mpr c34
                        have c34b1 : (t165 != 0) = false := bne_eq_false_iff_eq.mpr c34
                        clear c34
                        by_cases c35 : t159 ≥ t151
                        · rw [if_pos c35] at H
                          have c35b0 : decide (t151 ≤ t159) = true := decide_eq_true c35
                          clear c35
                          obtain rfl := Option.some.inj H
                          go_wp2_with (first | ((with_reducible refine gate_callee (f := 12) rfl ?_); refine goesL_ (some 81) rfl rfl Try.func12 (by kernel_rfl) rfl #[.slice A0 l0.length c0, .int .i64 a3, .int .i64 a4] rfl (by (try simp only [List.map_toArray, List.map_cons, List.map_nil]); first | done | rfl | (simp only [List.length_drop, List.length_take]; rfl)) ?_; (with_reducible refine (quorum_Commit.calls _ _ l0 a3 a4 t162 t163 _ ?side1 ?side2 A29.out).mono ?_); (case side1 => repeat (first | exact (Kd.C_below HR0.out HB.out) | (with_reducible refine Kd.C_alloc ?_ _) | (with_reducible refine Kd.C_drewN ?_ _) | (with_reducible refine Kd.C_drew ?_))); (case side2 => exact HC0.out); rintro e w36 ⟨rfl, hb⟩; refine ⟨_, rfl, ?_⟩; have n0_ := Aside0.mk (below_step (by repeat (first | (with_reducible first | exact HB.out | apply below_alloc | apply pw_below_drewN | apply below_drew1) | exact HB.out)) hb); clear HB; have HB := n0_; clear n0_; (try clear hb); (try clear hb2); (try clear hk); (try clear hi)) | ((with_reducible refine gate_callee (f := 10) rfl ?_); refine goesL_ (some 85) rfl rfl Try.func10 (by kernel_rfl) rfl #[.int .i64 t163] rfl (by (try simp only [List.map_toArray, List.map_cons, List.map_nil]); first | done | rfl | (simp only [List.length_drop, List.length_take]; rfl)) ?_; (with_reducible refine (transeptlaw14_num.calls t163 t164 _ A30.out).mono ?_); rintro e w' ⟨rfl, ⟨nd, rfl⟩⟩; refine ⟨_, rfl, ?_⟩) | ((with_reducible refine gate_callee (f := 10) rfl ?_); refine goesL_ (some 93) rfl rfl Try.func10 (by kernel_rfl) rfl #[.int .i64 t160] rfl (by (try simp only [List.map_toArray, List.map_cons, List.map_nil]); first | done | rfl | (simp only [List.length_drop, List.length_take]; rfl)) ?_; (with_reducible refine (transeptlaw14_num.calls t160 t165 _ A33.out).mono ?_); rintro e w' ⟨rfl, ⟨nd, rfl⟩⟩; refine ⟨_, rfl, ?_⟩))
                          go_ret
                          exact ⟨by first | rfl | (simp [errW_none, errW_some] <;> rfl) | (simp only [← hji13, ← hji16]; first | rfl | (simp [errW_none, errW_some] <;> rfl)) | (simp [*, errW_none, errW_some] <;> rfl), by repeat (first | (with_reducible first | exact HB.out | apply below_alloc | apply pw_below_drewN | apply below_drew1) | exact HB.out)⟩
                        · rw [if_neg c35] at H
                          exact absurd H (by simp)
                      · rw [if_neg c34] at H
                        exact absurd H (by simp)
                  · rw [if_neg c31] at H
                    have c31b0 : (t164 == 0) = false := beq_eq_false_iff_ne.mpr c31
                    have c31b1 : (t164 != 0) = true := bne_iff_ne.mpr c31
                    replace H := Option.bind_eq_some_iff.mp H
                    obtain ⟨t166, A370, H⟩ := H
                    replace H : (if t166 = 0 then (if t159 ≥ t151 then (some (decide ((wrap64 (2 * x17_1)) > (l0.length : Int)))) else (none)) else (none)) = some r := H
                    have A37 := Aside0.mk A370
                    clear A370
                    by_cases c38 : t166 = 0
                    · rw [if_pos c38] at H
                      have c38b0 : (t166 == 0) = true := beq_iff_eq.mpr c38
                      have c38b1 : (t166 != 0) = false := bne_eq_false_iff_eq.mpr c38
                      clear c38
                      by_cases c39 : t159 ≥ t151
                      · rw [if_pos c39] at H
                        have c39b0 : decide (t151 ≤ t159) = true := decide_eq_true c39
                        clear c39
                        obtain rfl := Option.some.inj H
                        go_wp2_with (first | ((with_reducible refine gate_callee (f := 12) rfl ?_); refine goesL_ (some 81) rfl rfl Try.func12 (by kernel_rfl) rfl #[.slice A0 l0.length c0, .int .i64 a3, .int .i64 a4] rfl (by (try simp only [List.map_toArray, List.map_cons, List.map_nil]); first | done | rfl | (simp only [List.length_drop, List.length_take]; rfl)) ?_; (with_reducible refine (quorum_Commit.calls _ _ l0 a3 a4 t162 t163 _ ?side1 ?side2 A29.out).mono ?_); (case side1 => repeat (first | exact (Kd.C_below HR0.out HB.out) | (with_reducible refine Kd.C_alloc ?_ _) | (with_reducible refine Kd.C_drewN ?_ _) | (with_reducible refine Kd.C_drew ?_))); (case side2 => exact HC0.out); rintro e w40 ⟨rfl, hb⟩; refine ⟨_, rfl, ?_⟩; have n0_ := Aside0.mk (below_step (by repeat (first | (with_reducible first | exact HB.out | apply below_alloc | apply pw_below_drewN | apply below_drew1) | exact HB.out)) hb); clear HB; have HB := n0_; clear n0_; (try clear hb); (try clear hb2); (try clear hk); (try clear hi)) | ((with_reducible refine gate_callee (f := 10) rfl ?_); refine goesL_ (some 85) rfl rfl Try.func10 (by kernel_rfl) rfl #[.int .i64 t163] rfl (by (try simp only [List.map_toArray, List.map_cons, List.map_nil]); first | done | rfl | (simp only [List.length_drop, List.length_take]; rfl)) ?_; (with_reducible refine (transeptlaw14_num.calls t163 t164 _ A30.out).mono ?_); rintro e w' ⟨rfl, ⟨nd, rfl⟩⟩; refine ⟨_, rfl, ?_⟩) | ((with_reducible refine gate_callee (f := 10) rfl ?_); refine goesL_ (some 93) rfl rfl Try.func10 (by kernel_rfl) rfl #[.int .i64 t160] rfl (by (try simp only [List.map_toArray, List.map_cons, List.map_nil]); first | done | rfl | (simp only [List.length_drop, List.length_take]; rfl)) ?_; (with_reducible refine (transeptlaw14_num.calls t160 t166 _ A37.out).mono ?_); rintro e w' ⟨rfl, ⟨nd, rfl⟩⟩; refine ⟨_, rfl, ?_⟩))
                        go_ret
                        exact ⟨by first | rfl | (simp [errW_none, errW_some] <;> rfl) | (simp only [← hji13, ← hji16]; first | rfl | (simp [errW_none, errW_some] <;> rfl)) | (simp [*, errW_none, errW_some] <;> rfl), by repeat (first | (with_reducible first | exact HB.out | apply below_alloc | apply pw_below_drewN | apply below_drew1) | exact HB.out)⟩
                      · rw [if_neg c39] at H
                        exact absurd H (by simp)
                    · rw [if_neg c38] at H
                      exact absurd H (by simp)
          · rw [if_neg c15] at H
            exact absurd H (by simp)
        · rw [if_neg c14] at H
          exact absurd H (by simp)
    · rw [if_neg c10] at H
      have c10b0 : (t153 == 0) = false := beq_eq_false_iff_ne.mpr c10
      have c10b1 : (t153 != 0) = true := bne_iff_ne.mpr c10
      obtain rfl := Option.some.inj H
      go_enter Try.func5, Try.ntmps5
      go_wp2_with (first | ((with_reducible refine gate_callee (f := 7) rfl ?_); refine goesL_ (some 21) rfl rfl Try.func7 (by kernel_rfl) rfl #[] rfl (by (try simp only [List.map_toArray, List.map_cons, List.map_nil]); first | done | rfl | (simp only [List.length_drop, List.length_take]; rfl)) ?_; (with_reducible refine (transeptlaw14_alive.calls  true _ A6.out).mono ?_); rintro e w41 ⟨rfl, hb⟩; refine ⟨_, rfl, ?_⟩; have n0_ := Aside0.mk (below_step (by repeat (first | (with_reducible first | exact HB.out | apply below_alloc | apply pw_below_drewN | apply below_drew1) | exact HB.out)) hb); clear HB; have HB := n0_; clear n0_; (try clear hb); (try clear hb2); (try clear hk); (try clear hi)) | ((with_reducible refine gate_callee (f := 8) rfl ?_); refine goesL_ (some 25) rfl rfl Try.func8 (by kernel_rfl) rfl #[.slice A0 l0.length c0] rfl (by (try simp only [List.map_toArray, List.map_cons, List.map_nil]); first | done | rfl | (simp only [List.length_drop, List.length_take]; rfl)) ?_; (with_reducible refine (quorum_Agreed.calls _ _ l0 t151 t152 _ ?side1 ?side2 A8.out).mono ?_); (case side1 => repeat (first | exact (Kd.C_below HR0.out HB.out) | (with_reducible refine Kd.C_alloc ?_ _) | (with_reducible refine Kd.C_drewN ?_ _) | (with_reducible refine Kd.C_drew ?_))); (case side2 => exact HC0.out); rintro e w42 ⟨rfl, hb⟩; refine ⟨_, rfl, ?_⟩; have n0_ := Aside0.mk (below_step (by repeat (first | (with_reducible first | exact HB.out | apply below_alloc | apply pw_below_drewN | apply below_drew1) | exact HB.out)) hb); clear HB; have HB := n0_; clear n0_; (try clear hb); (try clear hb2); (try clear hk); (try clear hi)) | ((with_reducible refine gate_callee (f := 10) rfl ?_); refine goesL_ (some 29) rfl rfl Try.func10 (by kernel_rfl) rfl #[.int .i64 t152] rfl (by (try simp only [List.map_toArray, List.map_cons, List.map_nil]); first | done | rfl | (simp only [List.length_drop, List.length_take]; rfl)) ?_; (with_reducible refine (transeptlaw14_num.calls t152 t153 _ A9.out).mono ?_); rintro e w' ⟨rfl, ⟨nd, rfl⟩⟩; refine ⟨_, rfl, ?_⟩))
      go_ret
      exact ⟨by first | rfl | (simp [errW_none, errW_some] <;> rfl) | (simp [*, errW_none, errW_some] <;> rfl), by repeat (first | (with_reducible first | exact HB.out | apply below_alloc | apply pw_below_drewN | apply below_drew1) | exact HB.out)⟩
  · replace c7 := Bool.eq_false_iff.mpr c7
    subst c7
    have H1 : (none) = some r := by rw [if_neg (show ¬ (false = true) by decide)] at H; exact H
    clear H
    have H := H1
    clear H1
    exact absurd H (by simp)

/-! ### transeptplain_CopyBools: function 13 -/
def transeptplain_CopyBools.f (l0 : List Bool) : Option (List Bool) := if ([] : List Bool).length + l0.length < 140737488355328 then (some (([] : List Bool) ++ l0)) else (none)
set_option maxHeartbeats 8000000 in
set_option maxRecDepth 100000 in
theorem transeptplain_CopyBools.calls (A0 : Option Addr) (c0 : Nat) (l0 : List Bool) (r : List Bool) (w : World) (hr0 : Kd.C Kd.bool w A0 l0.length l0) (hc0 : l0.length ≤ c0) (h : transeptplain_CopyBools.f l0 = some r) :
    Calls Try.prog 13 #[.slice A0 l0.length c0] w fun e w' => ∃ v0_ : Value, e = .returned (v0_) ∧ Kd.R Kd.bool 4 w' w.heap.size (fun _ => True) v0_ r ∧ Below w.heap.size w w' := by
  have HR0 := Aside0.mk hr0
  have HC0 := Aside0.mk hc0
  clear hr0 hc0
  have HB := Aside0.mk (Below.refl w.heap.size w)
  have H : (if ([] : List Bool).length + l0.length < 140737488355328 then (some (([] : List Bool) ++ l0)) else (none)) = some r := h
  clear h
  by_cases c2 : ([] : List Bool).length + l0.length < 140737488355328
  · rw [if_pos c2] at H
    have LMc2 := Aside0.mk c2
    clear c2
    obtain ⟨y167, hy167⟩ : ∃ y_ : List Bool, y_ = (([] : List Bool) ++ l0) := ⟨_, rfl⟩
    replace H : (some y167) = some r := by first | (rw [hy167]; with_reducible exact H) | (have H2_ := (Option.bind_some _ _).symm.trans H; rw [hy167]; with_reducible exact H2_) | (have H2_ := (Option.bind_some _ _).symm.trans H; with_reducible exact H2_) | with_reducible exact H | (rw [hy167]; exact H) | exact H
    have Ny167 := Aside0.mk hy167
    clear hy167
    obtain rfl := Option.some.inj H
    go_enter Try.func13, Try.ntmps13
    go_wp2_with (first | ((with_reducible refine gate_builtin (b := .append) (xs := #[.tmp 4, .tmp 5]) rfl ?_); at_builtin; refine Kd.R_append_rows Kd.bool (w0 := w) w.heap.size rfl (.tmp 4) (.tmp 5) 30 4 (.bool false) 1 rfl Try.underlying30 info4 rfl (by decide) (by omega) (.slice none 0 0) ([] : List Bool) l0 _ _ _ (fun _ => True) (fun _ => False) rfl rfl ?aO ?aR (fun _ _ h => h) (fun _ h => h.elim) ?aF ?aB ?aS ?aL ?_; (case aR => repeat (first | exact HR0.out | (with_reducible refine Kd.C_alloc ?_ _) | (with_reducible refine Kd.C_drewN ?_ _) | (with_reducible refine Kd.C_drew ?_))); (case aB => exact (by repeat (first | (with_reducible first | exact HB.out | apply below_alloc | apply pw_below_drewN | apply below_drew1) | exact HB.out))); (case aF => exact (fun _ _ => trivial)); (case aO => exact ((Kd.R_nil _ _ _ _ (fun _ => True)))); (case aS => exact (below_size (by repeat (first | (with_reducible first | exact HB.out | apply below_alloc | apply pw_below_drewN | apply below_drew1) | exact HB.out)))); (case aL => have := LMc2.out; omega); intro v168 w3 ho hb hg hat; rw [← Ny167.out] at ho; have n0_ := Aside0.mk (hb); have n1_ := Aside0.mk (ho); clear HB; have HB := n0_; have HO169 := n1_; clear n0_ n1_; clear ho hb hg hat))
    go_ret
    exact ⟨_, by first | rfl | (simp [errW_none, errW_some] <;> rfl) | (simp [*, errW_none, errW_some] <;> rfl), by (with_reducible repeat (first | apply Kd.R_alloc | apply Kd.R_drewN | apply Kd.R_drew)); exact HO169.out, by repeat (first | (with_reducible first | exact HB.out | apply below_alloc | apply pw_below_drewN | apply below_drew1) | exact HB.out)⟩
  · rw [if_neg c2] at H
    exact absurd H (by simp)

/-! ### transeptref14_Majority: function 15 -/
def transeptref14_Majority.f (a0 : Int) : Option (Int × Int) := if a0 < 1 then (some (0, 4)) else (if a0 > 9 then (some (0, 4)) else (some (wrap64 ((wrap64 (Int.tdiv a0 2)) + 1), 0)))
set_option maxHeartbeats 8000000 in
set_option maxRecDepth 100000 in
theorem transeptref14_Majority.calls (a0 : Int) (r1 : Int) (r2 : Int) (w : World) (h : transeptref14_Majority.f a0 = some (r1, r2)) :
    Calls Try.prog 15 #[.int .i64 a0] w fun e w' => e = .returned (.tuple #[.int .i64 r1, .int .i64 r2]) ∧ Drawn0 w w' := by
  have H : (if a0 < 1 then (some (0, 4)) else (if a0 > 9 then (some (0, 4)) else (some (wrap64 ((wrap64 (Int.tdiv a0 2)) + 1), 0)))) = some (r1, r2) := h
  clear h
  by_cases c2 : a0 < 1
  · rw [if_pos c2] at H
    have c2b0 : decide (a0 < 1) = true := decide_eq_true c2
    clear c2
    simp only [Option.some.injEq, Prod.mk.injEq] at H
    obtain ⟨rfl, rfl⟩ := H
    go_enter Try.func15, Try.ntmps15
    go_wp2
    go_ret2
    exact ⟨by first | rfl | (simp; done) | (simp [*]; done), by repeat (first | exact Drawn0.refl _ | apply Drawn0.step)⟩
  · rw [if_neg c2] at H
    have c2b0 : decide (a0 < 1) = false := decide_eq_false c2
    clear c2
    by_cases c3 : a0 > 9
    · rw [if_pos c3] at H
      have c3b0 : decide (9 < a0) = true := decide_eq_true c3
      clear c3
      simp only [Option.some.injEq, Prod.mk.injEq] at H
      obtain ⟨rfl, rfl⟩ := H
      go_enter Try.func15, Try.ntmps15
      go_wp2
      go_ret2
      exact ⟨by first | rfl | (simp; done) | (simp [*]; done), by repeat (first | exact Drawn0.refl _ | apply Drawn0.step)⟩
    · rw [if_neg c3] at H
      have c3b0 : decide (9 < a0) = false := decide_eq_false c3
      clear c3
      simp only [Option.some.injEq, Prod.mk.injEq] at H
      obtain ⟨rfl, rfl⟩ := H
      go_enter Try.func15, Try.ntmps15
      go_wp2
      go_ret2
      exact ⟨by first | rfl | (simp; done) | (simp [*]; done), by repeat (first | exact Drawn0.refl _ | apply Drawn0.step)⟩

end Go.Proofs.Ytgoiojfdphfelaa.Print
