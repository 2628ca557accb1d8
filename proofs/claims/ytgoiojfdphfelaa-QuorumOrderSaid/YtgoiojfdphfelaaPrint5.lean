/- Written by pp.py, a program of this project that runs the kit's print over the translation, with functions proved by hand put in. Lean checks it. -/
import Derived.Test.YtgoiojfdphfelaaPrint0
import Derived.Test.YtgoiojfdphfelaaPrint1
import Derived.Test.YtgoiojfdphfelaaPrint2
import Derived.Test.YtgoiojfdphfelaaPrint3
import Derived.Test.YtgoiojfdphfelaaPrint4
namespace Go.Proofs.Ytgoiojfdphfelaa.Print
open Go.RowKit Go.Proofs.YtgoiojfdphfelaaW.PrintWords Go.Proofs.YtgoiojfdphfelaaW.PrintLast Go.Proofs.YtgoiojfdphfelaaW.PrintMore
attribute [local go_sem] max2_int min2_int max_two min_two max_three min_three max_four min_four   -- for this text's walks alone
set_option linter.unusedVariables false
set_option linter.unusedSimpArgs false

/-! ### transeptplain_SameBools: function 20 -/
def transeptplain_SameBools.l0 : Nat → List Bool → List Bool → Int → Option (Bool)
  | 0, _, _, _ => none
  | k + 1, x0, x1, x5 => if x5 < (x0.length : Int) then (if 0 ≤ x5 then (if x5 < (x1.length : Int) then (if ((rdOf false x0 x5) != (rdOf false x1 x5)) = true then (some false) else (transeptplain_SameBools.l0 k x0 x1 (wrap64 (x5 + 1)))) else (none)) else (none)) else (some true)
def transeptplain_SameBools.f (k : Nat) (l0 : List Bool) (l1 : List Bool) : Option (Bool) := if (l0.length : Int) = (l1.length : Int) then (transeptplain_SameBools.l0 k l0 l1 0) else (some false)
theorem transeptplain_SameBools.mono_l : ∀ k, (∀ y0 y1 y2, LeO (transeptplain_SameBools.l0 k y0 y1 y2) (transeptplain_SameBools.l0 (k + 1) y0 y1 y2))
  | 0 => fun _ _ _ r h => by simp [transeptplain_SameBools.l0] at h
  | k + 1 => by
    have ih0 := transeptplain_SameBools.mono_l k
    · intro y0 y1 y2
      unfold transeptplain_SameBools.l0
      repeat' first
      | (with_reducible exact ih0 _ _ _)
      | (with_reducible exact LeO.refl _)
      | (with_reducible exact LeO.none _)
      | (with_reducible refine LeO.ite ?_ ?_)
      | (with_reducible refine LeO.bind ?_ (fun _ => ?_))
      | exact ih0 _ _ _
      | exact LeO.none _
      | refine LeO.ite ?_ ?_
      | refine LeO.bind ?_ (fun _ => ?_)
theorem transeptplain_SameBools.mono : ∀ a0 a1 k, LeO (transeptplain_SameBools.f k a0 a1) (transeptplain_SameBools.f (k + 1) a0 a1) := by
  intro a0 a1 k
  have ih0 := transeptplain_SameBools.mono_l k
  unfold transeptplain_SameBools.f
  repeat' first
      | (with_reducible exact ih0 _ _ _)
      | (with_reducible exact LeO.refl _)
      | (with_reducible exact LeO.none _)
      | (with_reducible refine LeO.ite ?_ ?_)
      | (with_reducible refine LeO.bind ?_ (fun _ => ?_))
      | exact ih0 _ _ _
      | exact LeO.none _
      | refine LeO.ite ?_ ?_
      | refine LeO.bind ?_ (fun _ => ?_)
set_option maxHeartbeats 8000000 in
set_option maxRecDepth 100000 in
theorem transeptplain_SameBools.calls (k : Nat) (A0 : Option Addr) (c0 : Nat) (l0 : List Bool) (A1 : Option Addr) (c1 : Nat) (l1 : List Bool) (r : Bool) (w : World) (hr0 : Kd.C Kd.bool w A0 l0.length l0) (hc0 : l0.length ≤ c0) (hr1 : Kd.C Kd.bool w A1 l1.length l1) (hc1 : l1.length ≤ c1) (h : transeptplain_SameBools.f k l0 l1 = some r) :
    Calls Try.prog 20 #[.slice A0 l0.length c0, .slice A1 l1.length c1] w fun e w' => e = .returned (.bool r) ∧ Drawn0 w w' := by
  have HR0 := Aside0.mk hr0
  have HC0 := Aside0.mk hc0
  clear hr0 hc0
  have HR1 := Aside0.mk hr1
  have HC1 := Aside0.mk hc1
  clear hr1 hc1
  have H : (if (l0.length : Int) = (l1.length : Int) then (transeptplain_SameBools.l0 k l0 l1 0) else (some false)) = some r := h
  clear h
  by_cases c3 : (l0.length : Int) = (l1.length : Int)
  · rw [if_pos c3] at H
    have c3b0 : ((l0.length : Int) == (l1.length : Int)) = true := beq_iff_eq.mpr c3
    have c3b1 : ((l0.length : Int) != (l1.length : Int)) = false := bne_eq_false_iff_eq.mpr c3
    have c3b2 : (l0.length == l1.length) = true := by first | simpa using c3 | (simp at c3 ⊢; omega)
    clear c3
    have H' := Aside0.mk H
    clear H
    go_enter Try.func20, Try.ntmps20
    go_wp2
    repeat (go_quiet (fail); try go_wp2)
    go_loopg [5] k (fun kq v5 w' => ∃ (x5_1 : Int), v5 = .int .i64 x5_1 ∧ Aside0 (transeptplain_SameBools.l0 kq l0 l1 x5_1 = some r) ∧ Aside0 (kq ≤ k) ∧ Drawn0 w w')
    case atStart => exact ⟨(0), (by first | rfl | (simp; done) | (simp [*]; done)), H', ⟨Nat.le_refl _⟩, by repeat (first | exact Drawn0.refl _ | apply Drawn0.step)⟩
    case round =>
      clear H'
      try clear c1
      try clear c2
      try clear p2
      try clear c3
      try clear c3b0
      try clear c3b1
      try clear c3b2
      obtain ⟨x5_1, rfl, HA, HK1, ⟨m1, rfl⟩⟩ := hrel
      cases gk with
      | zero => exact absurd HA.out (by simp [transeptplain_SameBools.l0])
      | succ k1 =>
        have H := HA.out
        clear HA
        simp only [transeptplain_SameBools.l0] at H
        by_cases c4 : x5_1 < (l0.length : Int)
        · rw [if_pos c4] at H
          have c4b0 : decide (x5_1 < (l0.length : Int)) = true := decide_eq_true c4
          clear c4
          by_cases c5 : 0 ≤ x5_1
          · rw [if_pos c5] at H
            have c5b0 : decide (0 ≤ x5_1) = true := decide_eq_true c5
            clear c5
            by_cases c6 : x5_1 < (l1.length : Int)
            · rw [if_pos c6] at H
              have c6b0 : decide (x5_1 < (l1.length : Int)) = true := decide_eq_true c6
              clear c6
              by_cases c7 : ((rdOf false l0 x5_1) != (rdOf false l1 x5_1)) = true
              · rw [if_pos c7] at H
                have c7b0 : ((rdOf false l0 x5_1) != (rdOf false l1 x5_1)) = true := c7
                (try (have c7b1 : decide ((rdOf false l0 x5_1) = (rdOf false l1 x5_1)) = false := by simpa using c7))
                (try (have c7b2 : ((rdOf false l0 x5_1) == (rdOf false l1 x5_1)) = false := by simpa using c7))
                (try (have c7b3 : ¬ ((rdOf false l0 x5_1) = (rdOf false l1 x5_1)) := by simpa using c7))
                clear c7
                obtain rfl := Option.some.inj H
                have p186 : 0 ≤ (x5_1 : Int) := of_decide_eq_true (by first | (with_reducible assumption) | assumption)
                have q186 : x5_1 < (l0.length : Int) := of_decide_eq_true (by first | (with_reducible assumption) | assumption)
                obtain ⟨ad186, e186, hx186_0⟩ := Kd.at_bool HR0.out x5_1 p186 q186
                cases e186
                replace p186 := eq_true p186
                replace q186 := eq_true q186
                have p187 : 0 ≤ (x5_1 : Int) := of_decide_eq_true (by first | (with_reducible assumption) | assumption)
                have q187 : x5_1 < (l1.length : Int) := of_decide_eq_true (by first | (with_reducible assumption) | assumption)
                obtain ⟨ad187, e187, hx187_0⟩ := Kd.at_bool HR1.out x5_1 p187 q187
                cases e187
                replace p187 := eq_true p187
                replace q187 := eq_true q187
                go_wp2
                repeat (go_quiet (fail); try go_wp2)
                go_ret
                exact ⟨by first | rfl | (simp; done) | (simp [*]; done), by repeat (first | exact Drawn0.refl _ | apply Drawn0.step)⟩
              · rw [if_neg c7] at H
                have c7b0 : ((rdOf false l0 x5_1) != (rdOf false l1 x5_1)) = false := by simpa using c7
                (try (have c7b1 : decide ((rdOf false l0 x5_1) = (rdOf false l1 x5_1)) = true := by simpa using c7))
                (try (have c7b2 : ((rdOf false l0 x5_1) == (rdOf false l1 x5_1)) = true := by simpa using c7))
                clear c7
                have H' := Aside0.mk H
                clear H
                have p186 : 0 ≤ (x5_1 : Int) := of_decide_eq_true (by first | (with_reducible assumption) | assumption)
                have q186 : x5_1 < (l0.length : Int) := of_decide_eq_true (by first | (with_reducible assumption) | assumption)
                obtain ⟨ad186, e186, hx186_0⟩ := Kd.at_bool HR0.out x5_1 p186 q186
                cases e186
                replace p186 := eq_true p186
                replace q186 := eq_true q186
                have p187 : 0 ≤ (x5_1 : Int) := of_decide_eq_true (by first | (with_reducible assumption) | assumption)
                have q187 : x5_1 < (l1.length : Int) := of_decide_eq_true (by first | (with_reducible assumption) | assumption)
                obtain ⟨ad187, e187, hx187_0⟩ := Kd.at_bool HR1.out x5_1 p187 q187
                cases e187
                replace p187 := eq_true p187
                replace q187 := eq_true q187
                go_wp2
                repeat (go_quiet (fail); try go_wp2)
                go_roundg k1
                case measure => have := HK1.out; omega
                case rel => exact ⟨(wrap64 (x5_1 + 1)), (by first | rfl | (simp; done) | (simp [*]; done)), H', ⟨by have := HK1.out; omega⟩, by repeat (first | exact Drawn0.refl _ | apply Drawn0.step)⟩
            · rw [if_neg c6] at H
              exact absurd H (by simp)
          · rw [if_neg c5] at H
            exact absurd H (by simp)
        · rw [if_neg c4] at H
          have c4b0 : decide (x5_1 < (l0.length : Int)) = false := decide_eq_false c4
          clear c4
          obtain rfl := Option.some.inj H
          go_wp2
          repeat (go_quiet (fail); try go_wp2)
          go_ret
          exact ⟨by first | rfl | (simp; done) | (simp [*]; done), by repeat (first | exact Drawn0.refl _ | apply Drawn0.step)⟩
  · rw [if_neg c3] at H
    have c3b0 : ((l0.length : Int) == (l1.length : Int)) = false := beq_eq_false_iff_ne.mpr c3
    have c3b1 : ((l0.length : Int) != (l1.length : Int)) = true := bne_iff_ne.mpr c3
    have c3b2 : (l0.length == l1.length) = false := by first | simpa using c3 | (simp at c3 ⊢; omega)
    obtain rfl := Option.some.inj H
    go_enter Try.func20, Try.ntmps20
    go_wp2
    repeat (go_quiet (fail); try go_wp2)
    go_ret
    exact ⟨by first | rfl | (simp; done) | (simp [*]; done), by repeat (first | exact Drawn0.refl _ | apply Drawn0.step)⟩

/-! ### transeptlaw14_QuorumTells: function 6 -/
def transeptlaw14_QuorumTells.f (k : Nat) (a0 : Int) (l1 : List Int) (a2 : Int) (a3 : Int) (l4 : List Bool) : Option (Bool) := (transeptplain_CopyInts.f l1).bind fun t188 => ((transeptplain_CopyBools.f l4).bind fun t191 => ((quorum_Majority.f a0).bind fun bt194 => ((transeptref14_Majority.f a0).bind fun bt196 => ((quorum_Agreed.f t188).bind fun bt198 => ((transeptref14_Agreed.f k l1).bind fun bt200 => ((quorum_Commit.f t188 a2 a3).bind fun bt202 => ((transeptref14_Commit.f k l1 a2 a3).bind fun bt204 => ((quorum_Wins.f k t191).bind fun bt206 => ((transeptref14_Wins.f k l4).bind fun bt208 => (if bt194.1 = bt196.1 then ((transeptlaw14_num.f bt194.2).bind fun t210 => (if t210 = bt196.2 then (if bt198.1 = bt200.1 then ((transeptlaw14_num.f bt198.2).bind fun t211 => (if t211 = bt200.2 then (if bt202.1 = bt204.1 then ((transeptlaw14_num.f bt202.2).bind fun t212 => (if t212 = bt204.2 then (if (bt206.1 == bt208.1) = true then ((transeptlaw14_num.f bt206.2).bind fun t213 => (if t213 = bt208.2 then ((transeptplain_SameInts.f k t188 l1).bind fun t214 => (if t214 = true then ((transeptplain_SameBools.f k t191 l4).bind fun t215 => (if t215 = true then ((transeptlaw14_alive.f).bind fun t216 => (some t216)) else (none))) else (none))) else (none))) else (none)) else (none))) else (none)) else (none))) else (none)) else (none))) else (none)))))))))))
theorem transeptlaw14_QuorumTells.mono : ∀ a0 a1 a2 a3 a4 k, LeO (transeptlaw14_QuorumTells.f k a0 a1 a2 a3 a4) (transeptlaw14_QuorumTells.f (k + 1) a0 a1 a2 a3 a4) := by
  intro a0 a1 a2 a3 a4 k
  unfold transeptlaw14_QuorumTells.f
  repeat' first
      | (with_reducible exact quorum_Wins.mono _ _)
      | (with_reducible exact transeptplain_SameBools.mono _ _ _)
      | (with_reducible exact transeptplain_SameInts.mono _ _ _)
      | (with_reducible exact transeptref14_Agreed.mono _ _)
      | (with_reducible exact transeptref14_Commit.mono _ _ _ _)
      | (with_reducible exact transeptref14_Wins.mono _ _)
      | (with_reducible exact LeO.refl _)
      | (with_reducible exact LeO.none _)
      | (with_reducible refine LeO.ite ?_ ?_)
      | (with_reducible refine LeO.bind ?_ (fun _ => ?_))
      | exact quorum_Wins.mono _ _
      | exact transeptplain_SameBools.mono _ _ _
      | exact transeptplain_SameInts.mono _ _ _
      | exact transeptref14_Agreed.mono _ _
      | exact transeptref14_Commit.mono _ _ _ _
      | exact transeptref14_Wins.mono _ _
      | exact LeO.none _
      | refine LeO.ite ?_ ?_
      | refine LeO.bind ?_ (fun _ => ?_)
set_option maxHeartbeats 8000000 in
set_option maxRecDepth 100000 in
theorem transeptlaw14_QuorumTells.calls (k : Nat) (a0 : Int) (A1 : Option Addr) (c1 : Nat) (l1 : List Int) (a2 : Int) (a3 : Int) (A4 : Option Addr) (c4 : Nat) (l4 : List Bool) (r : Bool) (w : World) (hr1 : Kd.C (Kd.int .i64) w A1 l1.length l1) (hc1 : l1.length ≤ c1) (hr4 : Kd.C Kd.bool w A4 l4.length l4) (hc4 : l4.length ≤ c4) (h : transeptlaw14_QuorumTells.f k a0 l1 a2 a3 l4 = some r) :
    Calls Try.prog 6 #[.int .i64 a0, .slice A1 l1.length c1, .int .i64 a2, .int .i64 a3, .slice A4 l4.length c4] w fun e w' => e = .returned (.bool r) ∧ Below w.heap.size w w' := by
  have HR1 := Aside0.mk hr1
  have HC1 := Aside0.mk hc1
  clear hr1 hc1
  have HR4 := Aside0.mk hr4
  have HC4 := Aside0.mk hc4
  clear hr4 hc4
  have HB := Aside0.mk (Below.refl w.heap.size w)
  have H : ((transeptplain_CopyInts.f l1).bind fun t188 => ((transeptplain_CopyBools.f l4).bind fun t191 => ((quorum_Majority.f a0).bind fun bt194 => ((transeptref14_Majority.f a0).bind fun bt196 => ((quorum_Agreed.f t188).bind fun bt198 => ((transeptref14_Agreed.f k l1).bind fun bt200 => ((quorum_Commit.f t188 a2 a3).bind fun bt202 => ((transeptref14_Commit.f k l1 a2 a3).bind fun bt204 => ((quorum_Wins.f k t191).bind fun bt206 => ((transeptref14_Wins.f k l4).bind fun bt208 => (if bt194.1 = bt196.1 then ((transeptlaw14_num.f bt194.2).bind fun t210 => (if t210 = bt196.2 then (if bt198.1 = bt200.1 then ((transeptlaw14_num.f bt198.2).bind fun t211 => (if t211 = bt200.2 then (if bt202.1 = bt204.1 then ((transeptlaw14_num.f bt202.2).bind fun t212 => (if t212 = bt204.2 then (if (bt206.1 == bt208.1) = true then ((transeptlaw14_num.f bt206.2).bind fun t213 => (if t213 = bt208.2 then ((transeptplain_SameInts.f k t188 l1).bind fun t214 => (if t214 = true then ((transeptplain_SameBools.f k t191 l4).bind fun t215 => (if t215 = true then ((transeptlaw14_alive.f).bind fun t216 => (some t216)) else (none))) else (none))) else (none))) else (none)) else (none))) else (none)) else (none))) else (none)) else (none))) else (none)))))))))))) = some r := h
  clear h
  replace H := Option.bind_eq_some_iff.mp H
  obtain ⟨t188, A60, H⟩ := H
  replace H : ((transeptplain_CopyBools.f l4).bind fun t191 => ((quorum_Majority.f a0).bind fun bt194 => ((transeptref14_Majority.f a0).bind fun bt196 => ((quorum_Agreed.f t188).bind fun bt198 => ((transeptref14_Agreed.f k l1).bind fun bt200 => ((quorum_Commit.f t188 a2 a3).bind fun bt202 => ((transeptref14_Commit.f k l1 a2 a3).bind fun bt204 => ((quorum_Wins.f k t191).bind fun bt206 => ((transeptref14_Wins.f k l4).bind fun bt208 => (if bt194.1 = bt196.1 then ((transeptlaw14_num.f bt194.2).bind fun t210 => (if t210 = bt196.2 then (if bt198.1 = bt200.1 then ((transeptlaw14_num.f bt198.2).bind fun t211 => (if t211 = bt200.2 then (if bt202.1 = bt204.1 then ((transeptlaw14_num.f bt202.2).bind fun t212 => (if t212 = bt204.2 then (if (bt206.1 == bt208.1) = true then ((transeptlaw14_num.f bt206.2).bind fun t213 => (if t213 = bt208.2 then ((transeptplain_SameInts.f k t188 l1).bind fun t214 => (if t214 = true then ((transeptplain_SameBools.f k t191 l4).bind fun t215 => (if t215 = true then ((transeptlaw14_alive.f).bind fun t216 => (some t216)) else (none))) else (none))) else (none))) else (none)) else (none))) else (none)) else (none))) else (none)) else (none))) else (none))))))))))) = some r := H
  have A6 := Aside0.mk A60
  clear A60
  replace H := Option.bind_eq_some_iff.mp H
  obtain ⟨t191, A70, H⟩ := H
  replace H : ((quorum_Majority.f a0).bind fun bt194 => ((transeptref14_Majority.f a0).bind fun bt196 => ((quorum_Agreed.f t188).bind fun bt198 => ((transeptref14_Agreed.f k l1).bind fun bt200 => ((quorum_Commit.f t188 a2 a3).bind fun bt202 => ((transeptref14_Commit.f k l1 a2 a3).bind fun bt204 => ((quorum_Wins.f k t191).bind fun bt206 => ((transeptref14_Wins.f k l4).bind fun bt208 => (if bt194.1 = bt196.1 then ((transeptlaw14_num.f bt194.2).bind fun t210 => (if t210 = bt196.2 then (if bt198.1 = bt200.1 then ((transeptlaw14_num.f bt198.2).bind fun t211 => (if t211 = bt200.2 then (if bt202.1 = bt204.1 then ((transeptlaw14_num.f bt202.2).bind fun t212 => (if t212 = bt204.2 then (if (bt206.1 == bt208.1) = true then ((transeptlaw14_num.f bt206.2).bind fun t213 => (if t213 = bt208.2 then ((transeptplain_SameInts.f k t188 l1).bind fun t214 => (if t214 = true then ((transeptplain_SameBools.f k t191 l4).bind fun t215 => (if t215 = true then ((transeptlaw14_alive.f).bind fun t216 => (some t216)) else (none))) else (none))) else (none))) else (none)) else (none))) else (none)) else (none))) else (none)) else (none))) else (none)))))))))) = some r := H
  have A7 := Aside0.mk A70
  clear A70
  replace H := Option.bind_eq_some_iff.mp H
  obtain ⟨⟨t194, t195⟩, A80, H⟩ := H
  replace H : ((transeptref14_Majority.f a0).bind fun bt196 => ((quorum_Agreed.f t188).bind fun bt198 => ((transeptref14_Agreed.f k l1).bind fun bt200 => ((quorum_Commit.f t188 a2 a3).bind fun bt202 => ((transeptref14_Commit.f k l1 a2 a3).bind fun bt204 => ((quorum_Wins.f k t191).bind fun bt206 => ((transeptref14_Wins.f k l4).bind fun bt208 => (if t194 = bt196.1 then ((transeptlaw14_num.f t195).bind fun t210 => (if t210 = bt196.2 then (if bt198.1 = bt200.1 then ((transeptlaw14_num.f bt198.2).bind fun t211 => (if t211 = bt200.2 then (if bt202.1 = bt204.1 then ((transeptlaw14_num.f bt202.2).bind fun t212 => (if t212 = bt204.2 then (if (bt206.1 == bt208.1) = true then ((transeptlaw14_num.f bt206.2).bind fun t213 => (if t213 = bt208.2 then ((transeptplain_SameInts.f k t188 l1).bind fun t214 => (if t214 = true then ((transeptplain_SameBools.f k t191 l4).bind fun t215 => (if t215 = true then ((transeptlaw14_alive.f).bind fun t216 => (some t216)) else (none))) else (none))) else (none))) else (none)) else (none))) else (none)) else (none))) else (none)) else (none))) else (none))))))))) = some r := H
  have A8 := Aside0.mk A80
  clear A80
  replace H := Option.bind_eq_some_iff.mp H
  obtain ⟨⟨t196, t197⟩, A90, H⟩ := H
  replace H : ((quorum_Agreed.f t188).bind fun bt198 => ((transeptref14_Agreed.f k l1).bind fun bt200 => ((quorum_Commit.f t188 a2 a3).bind fun bt202 => ((transeptref14_Commit.f k l1 a2 a3).bind fun bt204 => ((quorum_Wins.f k t191).bind fun bt206 => ((transeptref14_Wins.f k l4).bind fun bt208 => (if t194 = t196 then ((transeptlaw14_num.f t195).bind fun t210 => (if t210 = t197 then (if bt198.1 = bt200.1 then ((transeptlaw14_num.f bt198.2).bind fun t211 => (if t211 = bt200.2 then (if bt202.1 = bt204.1 then ((transeptlaw14_num.f bt202.2).bind fun t212 => (if t212 = bt204.2 then (if (bt206.1 == bt208.1) = true then ((transeptlaw14_num.f bt206.2).bind fun t213 => (if t213 = bt208.2 then ((transeptplain_SameInts.f k t188 l1).bind fun t214 => (if t214 = true then ((transeptplain_SameBools.f k t191 l4).bind fun t215 => (if t215 = true then ((transeptlaw14_alive.f).bind fun t216 => (some t216)) else (none))) else (none))) else (none))) else (none)) else (none))) else (none)) else (none))) else (none)) else (none))) else (none)))))))) = some r := H
  have A9 := Aside0.mk A90
  clear A90
  replace H := Option.bind_eq_some_iff.mp H
  obtain ⟨⟨t198, t199⟩, A100, H⟩ := H
  replace H : ((transeptref14_Agreed.f k l1).bind fun bt200 => ((quorum_Commit.f t188 a2 a3).bind fun bt202 => ((transeptref14_Commit.f k l1 a2 a3).bind fun bt204 => ((quorum_Wins.f k t191).bind fun bt206 => ((transeptref14_Wins.f k l4).bind fun bt208 => (if t194 = t196 then ((transeptlaw14_num.f t195).bind fun t210 => (if t210 = t197 then (if t198 = bt200.1 then ((transeptlaw14_num.f t199).bind fun t211 => (if t211 = bt200.2 then (if bt202.1 = bt204.1 then ((transeptlaw14_num.f bt202.2).bind fun t212 => (if t212 = bt204.2 then (if (bt206.1 == bt208.1) = true then ((transeptlaw14_num.f bt206.2).bind fun t213 => (if t213 = bt208.2 then ((transeptplain_SameInts.f k t188 l1).bind fun t214 => (if t214 = true then ((transeptplain_SameBools.f k t191 l4).bind fun t215 => (if t215 = true then ((transeptlaw14_alive.f).bind fun t216 => (some t216)) else (none))) else (none))) else (none))) else (none)) else (none))) else (none)) else (none))) else (none)) else (none))) else (none))))))) = some r := H
  have A10 := Aside0.mk A100
  clear A100
  replace H := Option.bind_eq_some_iff.mp H
  obtain ⟨⟨t200, t201⟩, A110, H⟩ := H
  replace H : ((quorum_Commit.f t188 a2 a3).bind fun bt202 => ((transeptref14_Commit.f k l1 a2 a3).bind fun bt204 => ((quorum_Wins.f k t191).bind fun bt206 => ((transeptref14_Wins.f k l4).bind fun bt208 => (if t194 = t196 then ((transeptlaw14_num.f t195).bind fun t210 => (if t210 = t197 then (if t198 = t200 then ((transeptlaw14_num.f t199).bind fun t211 => (if t211 = t201 then (if bt202.1 = bt204.1 then ((transeptlaw14_num.f bt202.2).bind fun t212 => (if t212 = bt204.2 then (if (bt206.1 == bt208.1) = true then ((transeptlaw14_num.f bt206.2).bind fun t213 => (if t213 = bt208.2 then ((transeptplain_SameInts.f k t188 l1).bind fun t214 => (if t214 = true then ((transeptplain_SameBools.f k t191 l4).bind fun t215 => (if t215 = true then ((transeptlaw14_alive.f).bind fun t216 => (some t216)) else (none))) else (none))) else (none))) else (none)) else (none))) else (none)) else (none))) else (none)) else (none))) else (none)))))) = some r := H
  have A11 := Aside0.mk A110
  clear A110
  replace H := Option.bind_eq_some_iff.mp H
  obtain ⟨⟨t202, t203⟩, A120, H⟩ := H
  replace H : ((transeptref14_Commit.f k l1 a2 a3).bind fun bt204 => ((quorum_Wins.f k t191).bind fun bt206 => ((transeptref14_Wins.f k l4).bind fun bt208 => (if t194 = t196 then ((transeptlaw14_num.f t195).bind fun t210 => (if t210 = t197 then (if t198 = t200 then ((transeptlaw14_num.f t199).bind fun t211 => (if t211 = t201 then (if t202 = bt204.1 then ((transeptlaw14_num.f t203).bind fun t212 => (if t212 = bt204.2 then (if (bt206.1 == bt208.1) = true then ((transeptlaw14_num.f bt206.2).bind fun t213 => (if t213 = bt208.2 then ((transeptplain_SameInts.f k t188 l1).bind fun t214 => (if t214 = true then ((transeptplain_SameBools.f k t191 l4).bind fun t215 => (if t215 = true then ((transeptlaw14_alive.f).bind fun t216 => (some t216)) else (none))) else (none))) else (none))) else (none)) else (none))) else (none)) else (none))) else (none)) else (none))) else (none))))) = some r := H
  have A12 := Aside0.mk A120
  clear A120
  replace H := Option.bind_eq_some_iff.mp H
  obtain ⟨⟨t204, t205⟩, A130, H⟩ := H
  replace H : ((quorum_Wins.f k t191).bind fun bt206 => ((transeptref14_Wins.f k l4).bind fun bt208 => (if t194 = t196 then ((transeptlaw14_num.f t195).bind fun t210 => (if t210 = t197 then (if t198 = t200 then ((transeptlaw14_num.f t199).bind fun t211 => (if t211 = t201 then (if t202 = t204 then ((transeptlaw14_num.f t203).bind fun t212 => (if t212 = t205 then (if (bt206.1 == bt208.1) = true then ((transeptlaw14_num.f bt206.2).bind fun t213 => (if t213 = bt208.2 then ((transeptplain_SameInts.f k t188 l1).bind fun t214 => (if t214 = true then ((transeptplain_SameBools.f k t191 l4).bind fun t215 => (if t215 = true then ((transeptlaw14_alive.f).bind fun t216 => (some t216)) else (none))) else (none))) else (none))) else (none)) else (none))) else (none)) else (none))) else (none)) else (none))) else (none)))) = some r := H
  have A13 := Aside0.mk A130
  clear A130
  replace H := Option.bind_eq_some_iff.mp H
  obtain ⟨⟨t206, t207⟩, A140, H⟩ := H
  replace H : ((transeptref14_Wins.f k l4).bind fun bt208 => (if t194 = t196 then ((transeptlaw14_num.f t195).bind fun t210 => (if t210 = t197 then (if t198 = t200 then ((transeptlaw14_num.f t199).bind fun t211 => (if t211 = t201 then (if t202 = t204 then ((transeptlaw14_num.f t203).bind fun t212 => (if t212 = t205 then (if (t206 == bt208.1) = true then ((transeptlaw14_num.f t207).bind fun t213 => (if t213 = bt208.2 then ((transeptplain_SameInts.f k t188 l1).bind fun t214 => (if t214 = true then ((transeptplain_SameBools.f k t191 l4).bind fun t215 => (if t215 = true then ((transeptlaw14_alive.f).bind fun t216 => (some t216)) else (none))) else (none))) else (none))) else (none)) else (none))) else (none)) else (none))) else (none)) else (none))) else (none))) = some r := H
  have A14 := Aside0.mk A140
  clear A140
  replace H := Option.bind_eq_some_iff.mp H
  obtain ⟨⟨t208, t209⟩, A150, H⟩ := H
  replace H : (if t194 = t196 then ((transeptlaw14_num.f t195).bind fun t210 => (if t210 = t197 then (if t198 = t200 then ((transeptlaw14_num.f t199).bind fun t211 => (if t211 = t201 then (if t202 = t204 then ((transeptlaw14_num.f t203).bind fun t212 => (if t212 = t205 then (if (t206 == t208) = true then ((transeptlaw14_num.f t207).bind fun t213 => (if t213 = t209 then ((transeptplain_SameInts.f k t188 l1).bind fun t214 => (if t214 = true then ((transeptplain_SameBools.f k t191 l4).bind fun t215 => (if t215 = true then ((transeptlaw14_alive.f).bind fun t216 => (some t216)) else (none))) else (none))) else (none))) else (none)) else (none))) else (none)) else (none))) else (none)) else (none))) else (none)) = some r := H
  have A15 := Aside0.mk A150
  clear A150
  by_cases c16 : t194 = t196
  · rw [if_pos c16] at H
    have c16b0 : (t194 == t196) = true := beq_iff_eq.mpr c16
    have c16b1 : (t194 != t196) = false := bne_eq_false_iff_eq.mpr c16
    clear c16
    replace H := Option.bind_eq_some_iff.mp H
    obtain ⟨t210, A170, H⟩ := H
    replace H : (if t210 = t197 then (if t198 = t200 then ((transeptlaw14_num.f t199).bind fun t211 => (if t211 = t201 then (if t202 = t204 then ((transeptlaw14_num.f t203).bind fun t212 => (if t212 = t205 then (if (t206 == t208) = true then ((transeptlaw14_num.f t207).bind fun t213 => (if t213 = t209 then ((transeptplain_SameInts.f k t188 l1).bind fun t214 => (if t214 = true then ((transeptplain_SameBools.f k t191 l4).bind fun t215 => (if t215 = true then ((transeptlaw14_alive.f).bind fun t216 => (some t216)) else (none))) else (none))) else (none))) else (none)) else (none))) else (none)) else (none))) else (none)) else (none)) = some r := H
    have A17 := Aside0.mk A170
    clear A170
    by_cases c18 : t210 = t197
    · rw [if_pos c18] at H
      have c18b0 : (t210 == t197) = true := beq_iff_eq.mpr c18
      have c18b1 : (t210 != t197) = false := bne_eq_false_iff_eq.mpr c18
      clear c18
      by_cases c19 : t198 = t200
      · rw [if_pos c19] at H
        have c19b0 : (t198 == t200) = true := beq_iff_eq.mpr c19
        have c19b1 : (t198 != t200) = false := bne_eq_false_iff_eq.mpr c19
        clear c19
        replace H := Option.bind_eq_some_iff.mp H
        obtain ⟨t211, A200, H⟩ := H
        replace H : (if t211 = t201 then (if t202 = t204 then ((transeptlaw14_num.f t203).bind fun t212 => (if t212 = t205 then (if (t206 == t208) = true then ((transeptlaw14_num.f t207).bind fun t213 => (if t213 = t209 then ((transeptplain_SameInts.f k t188 l1).bind fun t214 => (if t214 = true then ((transeptplain_SameBools.f k t191 l4).bind fun t215 => (if t215 = true then ((transeptlaw14_alive.f).bind fun t216 => (some t216)) else (none))) else (none))) else (none))) else (none)) else (none))) else (none)) else (none)) = some r := H
        have A20 := Aside0.mk A200
        clear A200
        by_cases c21 : t211 = t201
        · rw [if_pos c21] at H
          have c21b0 : (t211 == t201) = true := beq_iff_eq.mpr c21
          have c21b1 : (t211 != t201) = false := bne_eq_false_iff_eq.mpr c21
          clear c21
          by_cases c22 : t202 = t204
          · rw [if_pos c22] at H
            have c22b0 : (t202 == t204) = true := beq_iff_eq.mpr c22
            have c22b1 : (t202 != t204) = false := bne_eq_false_iff_eq.mpr c22
            clear c22
            replace H := Option.bind_eq_some_iff.mp H
            obtain ⟨t212, A230, H⟩ := H
            replace H : (if t212 = t205 then (if (t206 == t208) = true then ((transeptlaw14_num.f t207).bind fun t213 => (if t213 = t209 then ((transeptplain_SameInts.f k t188 l1).bind fun t214 => (if t214 = true then ((transeptplain_SameBools.f k t191 l4).bind fun t215 => (if t215 = true then ((transeptlaw14_alive.f).bind fun t216 => (some t216)) else (none))) else (none))) else (none))) else (none)) else (none)) = some r := H
            have A23 := Aside0.mk A230
            clear A230
            by_cases c24 : t212 = t205
            · rw [if_pos c24] at H
              have c24b0 : (t212 == t205) = true := beq_iff_eq.mpr c24
              have c24b1 : (t212 != t205) = false := bne_eq_false_iff_eq.mpr c24
              clear c24
              by_cases c25 : (t206 == t208) = true
              · rw [if_pos c25] at H
                have c25b0 : (t206 == t208) = true := c25
                (try (have c25b1 : decide (t206 = t208) = true := by simpa using c25))
                (try (have c25b2 : (t206 == t208) = true := by simpa using c25))
                clear c25
                replace H := Option.bind_eq_some_iff.mp H
                obtain ⟨t213, A260, H⟩ := H
                replace H : (if t213 = t209 then ((transeptplain_SameInts.f k t188 l1).bind fun t214 => (if t214 = true then ((transeptplain_SameBools.f k t191 l4).bind fun t215 => (if t215 = true then ((transeptlaw14_alive.f).bind fun t216 => (some t216)) else (none))) else (none))) else (none)) = some r := H
                have A26 := Aside0.mk A260
                clear A260
                by_cases c27 : t213 = t209
                · rw [if_pos c27] at H
                  have c27b0 : (t213 == t209) = true := beq_iff_eq.mpr c27
                  have c27b1 : (t213 != t209) = false := bne_eq_false_iff_eq.mpr c27
                  clear c27
                  replace H := Option.bind_eq_some_iff.mp H
                  obtain ⟨t214, A280, H⟩ := H
                  replace H : (if t214 = true then ((transeptplain_SameBools.f k t191 l4).bind fun t215 => (if t215 = true then ((transeptlaw14_alive.f).bind fun t216 => (some t216)) else (none))) else (none)) = some r := H
                  have A28 := Aside0.mk A280
                  clear A280
                  by_cases c29 : t214 = true
                  · subst c29
                    have H1 : ((transeptplain_SameBools.f k t191 l4).bind fun t215 => (if t215 = true then ((transeptlaw14_alive.f).bind fun t216 => (some t216)) else (none))) = some r := by rw [if_pos rfl] at H; exact H
                    clear H
                    have H := H1
                    clear H1
                    replace H := Option.bind_eq_some_iff.mp H
                    obtain ⟨t215, A300, H⟩ := H
                    replace H : (if t215 = true then ((transeptlaw14_alive.f).bind fun t216 => (some t216)) else (none)) = some r := H
                    have A30 := Aside0.mk A300
                    clear A300
                    by_cases c31 : t215 = true
                    · subst c31
                      have H1 : ((transeptlaw14_alive.f).bind fun t216 => (some t216)) = some r := by rw [if_pos rfl] at H; exact H
                      clear H
                      have H := H1
                      clear H1
                      replace H := Option.bind_eq_some_iff.mp H
                      obtain ⟨t216, A320, H⟩ := H
                      replace H : (some t216) = some r := H
                      have A32 := Aside0.mk A320
                      clear A320
                      obtain rfl := Option.some.inj H
                      go_enter Try.func6, Try.ntmps6
                      go_wp2_with (first | ((with_reducible refine gate_callee (f := 9) rfl ?_); refine goesL_ (some 30) rfl rfl Try.func9 (by kernel_rfl) rfl #[.slice A1 l1.length c1] rfl (by (try simp only [List.map_toArray, List.map_cons, List.map_nil]); first | done | rfl | (simp only [List.length_drop, List.length_take]; rfl)) ?_; (with_reducible refine (transeptplain_CopyInts.calls _ _ l1 t188 _ ?side1 ?side2 A6.out).mono ?_); (case side1 => repeat (first | exact HR1.out | (with_reducible refine Kd.C_alloc ?_ _) | (with_reducible refine Kd.C_drewN ?_ _) | (with_reducible refine Kd.C_drew ?_))); (case side2 => exact HC1.out); rintro e w33 ⟨v189, rfl, ho0, hb⟩; refine ⟨_, rfl, ?_⟩; have n0_ := Aside0.mk (Kd.R_lower ho0 (below_size (by repeat (first | (with_reducible first | exact HB.out | apply below_alloc | apply pw_below_drewN | apply below_drew1) | exact HB.out)))); have n1_ := Aside0.mk (below_step (by repeat (first | (with_reducible first | exact HB.out | apply below_alloc | apply pw_below_drewN | apply below_drew1) | exact HB.out)) hb); clear HB; have HO190 := n0_; have HB := n1_; clear n0_ n1_; (try clear hb); (try clear hb2); (try clear hk); (try clear hi); (try clear ho0)) | ((with_reducible refine gate_callee (f := 13) rfl ?_); refine goesL_ (some 32) rfl rfl Try.func13 (by kernel_rfl) rfl #[.slice A4 l4.length c4] rfl (by (try simp only [List.map_toArray, List.map_cons, List.map_nil]); first | done | rfl | (simp only [List.length_drop, List.length_take]; rfl)) ?_; (with_reducible refine (transeptplain_CopyBools.calls _ _ l4 t191 _ ?side1 ?side2 A7.out).mono ?_); (case side1 => repeat (first | exact (Kd.C_below HR4.out HB.out) | (with_reducible refine Kd.C_alloc ?_ _) | (with_reducible refine Kd.C_drewN ?_ _) | (with_reducible refine Kd.C_drew ?_))); (case side2 => exact HC4.out); rintro e w34 ⟨v192, rfl, ho0, hb⟩; refine ⟨_, rfl, ?_⟩; have n0_ := Aside0.mk (Kd.R_below (by (with_reducible repeat (first | apply Kd.R_alloc | apply Kd.R_drewN | apply Kd.R_drew)); exact HO190.out) hb); have n1_ := Aside0.mk (Kd.R_lower ho0 (below_size (by repeat (first | (with_reducible first | exact HB.out | apply below_alloc | apply pw_below_drewN | apply below_drew1) | exact HB.out)))); have n2_ := Aside0.mk (below_step (by repeat (first | (with_reducible first | exact HB.out | apply below_alloc | apply pw_below_drewN | apply below_drew1) | exact HB.out)) hb); clear HO190; clear HB; have HO190 := n0_; have HO193 := n1_; have HB := n2_; clear n0_ n1_ n2_; (try clear hb); (try clear hb2); (try clear hk); (try clear hi); (try clear ho0)) | ((with_reducible refine gate_callee (f := 14) rfl ?_); refine goesL_ (some 35) rfl rfl Try.func14 (by kernel_rfl) rfl #[.int .i64 a0] rfl (by (try simp only [List.map_toArray, List.map_cons, List.map_nil]); first | done | rfl | (simp only [List.length_drop, List.length_take]; rfl)) ?_; (with_reducible refine (quorum_Majority.calls a0 t194 t195 _ A8.out).mono ?_); rintro e w' ⟨rfl, ⟨nd, rfl⟩⟩; refine ⟨_, rfl, ?_⟩) | ((with_reducible refine gate_callee (f := 15) rfl ?_); refine goesL_ (some 40) rfl rfl Try.func15 (by kernel_rfl) rfl #[.int .i64 a0] rfl (by (try simp only [List.map_toArray, List.map_cons, List.map_nil]); first | done | rfl | (simp only [List.length_drop, List.length_take]; rfl)) ?_; (with_reducible refine (transeptref14_Majority.calls a0 t196 t197 _ A9.out).mono ?_); rintro e w' ⟨rfl, ⟨nd, rfl⟩⟩; refine ⟨_, rfl, ?_⟩; obtain ⟨Ao35, co35, eo35⟩ := Kd.R_slice HO190.out; subst eo35) | ((with_reducible refine gate_callee (f := 8) rfl ?_); refine goesL_ (some 45) rfl rfl Try.func8 (by kernel_rfl) rfl #[.slice Ao35 t188.length co35] rfl (by (try simp only [List.map_toArray, List.map_cons, List.map_nil]); first | done | rfl | (simp only [List.length_drop, List.length_take]; rfl)) ?_; (with_reducible refine (quorum_Agreed.calls _ _ t188 t198 t199 _ ?side1 ?side2 A10.out).mono ?_); (case side1 => repeat (first | exact (Kd.R_reads' HO190.out).2.2 | (with_reducible refine Kd.C_alloc ?_ _) | (with_reducible refine Kd.C_drewN ?_ _) | (with_reducible refine Kd.C_drew ?_))); (case side2 => exact (Kd.R_reads' HO190.out).2.1); rintro e w36 ⟨rfl, hb⟩; refine ⟨_, rfl, ?_⟩; have n0_ := Aside0.mk (Kd.R_below (by (with_reducible repeat (first | apply Kd.R_alloc | apply Kd.R_drewN | apply Kd.R_drew)); exact HO190.out) hb); have n1_ := Aside0.mk (Kd.R_below (by (with_reducible repeat (first | apply Kd.R_alloc | apply Kd.R_drewN | apply Kd.R_drew)); exact HO193.out) hb); have n2_ := Aside0.mk (below_step (by repeat (first | (with_reducible first | exact HB.out | apply below_alloc | apply pw_below_drewN | apply below_drew1) | exact HB.out)) hb); clear HO190; clear HO193; clear HB; have HO190 := n0_; have HO193 := n1_; have HB := n2_; clear n0_ n1_ n2_; (try clear hb); (try clear hb2); (try clear hk); (try clear hi)) | ((with_reducible refine gate_callee (f := 16) rfl ?_); refine goesL_ (some 50) rfl rfl Try.func16 (by kernel_rfl) rfl #[.slice A1 l1.length c1] rfl (by (try simp only [List.map_toArray, List.map_cons, List.map_nil]); first | done | rfl | (simp only [List.length_drop, List.length_take]; rfl)) ?_; (with_reducible refine (transeptref14_Agreed.calls k _ _ l1 t200 t201 _ ?side1 ?side2 A11.out).mono ?_); (case side1 => repeat (first | exact (Kd.C_below HR1.out HB.out) | (with_reducible refine Kd.C_alloc ?_ _) | (with_reducible refine Kd.C_drewN ?_ _) | (with_reducible refine Kd.C_drew ?_))); (case side2 => exact HC1.out); rintro e w' ⟨rfl, ⟨nd, rfl⟩⟩; refine ⟨_, rfl, ?_⟩) | ((with_reducible refine gate_callee (f := 12) rfl ?_); refine goesL_ (some 57) rfl rfl Try.func12 (by kernel_rfl) rfl #[.slice Ao35 t188.length co35, .int .i64 a2, .int .i64 a3] rfl (by (try simp only [List.map_toArray, List.map_cons, List.map_nil]); first | done | rfl | (simp only [List.length_drop, List.length_take]; rfl)) ?_; (with_reducible refine (quorum_Commit.calls _ _ t188 a2 a3 t202 t203 _ ?side1 ?side2 A12.out).mono ?_); (case side1 => repeat (first | exact (Kd.R_reads' HO190.out).2.2 | (with_reducible refine Kd.C_alloc ?_ _) | (with_reducible refine Kd.C_drewN ?_ _) | (with_reducible refine Kd.C_drew ?_))); (case side2 => exact (Kd.R_reads' HO190.out).2.1); rintro e w37 ⟨rfl, hb⟩; refine ⟨_, rfl, ?_⟩; have n0_ := Aside0.mk (Kd.R_below (by (with_reducible repeat (first | apply Kd.R_alloc | apply Kd.R_drewN | apply Kd.R_drew)); exact HO190.out) hb); have n1_ := Aside0.mk (Kd.R_below (by (with_reducible repeat (first | apply Kd.R_alloc | apply Kd.R_drewN | apply Kd.R_drew)); exact HO193.out) hb); have n2_ := Aside0.mk (below_step (by repeat (first | (with_reducible first | exact HB.out | apply below_alloc | apply pw_below_drewN | apply below_drew1) | exact HB.out)) hb); clear HO190; clear HO193; clear HB; have HO190 := n0_; have HO193 := n1_; have HB := n2_; clear n0_ n1_ n2_; (try clear hb); (try clear hb2); (try clear hk); (try clear hi)) | ((with_reducible refine gate_callee (f := 17) rfl ?_); refine goesL_ (some 64) rfl rfl Try.func17 (by kernel_rfl) rfl #[.slice A1 l1.length c1, .int .i64 a2, .int .i64 a3] rfl (by (try simp only [List.map_toArray, List.map_cons, List.map_nil]); first | done | rfl | (simp only [List.length_drop, List.length_take]; rfl)) ?_; (with_reducible refine (transeptref14_Commit.calls k _ _ l1 a2 a3 t204 t205 _ ?side1 ?side2 A13.out).mono ?_); (case side1 => repeat (first | exact (Kd.C_below HR1.out HB.out) | (with_reducible refine Kd.C_alloc ?_ _) | (with_reducible refine Kd.C_drewN ?_ _) | (with_reducible refine Kd.C_drew ?_))); (case side2 => exact HC1.out); rintro e w38 ⟨rfl, hb⟩; refine ⟨_, rfl, ?_⟩; have n0_ := Aside0.mk (Kd.R_below (by (with_reducible repeat (first | apply Kd.R_alloc | apply Kd.R_drewN | apply Kd.R_drew)); exact HO190.out) hb); have n1_ := Aside0.mk (Kd.R_below (by (with_reducible repeat (first | apply Kd.R_alloc | apply Kd.R_drewN | apply Kd.R_drew)); exact HO193.out) hb); have n2_ := Aside0.mk (below_step (by repeat (first | (with_reducible first | exact HB.out | apply below_alloc | apply pw_below_drewN | apply below_drew1) | exact HB.out)) hb); clear HO190; clear HO193; clear HB; have HO190 := n0_; have HO193 := n1_; have HB := n2_; clear n0_ n1_ n2_; (try clear hb); (try clear hb2); (try clear hk); (try clear hi); obtain ⟨Ao39, co39, eo39⟩ := Kd.R_slice HO193.out; subst eo39) | ((with_reducible refine gate_callee (f := 11) rfl ?_); refine goesL_ (some 69) rfl rfl Try.func11 (by kernel_rfl) rfl #[.slice Ao39 t191.length co39] rfl (by (try simp only [List.map_toArray, List.map_cons, List.map_nil]); first | done | rfl | (simp only [List.length_drop, List.length_take]; rfl)) ?_; (with_reducible refine (quorum_Wins.calls k _ _ t191 t206 t207 _ ?side1 ?side2 A14.out).mono ?_); (case side1 => repeat (first | exact (Kd.R_reads' HO193.out).2.2 | (with_reducible refine Kd.C_alloc ?_ _) | (with_reducible refine Kd.C_drewN ?_ _) | (with_reducible refine Kd.C_drew ?_))); (case side2 => exact (Kd.R_reads' HO193.out).2.1); rintro e w' ⟨rfl, ⟨nd, rfl⟩⟩; refine ⟨_, rfl, ?_⟩) | ((with_reducible refine gate_callee (f := 18) rfl ?_); refine goesL_ (some 74) rfl rfl Try.func18 (by kernel_rfl) rfl #[.slice A4 l4.length c4] rfl (by (try simp only [List.map_toArray, List.map_cons, List.map_nil]); first | done | rfl | (simp only [List.length_drop, List.length_take]; rfl)) ?_; (with_reducible refine (transeptref14_Wins.calls k _ _ l4 t208 t209 _ ?side1 ?side2 A15.out).mono ?_); (case side1 => repeat (first | exact (Kd.C_below HR4.out (by repeat (first | (with_reducible first | exact HB.out | apply below_alloc | apply pw_below_drewN | apply below_drew1) | exact HB.out))) | (with_reducible refine Kd.C_alloc ?_ _) | (with_reducible refine Kd.C_drewN ?_ _) | (with_reducible refine Kd.C_drew ?_))); (case side2 => exact HC4.out); rintro e w' ⟨rfl, ⟨nd, rfl⟩⟩; refine ⟨_, rfl, ?_⟩) | (go_at_call 10; (with_reducible refine (transeptlaw14_num.calls t195 t210 _ A17.out).mono ?_); rintro e w' ⟨rfl, ⟨nd, rfl⟩⟩) | (go_at_call 10; (with_reducible refine (transeptlaw14_num.calls t199 t211 _ A20.out).mono ?_); rintro e w' ⟨rfl, ⟨nd, rfl⟩⟩) | (go_at_call 10; (with_reducible refine (transeptlaw14_num.calls t203 t212 _ A23.out).mono ?_); rintro e w' ⟨rfl, ⟨nd, rfl⟩⟩) | (go_at_call 10; (with_reducible refine (transeptlaw14_num.calls t207 t213 _ A26.out).mono ?_); rintro e w' ⟨rfl, ⟨nd, rfl⟩⟩) | (go_at_call 19; (with_reducible refine (transeptplain_SameInts.calls k _ _ t188 _ _ l1 true _ ?side1 ?side2 ?side3 ?side4 A28.out).mono ?_); (case side1 => repeat (first | exact (Kd.R_reads' HO190.out).2.2 | (with_reducible refine Kd.C_alloc ?_ _) | (with_reducible refine Kd.C_drewN ?_ _) | (with_reducible refine Kd.C_drew ?_))); (case side2 => exact (Kd.R_reads' HO190.out).2.1); (case side3 => repeat (first | exact (Kd.C_below HR1.out (by repeat (first | (with_reducible first | exact HB.out | apply below_alloc | apply pw_below_drewN | apply below_drew1) | exact HB.out))) | (with_reducible refine Kd.C_alloc ?_ _) | (with_reducible refine Kd.C_drewN ?_ _) | (with_reducible refine Kd.C_drew ?_))); (case side4 => exact HC1.out); rintro e w' ⟨rfl, ⟨nd, rfl⟩⟩) | (go_at_call 20; (with_reducible refine (transeptplain_SameBools.calls k _ _ t191 _ _ l4 true _ ?side1 ?side2 ?side3 ?side4 A30.out).mono ?_); (case side1 => repeat (first | exact (Kd.R_reads' HO193.out).2.2 | (with_reducible refine Kd.C_alloc ?_ _) | (with_reducible refine Kd.C_drewN ?_ _) | (with_reducible refine Kd.C_drew ?_))); (case side2 => exact (Kd.R_reads' HO193.out).2.1); (case side3 => repeat (first | exact (Kd.C_below HR4.out (by repeat (first | (with_reducible first | exact HB.out | apply below_alloc | apply pw_below_drewN | apply below_drew1) | exact HB.out))) | (with_reducible refine Kd.C_alloc ?_ _) | (with_reducible refine Kd.C_drewN ?_ _) | (with_reducible refine Kd.C_drew ?_))); (case side4 => exact HC4.out); rintro e w' ⟨rfl, ⟨nd, rfl⟩⟩) | (go_at_call 7; (with_reducible refine (transeptlaw14_alive.calls  t216 _ A32.out).mono ?_); rintro e w40 ⟨rfl, hb⟩; have n0_ := Aside0.mk (Kd.R_below (by (with_reducible repeat (first | apply Kd.R_alloc | apply Kd.R_drewN | apply Kd.R_drew)); exact HO190.out) hb); have n1_ := Aside0.mk (Kd.R_below (by (with_reducible repeat (first | apply Kd.R_alloc | apply Kd.R_drewN | apply Kd.R_drew)); exact HO193.out) hb); have n2_ := Aside0.mk (below_step (by repeat (first | (with_reducible first | exact HB.out | apply below_alloc | apply pw_below_drewN | apply below_drew1) | exact HB.out)) hb); clear HO190; clear HO193; clear HB; have HO190 := n0_; have HO193 := n1_; have HB := n2_; clear n0_ n1_ n2_; (try clear hb); (try clear hb2); (try clear hk); (try clear hi)))
                      go_ret
                      exact ⟨by first | rfl | (simp [errW_none, errW_some] <;> rfl) | (simp [*, errW_none, errW_some] <;> rfl), by repeat (first | (with_reducible first | exact HB.out | apply below_alloc | apply pw_below_drewN | apply below_drew1) | exact HB.out)⟩
                    · replace c31 := Bool.eq_false_iff.mpr c31
                      subst c31
                      have H1 : (none) = some r := by rw [if_neg (show ¬ (false = true) by decide)] at H; exact H
                      clear H
                      have H := H1
                      clear H1
                      exact absurd H (by simp)
                  · replace c29 := Bool.eq_false_iff.mpr c29
                    subst c29
                    have H1 : (none) = some r := by rw [if_neg (show ¬ (false = true) by decide)] at H; exact H
                    clear H
                    have H := H1
                    clear H1
                    exact absurd H (by simp)
                · rw [if_neg c27] at H
                  exact absurd H (by simp)
              · rw [if_neg c25] at H
                exact absurd H (by simp)
            · rw [if_neg c24] at H
              exact absurd H (by simp)
          · rw [if_neg c22] at H
            exact absurd H (by simp)
        · rw [if_neg c21] at H
          exact absurd H (by simp)
      · rw [if_neg c19] at H
        exact absurd H (by simp)
    · rw [if_neg c18] at H
      exact absurd H (by simp)
  · rw [if_neg c16] at H
    exact absurd H (by simp)

end Go.Proofs.Ytgoiojfdphfelaa.Print
