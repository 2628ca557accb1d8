/- QuorumGrows: as one goes on, how far all agree never goes back. -/
import Derived.Test.YtgoiojfdphfelaaStmQuorumGrows
import Derived.Test.YtgoiojfdphfelaaQuorumLib
namespace Go.Proofs.Ytgoiojfdphfelaa.Pure
open Go.RowKit Go.Proofs.YtgoiojfdphfelaaW.PrintWords Go.Proofs.YtgoiojfdphfelaaW.PrintLast Go.Proofs.Ytgoiojfdphfelaa.Print
theorem grows_l0 (l : List Int) (x3 x4 a b : Int) (hl : l.length ≤ 9) (hab : a ≤ b) (hc : (quo_commit l x3 x4).2 = 0 → x3 ≤ (quo_commit l x3 x4).1) (d : Nat) : ∀ (k i : Nat) (m : Int), i ≤ l.length → l.length - i = d → d < k → 0 ≤ m → m ≤ i → l.length < 2 * (m + (cnt (l.drop i) a : Nat)) →
    transeptlaw14_QuorumGrows.l0 k l x3 x4 a b 0 m (i : Int) = some true := by
  induction d with
  | zero =>
    intro k i m h1 h2 h3 h4 h5 h6
    obtain ⟨k, rfl⟩ : ∃ m, k = m + 1 := ⟨k - 1, by omega⟩
    obtain rfl : i = l.length := by omega
    have h7 : cnt (l.drop l.length) a = 0 := by rw [List.drop_length]; rfl
    rw [h7] at h6
    simp only [transeptlaw14_QuorumGrows.l0]
    rw [if_neg (by omega), commit_f, Option.bind_some, num_f, num_f, Option.bind_some, Option.bind_some, if_pos rfl, if_pos hab, wrap_add (i := 2 * m) (by omega) (by omega), decide_eq_true (show 2 * m > (l.length : Int) by omega)]
    by_cases c : (quo_commit l x3 x4).2 = 0
    · rw [if_pos c, if_neg (by have := hc c; omega)]
    · rw [if_neg c]
  | succ d ih =>
    intro k i m h1 h2 h3 h4 h5 h6
    obtain ⟨k, rfl⟩ : ∃ m, k = m + 1 := ⟨k - 1, by omega⟩
    have hlt : i < l.length := by omega
    rw [List.drop_eq_getElem_cons hlt] at h6
    simp only [transeptlaw14_QuorumGrows.l0]
    rw [if_pos (by omega), if_pos (by omega), rd_at l i hlt, wrap_next hlt (by omega)]
    by_cases hb : l[i] ≥ a
    · rw [if_pos hb, wrap_add (i := m + 1) (by omega) (by omega)]
      refine ih k (i + 1) (m + 1) (by omega) (by omega) (by omega) (by omega) (by omega) ?_
      have : cnt (l[i] :: l.drop (i + 1)) a = cnt (l.drop (i + 1)) a + 1 := by simp only [cnt, List.countP_cons, decide_eq_true (show a ≤ l[i] from hb), if_pos]
      rw [this] at h6
      omega
    · rw [if_neg hb]
      refine ih k (i + 1) m (by omega) (by omega) (by omega) (by omega) (by omega) ?_
      have : cnt (l[i] :: l.drop (i + 1)) a = cnt (l.drop (i + 1)) a := by simp only [cnt, List.countP_cons, decide_eq_false (show ¬ a ≤ l[i] from hb), Bool.false_eq_true, if_false, Nat.add_zero]
      rw [this] at h6
      exact h6
theorem cnt_set (l : List Int) (j : Nat) (hj : j < l.length) (v : Int) (hv : l[j] ≤ v) (x : Int) : cnt l x ≤ cnt (l.set j v) x := by
  induction l generalizing j with
  | nil => simp at hj
  | cons y l ih =>
    cases j with
    | zero =>
      simp only [List.set_cons_zero, cnt, List.countP_cons]
      simp only [List.getElem_cons_zero] at hv
      by_cases c : x ≤ y
      · rw [decide_eq_true c, decide_eq_true (show x ≤ v by omega)]; omega
      · rw [decide_eq_false c]; simp
    | succ j =>
      have := ih j (by simpa using hj) (by simpa using hv)
      simp only [List.set_cons_succ, cnt, List.countP_cons] at this ⊢
      omega
theorem QuorumGrows : transeptlaw14_QuorumGrows.Pure := by
  intro l a1 a2 a3 a4 h0 h1 h2 h3 h4
  refine ⟨100, ?_⟩
  have w1 := wf64 h1
  have w2 := wf64 h2
  unfold transeptlaw14_QuorumGrows.f
  rw [alive_f, Option.bind_some, if_pos rfl, agreed_f, Option.bind_some, num_f, Option.bind_some, quo_agreed_eq]
  by_cases c : l.length < 1 ∨ 9 < l.length
  · rw [if_pos c]; rfl
  rw [if_neg c]
  by_cases hin : l.all inr = true
  · rw [if_pos hin, if_pos rfl, copy_f l h0.1, Option.bind_some, if_neg (by omega)]
    have hn : (l.length : Int) ≤ 9 := by omega
    have hn1 : 1 ≤ (l.length : Int) := by omega
    have t1 := Int.tmod_lt_of_pos a1 (show (0 : Int) < (l.length : Int) by omega)
    have t2 : -(l.length : Int) < Int.tmod a1 (l.length : Int) := by
      have := Int.lt_tmod_of_pos a1 (show (0 : Int) < (l.length : Int) by omega)
      exact this
    rw [wrap_add (i := Int.tmod a1 (l.length : Int) + (l.length : Int)) (by omega) (by omega)]
    obtain ⟨j, hj⟩ : ∃ j : Nat, Int.tmod (Int.tmod a1 (l.length : Int) + (l.length : Int)) (l.length : Int) = (j : Int) := by
      refine ⟨(Int.tmod (Int.tmod a1 (l.length : Int) + (l.length : Int)) (l.length : Int)).toNat, ?_⟩
      have := Int.tmod_nonneg (l.length : Int) (show 0 ≤ Int.tmod a1 (l.length : Int) + (l.length : Int) by omega)
      omega
    have hjl : j < l.length := by
      have := Int.tmod_lt_of_pos (Int.tmod a1 (l.length : Int) + (l.length : Int)) (show (0 : Int) < (l.length : Int) by omega)
      omega
    have t3 := Int.tmod_lt_of_pos a2 (show (0 : Int) < 1000 by omega)
    have t4 : -1000 < Int.tmod a2 1000 := by
      have := Int.lt_tmod_of_pos a2 (show (0 : Int) < 1000 by omega)
      exact this
    rw [hj, wrap_add (i := Int.tmod a2 1000 + 1000) (by omega) (by omega)]
    obtain ⟨q, hq⟩ : ∃ q : Nat, Int.tmod (Int.tmod a2 1000 + 1000) 1000 = (q : Int) := by
      refine ⟨(Int.tmod (Int.tmod a2 1000 + 1000) 1000).toNat, ?_⟩
      have := Int.tmod_nonneg 1000 (show 0 ≤ Int.tmod a2 1000 + 1000 by omega)
      omega
    have hq1 : q < 1000 := by
      have := Int.tmod_lt_of_pos (Int.tmod a2 1000 + 1000) (show (0 : Int) < 1000 by omega)
      omega
    rw [hq, if_pos (by omega), if_pos (by omega), rd_at l j hjl]
    have hlj := List.all_eq_true.1 hin _ (List.getElem_mem hjl)
    simp only [inr, decide_eq_true_eq] at hlj
    rw [wrap_add (i := l[j] + (q : Int)) (by omega) (by omega), Int.toNat_natCast]
    obtain ⟨v, hv⟩ : ∃ v, v = mn (l[j] + (q : Int)) 1099511627776 := ⟨_, rfl⟩
    have hv1 : l[j] ≤ v := by rw [hv]; unfold mn; split <;> omega
    have hv2 : v ≤ 1099511627776 := by rw [hv]; unfold mn; split <;> omega
    rw [← hv, agreed_f, Option.bind_some, quo_agreed_eq, List.length_set, if_neg c]
    have hin2 : (l.set j v).all inr = true := by
      rw [List.all_eq_true]
      intro x hx
      rcases List.mem_or_eq_of_mem_set hx with h | h
      · exact List.all_eq_true.1 hin x h
      · subst h
        exact decide_eq_true (by omega)
    rw [if_pos hin2]
    obtain ⟨p0, p1, p2⟩ := agr_spec l (by omega)
    obtain ⟨q0, q1, q2⟩ := agr_spec (l.set j v) (by rw [List.length_set]; omega)
    refine grows_l0 l a3 a4 (agr l) (agr (l.set j v)) (by omega) ?_ ?_ l.length 100 0 0 (by omega) (by omega) (by omega) (by omega) (by omega) ?_
    · refine q2 _ ?_
      rw [List.length_set]
      have := cnt_set l j hjl v hv1 (agr l)
      omega
    · unfold quo_commit
      intro h
      split at h
      · split at h
        · rename_i c1 c2
          rw [if_pos c1, if_pos c2]
          split
          · simp
          · simp only [mx]
            split <;> omega
        · cases h
      · rename_i c1
        exact absurd h c1
    · rw [List.drop_zero]; omega
  · rw [if_neg hin, if_neg (by decide)]; rfl
end Go.Proofs.Ytgoiojfdphfelaa.Pure
