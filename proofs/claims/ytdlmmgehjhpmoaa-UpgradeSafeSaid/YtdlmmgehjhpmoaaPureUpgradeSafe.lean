/- In whatever order nodes declare, and activation is tried: no two speak a version that one of them has not declared; once active always active; version 2 is written only if all declare it; what is written in a version can be: UpgradeSafe answers true at every input.
   No condition. -/
import Derived.Test.YtdlmmgehjhpmoaaUpgradeCore
import Derived.Test.YtdlmmgehjhpmoaaStmUpgradeSafe
namespace Go.Proofs.Ytdlmmgehjhpmoaa.Pure
open Go.RowKit Go.Proofs.YtdlmmgehjhpmoaaW.PrintWords Go.Proofs.YtdlmmgehjhpmoaaW.PrintLast Go.Proofs.Ytdlmmgehjhpmoaa.Print

theorem good_at (s : List Int) (h : good s = true) (i : Nat) (hi : i < s.length) : s[i] = 1 ∨ s[i] = 2 := by
  have := List.all_eq_true.1 h _ (List.getElem_mem hi)
  simpa using this
theorem all2_take (s : List Int) (i : Nat) (hi : i < s.length) : all2 (s.take (i + 1)) = (all2 (s.take i) && (s[i] == 2)) := by
  unfold all2
  rw [List.take_succ_eq_append_getElem hi, List.all_append]
  simp
/-- A state of n nodes that may be. -/
def okst (n : Nat) (s : List Int) (act : Bool) : Prop := up_check s act = 0 ∧ s.length = n
theorem safe_l2 (n : Nat) (l : List S56) (x9 : Int) (x12 : Bool) (i : Nat) (a b c d : Int) (ops : List Opr) (s : List Int) (act : Bool) (hs : okst n s act) (hi : i < n) (m : Nat) : ∀ (k j : Nat), j ≤ n → n - j = m → 10 < k →
    transeptlaw23_UpgradeSafe.l2 (k + m + 1) (n : Int) l x9 x12 (i : Int) (j : Int) a b c d ops s act = transeptlaw23_UpgradeSafe.l1 k (n : Int) l x9 x12 ((i + 1 : Nat) : Int) a b c d ops s act := by
  have hz := (up_check_zero s act).1 hs.1
  have hn := hs.2
  induction m with
  | zero =>
    intro k j h1 h2 h3
    simp only [transeptlaw23_UpgradeSafe.l2, Nat.add_zero]
    rw [if_neg (by omega), wrap_next (n := n) hi (by omega)]
  | succ m ih =>
    intro k j h1 h2 h3
    have hjl : j < s.length := by omega
    have hil : i < s.length := by omega
    have hw : wire s act (i : Int) (j : Int) = (mn s[i] s[j], 0) := by
      unfold wire
      rw [if_neg (not_not_intro hs.1), if_neg (by omega), rd_at s i hil, rd_at s j hjl]
    have gi := good_at s hz.2.2.1 i hil
    have gj := good_at s hz.2.2.1 j hjl
    have m1 : ¬ mn s[i] s[j] > s[i] := by unfold mn; split <;> omega
    have m2 : ¬ mn s[i] s[j] > s[j] := by unfold mn; split <;> omega
    have m3 : ¬ mn s[i] s[j] < 1 := by unfold mn; split <;> omega
    have nx := ih k (j + 1) (by omega) (by omega) h3
    have hq2 : 10 < k + m + 1 := by omega
    rw [show k + (m + 1) + 1 = (k + m + 1) + 1 from by omega]
    generalize k + m + 1 = q at nx hq2 ⊢
    simp only [transeptlaw23_UpgradeSafe.l2]
    rw [if_pos (by omega), wire_f s act _ _ _ (by omega), hw]
    simp only [Option.bind_some, transeptlaw23_num.f, if_true]
    rw [if_pos (by omega), if_pos (by omega), rd_at s i hil, if_neg m1, if_pos (by omega), if_pos (by omega), rd_at s j hjl, if_neg m2, if_neg m3, wrap_next (n := n) (by omega) (by omega)]
    exact nx
theorem safe_l1 (n : Nat) (l : List S56) (x9 : Int) (a b c d : Int) (ops : List Opr) (s : List Int) (act : Bool) (hs : okst n s act) (hn9 : n ≤ 9) (m : Nat) : ∀ (k i : Nat), i ≤ n → n - i = m → 10 < k →
    transeptlaw23_UpgradeSafe.l1 (k + m * (n + 3) + 1) (n : Int) l x9 (all2 (s.take i)) (i : Int) a b c d ops s act = transeptlaw23_UpgradeSafe.j7 k (n : Int) l x9 (all2 s) false a b c d ops s act := by
  have hz := (up_check_zero s act).1 hs.1
  have hn := hs.2
  induction m with
  | zero =>
    intro k i h1 h2 h3
    obtain rfl : i = n := by omega
    rw [show s.take i = s from List.take_of_length_le (by omega)]
    simp only [transeptlaw23_UpgradeSafe.l1, Nat.zero_mul, Nat.add_zero]
    rw [if_neg (by omega)]
    cases act
    · rw [if_neg (by decide)]
    · rw [if_pos rfl, hz.2.2.2 rfl]; rfl
  | succ m ih =>
    intro k i h1 h2 h3
    have hil : i < s.length := by omega
    have nx := ih k (i + 1) (by omega) (by omega) h3
    rw [all2_take s i hil] at nx
    have e : k + (m + 1) * (n + 3) + 1 = ((k + m * (n + 3) + 1) + n + 1) + 1 + 1 := by rw [Nat.succ_mul]; omega
    rw [e]
    have j5 : ∀ x12 : Bool, transeptlaw23_UpgradeSafe.j5 ((k + m * (n + 3) + 1) + n + 1 + 1) (n : Int) l x9 x12 (i : Int) a b c d ops s act = transeptlaw23_UpgradeSafe.l1 (k + m * (n + 3) + 1) (n : Int) l x9 x12 ((i + 1 : Nat) : Int) a b c d ops s act := by
      intro x12
      simp only [transeptlaw23_UpgradeSafe.j5]
      exact safe_l2 n l x9 x12 i a b c d ops s act hs (by omega) n (k + m * (n + 3) + 1) 0 (by omega) (by omega) (by omega)
    unfold transeptlaw23_UpgradeSafe.l1
    rw [if_pos (by omega), j5, j5]
    cases h : all2 (s.take i)
    · rw [if_neg (by decide)]
      rw [h, Bool.false_and] at nx
      exact nx
    · rw [if_pos rfl, if_pos (by omega), if_pos (by omega), rd_at s i hil]
      rw [h, Bool.true_and] at nx
      exact nx
theorem safe_l0 (n : Nat) (hn1 : 1 ≤ n) (hn9 : n ≤ 9) (l : List S56) (hl : l.length ≤ 140737488355328) (a b c d : Int) (ops : List Opr) (m : Nat) : ∀ (k i : Nat) (s : List Int) (act : Bool), i ≤ l.length → l.length - i = m → m * 200 + 300 < k → okst n s act →
    transeptlaw23_UpgradeSafe.l0 k (n : Int) l (i : Int) a b c d ops s act = some true := by
  induction m with
  | zero =>
    intro k i s act h1 h2 h3 hs
    obtain ⟨k, rfl⟩ : ∃ m, k = m + 1 + 1 := ⟨k - 2, by omega⟩
    simp only [transeptlaw23_UpgradeSafe.l0, transeptlaw23_UpgradeSafe.j1]
    rw [if_neg (by omega), if_neg (by decide)]
  | succ m ih =>
    intro k i s act h1 h2 h3 hs
    obtain ⟨k, rfl⟩ : ∃ q, k = (q + 1) + n * (n + 3) + 1 + 1 + 1 + 1 + 1 := ⟨k - n * (n + 3) - 6, by
      have : n * (n + 3) ≤ 9 * 12 := Nat.mul_le_mul hn9 (by omega)
      omega⟩
    have hq : n * (n + 3) ≤ 9 * 12 := Nat.mul_le_mul hn9 (by omega)
    have hk : m * 200 + 300 < k := by omega
    have hlt : i < l.length := by omega
    have nx : ∀ s act, okst n s act → transeptlaw23_UpgradeSafe.l0 k (n : Int) l ((i + 1 : Nat) : Int) a b c d ops s act = some true := fun s act h => ih k (i + 1) s act (by omega) (by omega) hk h
    have j7 : ∀ s act, okst n s act → transeptlaw23_UpgradeSafe.j7 (k + 1) (n : Int) l (i : Int) (all2 s) false a b c d ops s act = some true := by
      intro s act h
      have hz := (up_check_zero s act).1 h.1
      simp only [transeptlaw23_UpgradeSafe.j7]
      rw [if_neg (by decide), record_f s act a b c d ops _ (by omega), wrap_next hlt hl]
      simp only [Option.bind_some, transeptlaw23_num.f, command_Encode.f, nx s act h]
      unfold record
      rw [if_neg (not_not_intro h.1)]
      by_cases c0 : cmd_check a b c d ops = 0
      · rw [if_neg (not_not_intro c0)]
        by_cases c1 : act = true ∨ (all2 s = true ∧ a = 5)
        · rw [if_pos c1]
          dsimp only
          rw [if_pos rfl, enc_two_err a b c d ops c0, if_pos rfl, if_pos rfl]
          have ha : all2 s = true := c1.elim hz.2.2.2 (fun x => x.1)
          rw [if_pos ha]
          by_cases c2 : act = true
          · rw [if_pos c2]
          · rw [if_neg c2, if_pos (c1.resolve_left c2).2]
        · rw [if_neg c1]
          by_cases c2 : a ≠ 5 ∧ ops.length ≤ 4
          · rw [if_pos c2]
            dsimp only
            rw [if_pos rfl, enc_one_err a b c d ops c0, if_pos c2, if_pos rfl, if_neg (by decide)]
          · rw [if_neg c2]
            dsimp only
            rw [if_neg (by decide)]
      · rw [if_pos c0, if_neg c0]
    have j3 : ∀ s act, okst n s act → transeptlaw23_UpgradeSafe.j3 ((k + 1) + n * (n + 3) + 1 + 1) (n : Int) l (i : Int) a b c d ops s act = some true := by
      intro s act h
      have h0 := safe_l1 n l (i : Int) a b c d ops s act h hn9 n (k + 1) 0 (by omega) (by omega) (by omega)
      rw [j7 s act h] at h0
      simp only [transeptlaw23_UpgradeSafe.j3]
      exact h0
    have j2 : ∀ (e : Int) (t : List Int) (act' : Bool), (e = 0 → okst n t act' ∧ (act = true → act' = true)) → transeptlaw23_UpgradeSafe.j2 ((k + 1) + n * (n + 3) + 1 + 1 + 1) (n : Int) l (i : Int) e a b c d ops s act t act' = some true := by
      intro e t act' h
      simp only [transeptlaw23_UpgradeSafe.j2, transeptlaw23_num.f, Option.bind_some]
      by_cases he : e = 0
      · obtain ⟨ho, ha⟩ := h he
        have hlen : (t.length : Int) = (n : Int) := by rw [ho.2]
        rw [if_pos he]
        by_cases hact : act = true
        · rw [if_pos hact, if_pos (ha hact), if_pos hlen]
          exact j3 t act' ho
        · rw [if_neg hact, if_pos hlen]
          exact j3 t act' ho
      · rw [if_neg he]
        exact j3 s act hs
    have hz := (up_check_zero s act).1 hs.1
    have stop : transeptlaw23_UpgradeSafe.j1 ((k + 1) + n * (n + 3) + 1 + 1 + 1 + 1) (n : Int) l (i : Int) false a b c d ops s act = some true := by
      simp only [transeptlaw23_UpgradeSafe.j1]
      rw [if_neg (by decide)]
    unfold transeptlaw23_UpgradeSafe.l0
    rw [if_pos (by omega)]
    by_cases c60 : (i : Int) < 60
    · rw [decide_eq_true c60]
      simp only [transeptlaw23_UpgradeSafe.j1]
      rw [if_pos trivial, if_pos (by omega), if_pos (by omega)]
      by_cases cw : (rd_T56 l (i : Int)).f0 = 0
      · rw [if_pos cw, if_neg (by omega), declare_f _ _ _ _ _ (by omega)]
        simp only [Option.bind_some]
        refine j2 _ _ _ ?_
        unfold decl
        rw [if_neg (not_not_intro hs.1)]
        intro h
        split at h
        · cases h
        · rename_i c1
          split at h
          · cases h
          · rename_i c2
            rw [if_neg c1, if_neg c2]
            have hv : (rd_T56 l (i : Int)).f2 = 1 ∨ (rd_T56 l (i : Int)).f2 = 2 := by omega
            refine ⟨⟨(up_check_zero _ _).2 ⟨by rw [List.length_set]; exact hz.1, by rw [List.length_set]; exact hz.2.1, ?_, ?_⟩, by rw [List.length_set]; exact hs.2⟩, fun x => x⟩
            · unfold good
              rw [List.all_eq_true]
              intro x hx
              rcases List.mem_or_eq_of_mem_set hx with hx | rfl
              · exact List.all_eq_true.1 hz.2.2.1 x hx
              · rcases hv with e | e <;> rw [e] <;> rfl
            · intro hact
              have ha := hz.2.2.2 hact
              unfold all2
              rw [List.all_eq_true]
              intro x hx
              rcases List.mem_or_eq_of_mem_set hx with hx | rfl
              · exact List.all_eq_true.1 ha x hx
              · rcases hv with e | e
                · exfalso
                  apply c2
                  left
                  rw [e]
                  obtain ⟨q, hq⟩ := Int.eq_ofNat_of_zero_le (show 0 ≤ Int.tmod (wrap64 ((Int.tmod ((rd_T56 l (i : Int)).f1) (n : Int)) + (n : Int))) (n : Int) by omega)
                  rw [hq] at c1 ⊢
                  rw [rd_at s q (by omega)]
                  have := List.all_eq_true.1 ha _ (List.getElem_mem (show q < s.length by omega))
                  have h2 : s[q]'(by omega) = 2 := by simpa using this
                  rw [h2]
                  decide
                · rw [e]; rfl
      · rw [if_neg cw, activate_f]
        simp only [Option.bind_some]
        refine j2 _ _ _ ?_
        unfold activ
        rw [if_neg (not_not_intro hs.1)]
        intro h
        split at h
        · rename_i ha
          rw [if_pos ha]
          exact ⟨⟨(up_check_zero _ _).2 ⟨hz.1, hz.2.1, hz.2.2.1, fun _ => ha⟩, hs.2⟩, fun _ => rfl⟩
        · cases h
    · rw [decide_eq_false c60]
      exact stop
theorem UpgradeSafe : transeptlaw23_UpgradeSafe.Pure := by
  intro a0 l1 s2 h0 h1 h2
  refine ⟨l1.length * 200 + 400, ?_⟩
  have w0 := wf64 h0
  have t1 := Int.tmod_lt_of_pos a0 (show (0 : Int) < 9 by omega)
  have t2 : -9 < Int.tmod a0 9 := Int.lt_tmod_of_pos a0 (show (0 : Int) < 9 by omega)
  unfold transeptlaw23_UpgradeSafe.f
  rw [at_rounds transeptlaw23_alive.mono (show 100 ≤ l1.length * 200 + 400 by omega) alive_f]
  simp only [Option.bind_some, if_true]
  rw [wrap_add (i := Int.tmod a0 9 + 9) (by omega) (by omega)]
  have t3 := Int.tmod_lt_of_pos (Int.tmod a0 9 + 9) (show (0 : Int) < 9 by omega)
  have t4 := Int.tmod_nonneg 9 (show 0 ≤ Int.tmod a0 9 + 9 by omega)
  obtain ⟨q, hq⟩ := Int.eq_ofNat_of_zero_le t4
  rw [hq] at t3 ⊢
  rw [wrap_add (i := 1 + (q : Int)) (by omega) (by omega), show (1 : Int) + (q : Int) = ((q + 1 : Nat) : Int) by omega, new_f]
  have hnew : newOf ((q + 1 : Nat) : Int) = (List.replicate (q + 1) 1, false, 0) := by
    unfold newOf
    rw [if_neg (by omega), Int.toNat_natCast]
  rw [hnew]
  simp only [Option.bind_some, transeptlaw23_num.f, if_true]
  refine safe_l0 (q + 1) (by omega) (by omega) l1 (by have := h1.1; omega) _ _ _ _ _ l1.length _ 0 _ _ (by omega) (by omega) (by omega) ⟨(up_check_zero _ _).2 ⟨by simp, by simp; omega, ?_, by simp⟩, by simp⟩
  unfold good
  rw [List.all_eq_true]
  intro x hx
  rw [(List.mem_replicate.1 hx).2]
  rfl
end Go.Proofs.Ytdlmmgehjhpmoaa.Pure
