/- QuorumOrder: how far all agree does not hang on who is who, and is one of the numbers. -/
import Derived.Test.YtgoiojfdphfelaaStmQuorumOrder
import Derived.Test.YtgoiojfdphfelaaQuorumLib
namespace Go.Proofs.Ytgoiojfdphfelaa.Pure
open Go.RowKit Go.Proofs.YtgoiojfdphfelaaW.PrintWords Go.Proofs.YtgoiojfdphfelaaW.PrintLast Go.Proofs.Ytgoiojfdphfelaa.Print
theorem swap_adj : ∀ (k : Nat) (l : List Int), k + 1 < l.length → ((l.set k (l.getD (k + 1) 0)).set (k + 1) (l.getD k 0)).Perm l := by
  intro k
  induction k with
  | zero =>
    intro l h
    match l, h with
    | x :: y :: l, _ => exact List.Perm.swap x y l
  | succ k ih =>
    intro l h
    match l, h with
    | x :: l, h => exact (ih l (by simpa using h)).cons x
theorem order_l1 (l : List Int) (a e : Int) (hl : l.length ≤ 140737488355328) (d : Nat) : ∀ (k i : Nat) (c : Bool), i ≤ l.length → l.length - i = d → d < k → (c = true ∨ a ∈ l.drop i) →
    transeptlaw14_QuorumOrder.l1 k l a e a e c (i : Int) = some true := by
  induction d with
  | zero =>
    intro k i c h1 h2 h3 h4
    obtain ⟨k, rfl⟩ : ∃ m, k = m + 1 := ⟨k - 1, by omega⟩
    obtain rfl : i = l.length := by omega
    rw [List.drop_length] at h4
    simp only [transeptlaw14_QuorumOrder.l1]
    rw [if_neg (by omega)]
    rcases h4 with rfl | h4
    · simp
    · cases h4
  | succ d ih =>
    intro k i c h1 h2 h3 h4
    obtain ⟨k, rfl⟩ : ∃ m, k = m + 1 := ⟨k - 1, by omega⟩
    have hlt : i < l.length := by omega
    rw [List.drop_eq_getElem_cons hlt] at h4
    have nx := fun c h => ih k (i + 1) c (by omega) (by omega) (by omega) h
    simp only [transeptlaw14_QuorumOrder.l1]
    rw [if_pos (by omega), wrap_next hlt hl]
    cases c
    · rw [if_neg (by simp), if_pos (by omega), rd_at l i hlt]
      refine nx _ ?_
      rcases h4 with h4 | h4
      · cases h4
      · rcases List.mem_cons.1 h4 with h | h
        · left; simp [h]
        · exact .inr h
    · rw [if_pos rfl]
      exact nx _ (.inl rfl)
theorem order_j1 (l own : List Int) (a e : Int) (hl : l.length ≤ 140737488355328) (hp : own.Perm l) (hq : quo_agreed l = (a, e)) (k : Nat) (hk : l.length + 1 < k) : transeptlaw14_QuorumOrder.j1 k l a e own = some true := by
  obtain ⟨k, rfl⟩ : ∃ m, k = m + 1 := ⟨k - 1, by omega⟩
  simp only [transeptlaw14_QuorumOrder.j1]
  rw [agreed_f, quo_perm hp, hq, Option.bind_some]
  simp only [num_f, Option.bind_some]
  have := order_l1 l a e hl l.length k 0 (e != 0) (by omega) (by omega) (by omega) ?_
  · simpa using this
  · rw [quo_agreed_eq] at hq
    split at hq
    · cases hq; left; rfl
    · split at hq
      · rename_i h1 h2
        cases hq
        right
        rw [List.drop_zero]
        exact (agr_spec l (by omega)).1
      · cases hq; left; rfl
theorem order_l0 (l ts : List Int) (a e : Int) (hl : l.length ≤ 140737488355328) (hts : ts.length ≤ 140737488355328) (hq : quo_agreed l = (a, e)) (d : Nat) : ∀ (k i : Nat) (own : List Int), i ≤ ts.length → ts.length - i = d → d + l.length + 10 < k → own.Perm l →
    transeptlaw14_QuorumOrder.l0 k l ts a e own (i : Int) = some true := by
  induction d with
  | zero =>
    intro k i own h1 h2 h3 hp
    obtain ⟨k, rfl⟩ : ∃ m, k = m + 1 := ⟨k - 1, by omega⟩
    simp only [transeptlaw14_QuorumOrder.l0]
    rw [if_neg (by omega)]
    exact order_j1 l own a e hl hp hq k (by omega)
  | succ d ih =>
    intro k i own h1 h2 h3 hp
    obtain ⟨k, rfl⟩ : ∃ m, k = m + 1 := ⟨k - 1, by omega⟩
    have hlt : i < ts.length := by omega
    have jj := order_j1 l own a e hl hp hq k (by omega)
    have hlen := hp.length_eq
    simp only [transeptlaw14_QuorumOrder.l0]
    rw [if_pos (by omega)]
    by_cases c1 : (i : Int) < 40
    · rw [if_pos c1]
      by_cases c2 : (own.length : Int) > 1
      · rw [if_pos c2, if_pos (by omega), rd_at ts i hlt, wrap_next hlt hts]
        obtain ⟨n, hn⟩ : ∃ n : Nat, own.length = n + 2 := ⟨own.length - 2, by omega⟩
        have e1 : (own.length : Int) - 1 = ((n + 1 : Nat) : Int) := by omega
        rw [e1, wrap_add (i := ((n + 1 : Nat) : Int)) (by omega) (by omega), if_neg (by omega)]
        have t1 := Int.tmod_lt_of_pos ts[i] (show (0 : Int) < ((n + 1 : Nat) : Int) by omega)
        have t2 : -((n + 1 : Nat) : Int) < Int.tmod ts[i] ((n + 1 : Nat) : Int) := Int.lt_tmod_of_pos ts[i] (show (0 : Int) < ((n + 1 : Nat) : Int) by omega)
        rw [wrap_add (i := Int.tmod ts[i] ((n + 1 : Nat) : Int) + (own.length : Int)) (by omega) (by omega), wrap_add (i := Int.tmod ts[i] ((n + 1 : Nat) : Int) + (own.length : Int) - 1) (by omega) (by omega)]
        obtain ⟨j, hj⟩ : ∃ j : Nat, Int.tmod (Int.tmod ts[i] ((n + 1 : Nat) : Int) + (own.length : Int) - 1) ((n + 1 : Nat) : Int) = (j : Int) := by
          refine ⟨(Int.tmod (Int.tmod ts[i] ((n + 1 : Nat) : Int) + (own.length : Int) - 1) ((n + 1 : Nat) : Int)).toNat, ?_⟩
          have := Int.tmod_nonneg ((n + 1 : Nat) : Int) (show 0 ≤ Int.tmod ts[i] ((n + 1 : Nat) : Int) + (own.length : Int) - 1 by omega)
          omega
        have hjl : j < n + 1 := by
          have := Int.tmod_lt_of_pos (Int.tmod ts[i] ((n + 1 : Nat) : Int) + (own.length : Int) - 1) (show (0 : Int) < ((n + 1 : Nat) : Int) by omega)
          omega
        rw [hj, wrap_next (n := own.length) (by omega) (by omega), if_pos (by omega), if_pos (by omega), if_pos (by omega), if_pos (by omega)]
        rw [show rd own ((j + 1 : Nat) : Int) = own.getD (j + 1) 0 from rfl, show rd own (j : Int) = own.getD j 0 from rfl, Int.toNat_natCast, Int.toNat_natCast]
        exact ih k (i + 1) _ (by omega) (by omega) (by omega) ((swap_adj j own (by omega)).trans hp)
      · rw [if_neg c2]
        exact jj
    · rw [if_neg c1]
      exact jj
theorem QuorumOrder : transeptlaw14_QuorumOrder.Pure := by
  intro l ts h0 h1
  refine ⟨l.length + ts.length + 100, ?_⟩
  unfold transeptlaw14_QuorumOrder.f
  rw [alive_f, Option.bind_some, if_pos rfl, agreed_f, Option.bind_some, copy_f l h0.1, Option.bind_some]
  exact order_l0 l ts _ _ (by have := h0.1; omega) (by have := h1.1; omega) rfl ts.length _ 0 l (by omega) (by omega) (by omega) (List.Perm.refl _)
end Go.Proofs.Ytgoiojfdphfelaa.Pure
