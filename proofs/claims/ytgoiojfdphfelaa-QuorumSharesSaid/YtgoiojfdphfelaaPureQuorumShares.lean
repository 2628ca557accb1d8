/- QuorumShares: two majorities of the same nodes share one. -/
import Derived.Test.YtgoiojfdphfelaaStmQuorumShares
import Derived.Test.YtgoiojfdphfelaaQuorumLib
namespace Go.Proofs.Ytgoiojfdphfelaa.Pure
open Go.RowKit Go.Proofs.YtgoiojfdphfelaaW.PrintWords Go.Proofs.YtgoiojfdphfelaaW.PrintLast Go.Proofs.Ytgoiojfdphfelaa.Print
/-- Is there one that both have? -/
def both (a b : List Bool) : Bool := (List.zipWith (· && ·) a b).any id
theorem both_count : ∀ (a b : List Bool), a.length = b.length → both a b = false → a.count true + b.count true ≤ a.length := by
  intro a
  induction a with
  | nil => intro b h _; cases b with | nil => simp | cons _ _ => simp at h
  | cons x a ih =>
    intro b h hb
    cases b with
    | nil => simp at h
    | cons y b =>
      simp only [both, List.zipWith_cons_cons, List.any_cons, Bool.or_eq_false_iff, id] at hb
      have := ih b (by simpa using h) hb.2
      cases x <;> cases y <;> simp at hb ⊢ <;> omega
theorem shares_l0 (a b : List Bool) (n : Nat) (x y : Bool) (ha : n ≤ a.length) (hb : n ≤ b.length) (hn : n ≤ 9) (d : Nat) : ∀ (k i : Nat) (c : Bool), i ≤ n → n - i = d → d < k →
    transeptlaw14_QuorumShares.l0 k a b (n : Int) x y c (i : Int) = some (if x = true ∧ y = true then (c || both ((a.take n).drop i) ((b.take n).drop i)) else true) := by
  induction d with
  | zero =>
    intro k i c h1 h2 h3
    obtain ⟨k, rfl⟩ : ∃ m, k = m + 1 := ⟨k - 1, by omega⟩
    obtain rfl : i = n := by omega
    simp only [transeptlaw14_QuorumShares.l0]
    rw [if_neg (by omega)]
    rw [List.drop_of_length_le (by rw [List.length_take]; omega)]
    cases x <;> cases y <;> simp [both]
  | succ d ih =>
    intro k i c h1 h2 h3
    obtain ⟨k, rfl⟩ : ∃ m, k = m + 1 := ⟨k - 1, by omega⟩
    have hlt : i < n := by omega
    have hla : i < (a.take n).length := by rw [List.length_take]; omega
    have hlb : i < (b.take n).length := by rw [List.length_take]; omega
    have e : both ((a.take n).drop i) ((b.take n).drop i) = ((a[i]'(by omega) && b[i]'(by omega)) || both ((a.take n).drop (i + 1)) ((b.take n).drop (i + 1))) := by
      rw [List.drop_eq_getElem_cons hla, List.drop_eq_getElem_cons hlb]
      simp [both]
    have nx := fun c => ih k (i + 1) c (by omega) (by omega) (by omega)
    simp only [transeptlaw14_QuorumShares.l0]
    rw [if_pos (by omega), wrap_next hlt (by omega), e]
    cases c
    · rw [if_neg (by simp), if_pos (by omega), if_pos (by omega), rdb_at a i (by omega)]
      cases hai : a[i]'(by omega)
      · rw [if_neg (by simp), nx]
        simp
      · rw [if_pos rfl, if_pos (by omega), rdb_at b i (by omega), nx]
        simp
    · rw [if_pos rfl, nx]
      simp
theorem QuorumShares : transeptlaw14_QuorumShares.Pure := by
  intro a b _ _
  refine ⟨100, ?_⟩
  obtain ⟨n, hn⟩ : ∃ n : Nat, n = min a.length b.length := ⟨_, rfl⟩
  have hmn : mn (a.length : Int) (b.length : Int) = (n : Int) := by unfold mn; split <;> omega
  have hna : n ≤ a.length := by omega
  have hnb : n ≤ b.length := by omega
  have la : (a.take n).length = n := by rw [List.length_take]; omega
  have lb : (b.take n).length = n := by rw [List.length_take]; omega
  unfold transeptlaw14_QuorumShares.f
  rw [alive_f, Option.bind_some, if_pos rfl, hmn, if_pos (by omega), if_pos (by omega)]
  simp only [Int.toNat_natCast]
  rw [wins_f _ _ (by omega), Option.bind_some, if_pos (by omega), wins_f _ _ (by omega), Option.bind_some]
  simp only [num_f, Option.bind_some]
  unfold quo_wins
  rw [la, lb]
  by_cases c : n < 1 ∨ 9 < n
  · rw [if_pos c, if_pos c]
    simp only [transeptlaw14_QuorumShares.j0]
    rw [if_neg (by decide), if_pos trivial, if_pos trivial]
    by_cases c1 : (n : Int) < 1
    · rw [if_pos c1]
    · rw [if_neg c1, decide_eq_true (by omega)]
  · rw [if_neg c, if_neg c]
    simp only [transeptlaw14_QuorumShares.j0]
    rw [if_pos trivial, if_neg (by decide)]
    have := shares_l0 a b n (decide (n / 2 + 1 ≤ (a.take n).count true)) (decide (n / 2 + 1 ≤ (b.take n).count true)) hna hnb (by omega) n 99 0 false (by omega) (by omega) (by omega)
    rw [show ((0 : Nat) : Int) = 0 from rfl] at this
    rw [this]
    rw [List.drop_zero, List.drop_zero]
    split
    · rename_i h
      cases hb : both (a.take n) (b.take n)
      · exfalso
        have := both_count _ _ (by rw [la, lb]) hb
        have h1 := of_decide_eq_true h.1
        have h2 := of_decide_eq_true h.2
        omega
      · rfl
    · rfl
end Go.Proofs.Ytgoiojfdphfelaa.Pure
