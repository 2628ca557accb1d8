/- A verdict that is known is never against what a shard has done: ResolveSays answers true at every input.
   No condition. -/
import Derived.Test.YtijebbbfofcocaaStmResolveSays
namespace Go.Proofs.Ytijebbbfofcocaa.Pure
open Go.RowKit Go.Proofs.YtijebbbfofcocaaW.PrintWords Go.Proofs.YtijebbbfofcocaaW.PrintLast Go.Proofs.Ytijebbbfofcocaa.Print

theorem wrap_in {i : Int} {n : Nat} (h0 : 0 ≤ i) (h : i < (n : Int)) (hn : n ≤ 140737488351232) : wrap64 (i + 1) = i + 1 := by
  unfold wrap64
  omega

def conv (v : S31) : S36 := ⟨v.f0, v.f1, v.f2⟩

theorem views_l0 (l : List S31) (hn : l.length * 24 ≤ 140737488351232) (d : Nat) : ∀ (k i : Nat), i ≤ l.length → l.length - i = d → d < k →
    transeptlaw22_views.l0 k l ((l.take i).map conv) (i : Int) = some (l.map conv) := by
  induction d with
  | zero =>
    intro k i h1 h2 h3
    obtain ⟨k, rfl⟩ : ∃ m, k = m + 1 := ⟨k - 1, by omega⟩
    obtain rfl : i = l.length := by omega
    simp only [transeptlaw22_views.l0]
    rw [if_neg (by omega), List.take_length]
  | succ d ih =>
    intro k i h1 h2 h3
    obtain ⟨k, rfl⟩ : ∃ m, k = m + 1 := ⟨k - 1, by omega⟩
    have hlt : i < l.length := by omega
    simp only [transeptlaw22_views.l0]
    rw [if_pos (by omega), if_pos (by omega), if_pos (by simp; omega), wrap_in (by omega) (by omega) (show l.length ≤ _ by omega)]
    have := ih k (i + 1) (by omega) (by omega) (by omega)
    rw [List.take_succ_eq_append_getElem hlt, List.map_append] at this
    have e : rd_T31 l (i : Int) = l[i] := by simp [rd_T31, List.getD_eq_getElem?_getD, List.getElem?_eq_getElem hlt]
    rw [e]
    exact this

theorem views_f (l : List S31) (hn : l.length * 24 ≤ 140737488351232) (k : Nat) (hk : l.length < k) : transeptlaw22_views.f k l = some (l.map conv) :=
  views_l0 l hn l.length k 0 (by omega) (by omega) hk

theorem law_l0 (x0 : Bool) (x1 : Int) (l : List S31) (v : Int) (is : Bool) (hn : l.length * 24 ≤ 140737488351232)
    (h2 : (∃ x ∈ l, x.f2 = 2) → is = true ∧ v = 1) (h3 : (∃ x ∈ l, x.f2 = 3) → is = true → v = 2) (hi : is = (v != 0)) (hd : x0 = true → v = x1) (d : Nat) : ∀ (k i : Nat), i ≤ l.length → l.length - i = d → d < k →
    transeptlaw22_ResolveSays.l0 k x0 x1 l v is (i : Int) = some true := by
  induction d with
  | zero =>
    intro k i h1 h2' h3'
    obtain ⟨k, rfl⟩ : ∃ m, k = m + 1 := ⟨k - 1, by omega⟩
    simp only [transeptlaw22_ResolveSays.l0]
    rw [if_neg (by omega), if_pos (by rw [hi]; simp)]
    cases x0
    · rfl
    · have := hd rfl
      simp [this]
  | succ d ih =>
    intro k i h1 h2' h3'
    obtain ⟨k, rfl⟩ : ∃ m, k = m + 1 := ⟨k - 1, by omega⟩
    have hlt : i < l.length := by omega
    have e : rd_T31 l (i : Int) = l[i] := by simp [rd_T31, List.getD_eq_getElem?_getD, List.getElem?_eq_getElem hlt]
    have hm : l[i] ∈ l := List.getElem_mem hlt
    have next := ih k (i + 1) (by omega) (by omega) (by omega)
    simp only [transeptlaw22_ResolveSays.l0]
    rw [if_pos (by omega), if_pos (by omega), wrap_in (by omega) (by omega) (show l.length ≤ _ by omega), e]
    rw [Int.natCast_add] at next
    by_cases c2 : l[i].f2 = 2
    · obtain ⟨ht, hv⟩ := h2 ⟨_, hm, c2⟩
      rw [if_pos c2, if_pos ht, if_pos hv, if_neg (by omega)]
      exact next
    · rw [if_neg c2]
      by_cases c3 : l[i].f2 = 3
      · rw [if_pos c3]
        by_cases ht : is = true
        · rw [if_pos ht, if_pos (h3 ⟨_, hm, c3⟩ ht)]
          exact next
        · rw [if_neg ht]
          exact next
      · rw [if_neg c3]
        exact next

theorem ResolveSays : transeptlaw22_ResolveSays.Pure := by
  intro a0 a1 l _ hl
  have hn := hl.1
  have alive : transeptlaw22_alive.f (l.length + 100) = some true := by
    have h : transeptlaw22_alive.f 100 = some true := by decide +kernel
    exact at_rounds transeptlaw22_alive.mono (by omega) h
  refine ⟨l.length + 100, ?_⟩
  unfold transeptlaw22_ResolveSays.f
  rw [alive, views_f l hn _ (by omega)]
  simp only [Option.bind_some, if_true, resolve_Verdict.f, transeptlaw22_num.f]
  have ph : ∀ p, resolve_ph (l.map conv) p = true ↔ ∃ x ∈ l, x.f2 = p := by
    intro p
    simp [resolve_ph, conv]
  generalize hv : resolve_verd a0 a1 (l.map conv) = r at *
  unfold resolve_verd at hv
  by_cases c0 : a0 = true ∧ a1 ≠ 1 ∧ a1 ≠ 2
  · rw [if_pos c0] at hv; subst hv; simp
  rw [if_neg c0] at hv
  by_cases c1 : (l.map conv).length > 4
  · rw [if_pos c1] at hv; subst hv; simp
  rw [if_neg c1] at hv
  by_cases c2 : (l.map conv).any (fun v => !resolve_may v) = true
  · rw [if_pos c2] at hv; subst hv; simp
  rw [if_neg c2] at hv
  by_cases c3 : resolve_twice (l.map conv) = true
  · rw [if_pos c3] at hv; subst hv; simp
  rw [if_neg c3] at hv
  have p2 := ph 2
  have p3 := ph 3
  generalize resolve_ph (l.map conv) 2 = b2 at p2 hv
  generalize resolve_ph (l.map conv) 3 = b3 at p3 hv
  by_cases c4 : (b2 && b3 || a0 && a1 == 1 && b3 || a0 && a1 == 2 && b2) = true
  · rw [if_pos c4] at hv; subst hv; simp
  rw [if_neg c4] at hv
  by_cases c5 : a0 = true
  · rw [if_pos c5] at hv
    subst hv
    subst c5
    have ha : a1 = 1 ∨ a1 = 2 := by
      by_cases z : a1 = 1
      · exact .inl z
      · simp at c0; exact .inr (c0 z)
    simp only [if_true]
    refine law_l0 true a1 l a1 true hn ?_ ?_ ?_ ?_ l.length _ 0 (by omega) (by omega) (by omega)
    · intro h
      have := p2.2 h
      subst this
      rcases ha with rfl | rfl
      · exact ⟨rfl, rfl⟩
      · simp at c4
    · intro h _
      have := p3.2 h
      subst this
      rcases ha with rfl | rfl
      · simp at c4
      · rfl
    · rcases ha with rfl | rfl <;> rfl
    · exact fun _ => rfl
  · have c5' : a0 = false := by simpa using c5
    subst c5'
    rw [if_neg (by simp)] at hv
    by_cases c6 : b2 = true
    · rw [if_pos c6] at hv
      subst hv
      subst c6
      simp only [if_true]
      refine law_l0 false a1 l 1 true hn (fun _ => ⟨rfl, rfl⟩) ?_ rfl (by simp) l.length _ 0 (by omega) (by omega) (by omega)
      intro h _
      have := p3.2 h
      subst this
      simp at c4
    · rw [if_neg c6] at hv
      subst hv
      simp only [if_true]
      refine law_l0 false a1 l 0 false hn (fun h => absurd (p2.2 h) c6) (fun _ h => by cases h) rfl (by simp) l.length _ 0 (by omega) (by omega) (by omega)

end Go.Proofs.Ytijebbbfofcocaa.Pure
