/- What the functions of quorum and its reference answer, in plain words: lemmas for the laws of layer 14. -/
import Derived.Test.YtgoiojfdphfelaaPrint
namespace Go.Proofs.Ytgoiojfdphfelaa.Pure
open Go.RowKit Go.Proofs.YtgoiojfdphfelaaW.PrintWords Go.Proofs.YtgoiojfdphfelaaW.PrintLast Go.Proofs.Ytgoiojfdphfelaa.Print

theorem rd_at (l : List Int) (i : Nat) (h : i < l.length) : rd l (i : Int) = l[i] := by simp [rd, List.getD_eq_getElem?_getD, List.getElem?_eq_getElem h]
theorem rdb_at (l : List Bool) (i : Nat) (h : i < l.length) : rdOf false l (i : Int) = l[i] := by simp [rdOf, List.getD_eq_getElem?_getD, List.getElem?_eq_getElem h]

/-- How many reach x. -/
def cnt (l : List Int) (x : Int) : Nat := l.countP fun y => decide (x ≤ y)
def inr (x : Int) : Bool := decide (0 ≤ x ∧ x ≤ 1099511627776)

theorem foldl_min_le (l : List Int) : ∀ b : Int, l.foldl min b ≤ b ∧ (∀ x ∈ l, l.foldl min b ≤ x) ∧ (l.foldl min b = b ∨ l.foldl min b ∈ l) := by
  induction l with
  | nil => intro b; simp
  | cons y l ih =>
    intro b
    obtain ⟨h1, h2, h3⟩ := ih (min b y)
    simp only [List.foldl_cons, List.mem_cons]
    refine ⟨by omega, ?_, ?_⟩
    · rintro x (rfl | hx)
      · omega
      · exact h2 x hx
    · rcases h3 with h3 | h3
      · rw [h3]
        rcases Int.le_total b y with h | h
        · left; omega
        · right; left; omega
      · exact .inr (.inr h3)
theorem foldl_max_le (l : List Int) : ∀ b : Int, b ≤ l.foldl max b ∧ (∀ x ∈ l, x ≤ l.foldl max b) ∧ (l.foldl max b = b ∨ l.foldl max b ∈ l) := by
  induction l with
  | nil => intro b; simp
  | cons y l ih =>
    intro b
    obtain ⟨h1, h2, h3⟩ := ih (max b y)
    simp only [List.foldl_cons, List.mem_cons]
    refine ⟨by omega, ?_, ?_⟩
    · rintro x (rfl | hx)
      · omega
      · exact h2 x hx
    · rcases h3 with h3 | h3
      · rw [h3]
        rcases Int.le_total y b with h | h
        · left; omega
        · right; left; omega
      · exact .inr (.inr h3)
theorem quo_in_eq (l : List Int) (h : l ≠ []) : quo_in l = l.all inr := by
  have hm : l.getD 0 0 ∈ l := by
    cases l with
    | nil => exact absurd rfl h
    | cons x l => simp
  obtain ⟨a1, a2, a3⟩ := foldl_min_le l (l.getD 0 0)
  obtain ⟨b1, b2, b3⟩ := foldl_max_le l (l.getD 0 0)
  have a4 : l.foldl min (l.getD 0 0) ∈ l := by rcases a3 with e | e; rw [e]; exact hm; exact e
  have b4 : l.foldl max (l.getD 0 0) ∈ l := by rcases b3 with e | e; rw [e]; exact hm; exact e
  rw [Bool.eq_iff_iff]
  simp only [quo_in, inr, List.all_eq_true, Bool.and_eq_true, decide_eq_true_eq]
  constructor
  · rintro ⟨h1, h2⟩ x hx
    have := a2 x hx
    have := b2 x hx
    omega
  · intro hx
    exact ⟨(hx _ a4).1, (hx _ b4).2⟩

theorem cnt_perm {l l' : List Int} (h : l.Perm l') (x : Int) : cnt l x = cnt l' x := h.countP_eq _
theorem cnt_sorted (s : List Int) (hs : s.Pairwise (· ≤ ·)) (i : Nat) (hi : i < s.length) : s.length - i ≤ cnt s s[i] ∧ ∀ x, s.length - i ≤ cnt s x → x ≤ s[i] := by
  have hsplit : ∀ x, cnt s x = cnt (s.take i) x + cnt (s.drop i) x := by
    intro x
    have h := congrArg (cnt · x) (List.take_append_drop i s)
    simp only [cnt, List.countP_append] at h ⊢
    omega
  have hall : cnt (s.drop i) s[i] = s.length - i := by
    unfold cnt
    rw [List.countP_eq_length.2, List.length_drop]
    intro y hy
    obtain ⟨j, hj, rfl⟩ := List.mem_iff_getElem.1 hy
    rw [List.getElem_drop]
    rw [decide_eq_true_eq]
    by_cases h0 : j = 0
    · subst h0; simp
    · exact List.pairwise_iff_getElem.1 hs i (i + j) hi (by simp at hj; omega) (by omega)
  refine ⟨by rw [hsplit]; omega, ?_⟩
  intro x hx
  apply Int.not_lt.1
  intro hlt
  have h0 : cnt (s.take i) x = 0 := by
    unfold cnt
    rw [List.countP_eq_zero]
    intro y hy
    obtain ⟨j, hj, rfl⟩ := List.mem_iff_getElem.1 hy
    rw [List.getElem_take]
    simp at hj
    have := List.pairwise_iff_getElem.1 hs j i (by omega) hi (by omega)
    simp; omega
  have h1 : cnt (s.drop i) x < s.length - i := by
    rw [List.drop_eq_getElem_cons hi]
    have : cnt (s.drop (i + 1)) x ≤ s.length - (i + 1) := by
      have := List.countP_le_length (p := fun y => decide (x ≤ y)) (l := s.drop (i + 1))
      rw [List.length_drop] at this
      exact this
    have e : cnt (s[i] :: s.drop (i + 1)) x = cnt (s.drop (i + 1)) x := by
      unfold cnt
      rw [List.countP_cons, if_neg (by simp; omega)]
      rfl
    rw [e]; omega
  rw [hsplit] at hx
  omega

/-- How far a majority is. -/
def agr (l : List Int) : Int := (l.mergeSort fun x y => decide (x ≤ y)).getD (l.length - (l.length / 2 + 1)) 0
theorem agr_spec (l : List Int) (h : 0 < l.length) : agr l ∈ l ∧ l.length / 2 + 1 ≤ cnt l (agr l) ∧ ∀ x, l.length / 2 + 1 ≤ cnt l x → x ≤ agr l := by
  have hp : (l.mergeSort fun x y => decide (x ≤ y)).Perm l := List.mergeSort_perm _ _
  have hlen : (l.mergeSort fun x y => decide (x ≤ y)).length = l.length := hp.length_eq
  have hs : (l.mergeSort fun x y => decide (x ≤ y)).Pairwise (· ≤ ·) := by
    have := List.pairwise_mergeSort (le := fun (x y : Int) => decide (x ≤ y)) (fun a b c h1 h2 => by simp at *; omega) (fun a b => by simp; omega) l
    exact this.imp (fun h => by simpa using h)
  have hi : l.length - (l.length / 2 + 1) < (l.mergeSort fun x y => decide (x ≤ y)).length := by omega
  have he : agr l = (l.mergeSort fun x y => decide (x ≤ y))[l.length - (l.length / 2 + 1)] := by
    unfold agr
    simp [List.getD_eq_getElem?_getD, List.getElem?_eq_getElem hi]
  obtain ⟨h1, h2⟩ := cnt_sorted _ hs _ hi
  refine ⟨?_, ?_, ?_⟩
  · rw [he]; exact hp.mem_iff.1 (List.getElem_mem _)
  · rw [he, ← cnt_perm hp]; omega
  · intro x hx
    rw [he]
    exact h2 x (by rw [cnt_perm hp]; omega)
theorem agr_unique (l : List Int) (h : 0 < l.length) (b : Int) (h1 : l.length / 2 + 1 ≤ cnt l b) (h2 : ∀ x ∈ l, l.length / 2 + 1 ≤ cnt l x → x ≤ b) : agr l = b := by
  obtain ⟨a0, a1, a2⟩ := agr_spec l h
  have := a2 b h1
  have := h2 _ a0 a1
  omega
theorem quo_agreed_eq (l : List Int) : quo_agreed l = if l.length < 1 ∨ 9 < l.length then (0, 3) else if l.all inr = true then (agr l, 0) else (0, 4) := by
  unfold quo_agreed
  by_cases h : l.length < 1 ∨ 9 < l.length
  · rw [if_pos h, if_pos h]
  · rw [if_neg h, if_neg h, quo_in_eq l (List.length_pos_iff.1 (by omega))]
    cases l.all inr <;> simp [agr]
theorem agreed_f (l : List Int) : quorum_Agreed.f l = some (quo_agreed l) := rfl
theorem agr_perm {l l' : List Int} (h : l.Perm l') (hp : 0 < l.length) : agr l = agr l' := by
  obtain ⟨a0, a1, a2⟩ := agr_spec l' (by rw [← h.length_eq]; exact hp)
  refine agr_unique l hp _ ?_ ?_
  · rw [cnt_perm h, h.length_eq]; exact a1
  · intro x hx hc
    exact a2 x (by rw [← cnt_perm h, ← h.length_eq]; exact hc)
theorem quo_perm {l l' : List Int} (h : l.Perm l') : quo_agreed l = quo_agreed l' := by
  rw [quo_agreed_eq, quo_agreed_eq, h.length_eq]
  by_cases c : l'.length < 1 ∨ 9 < l'.length
  · rw [if_pos c, if_pos c]
  · rw [if_neg c, if_neg c]
    have e : l.all inr = l'.all inr := by
      rw [Bool.eq_iff_iff, List.all_eq_true, List.all_eq_true]
      exact ⟨fun h1 x hx => h1 x (h.mem_iff.2 hx), fun h1 x hx => h1 x (h.mem_iff.1 hx)⟩
    rw [e, agr_perm h (by rw [h.length_eq]; omega)]

theorem maj_f (n : Nat) : quorum_Majority.f (n : Int) = some (if n < 1 ∨ 9 < n then (0, 4) else (((n / 2 + 1 : Nat) : Int), 0)) := by
  by_cases c : n < 1 ∨ 9 < n
  · rw [if_pos c, quo_majorbad n c]
  · rw [if_neg c, quo_major n (by omega) (by omega)]
theorem ref_maj_f (n : Int) : transeptref14_Majority.f n = quorum_Majority.f n := rfl

theorem wins_l0 (l : List Bool) (hl : l.length ≤ 9) (d : Nat) : ∀ (k i : Nat) (m : Int), i ≤ l.length → l.length - i = d → d < k → -20 ≤ m - d → m ≤ 20 → quorum_Wins.l0 k m l (l.length : Int) (i : Int) = some (decide (m - ((l.drop i).count true : Nat) ≤ 0), 0) := by
  induction d with
  | zero =>
    intro k i m h1 h2 h3 h4 h5
    obtain ⟨k, rfl⟩ : ∃ m, k = m + 1 := ⟨k - 1, by omega⟩
    obtain rfl : i = l.length := by omega
    simp only [quorum_Wins.l0]
    rw [if_neg (by omega), List.drop_length]
    simp
  | succ d ih =>
    intro k i m h1 h2 h3 h4 h5
    obtain ⟨k, rfl⟩ : ∃ m, k = m + 1 := ⟨k - 1, by omega⟩
    have hlt : i < l.length := by omega
    simp only [quorum_Wins.l0]
    rw [if_pos (by omega), if_pos (by omega), if_pos (by omega), rdb_at l i hlt, wrap_next hlt (by omega), List.drop_eq_getElem_cons hlt]
    cases hb : l[i]
    · rw [if_neg (by simp), ih k (i + 1) m (by omega) (by omega) (by omega) (by omega) h5]
      simp
    · rw [if_pos rfl, wrap_add (i := m - 1) (by omega) (by omega), ih k (i + 1) (m - 1) (by omega) (by omega) (by omega) (by omega) (by omega)]
      simp only [List.count_cons_self]
      congr 2
      apply decide_eq_decide.2
      omega
def quo_wins (l : List Bool) : Bool × Int := if l.length < 1 ∨ 9 < l.length then (false, 3) else (decide (l.length / 2 + 1 ≤ l.count true), 0)
theorem wins_f (l : List Bool) (k : Nat) (hk : 10 < k) : quorum_Wins.f k l = some (quo_wins l) := by
  unfold quorum_Wins.f quo_wins
  rw [maj_f]
  by_cases c : l.length < 1 ∨ 9 < l.length
  · rw [if_pos c, if_pos c]; rfl
  · rw [if_neg c, if_neg c, Option.bind_some, if_pos rfl]
    have := wins_l0 l (by omega) l.length k 0 ((l.length / 2 + 1 : Nat) : Int) (by omega) (by omega) (by omega) (by omega) (by omega)
    rw [List.drop_zero] at this
    rw [show ((0 : Nat) : Int) = 0 from rfl] at this
    rw [this]
    congr 2
    apply decide_eq_decide.2
    omega
theorem ref_wins_l0 (l : List Bool) (x : Int) (hl : l.length ≤ 9) (d : Nat) : ∀ (k i : Nat) (m : Int), i ≤ l.length → l.length - i = d → d < k → 0 ≤ m → m ≤ i → transeptref14_Wins.l0 k l x m (i : Int) = some (decide (m + ((l.drop i).count true : Nat) ≥ x), 0) := by
  induction d with
  | zero =>
    intro k i m h1 h2 h3 h4 h5
    obtain ⟨k, rfl⟩ : ∃ m, k = m + 1 := ⟨k - 1, by omega⟩
    obtain rfl : i = l.length := by omega
    simp only [transeptref14_Wins.l0]
    rw [if_neg (by omega), List.drop_length]
    simp
  | succ d ih =>
    intro k i m h1 h2 h3 h4 h5
    obtain ⟨k, rfl⟩ : ∃ m, k = m + 1 := ⟨k - 1, by omega⟩
    have hlt : i < l.length := by omega
    simp only [transeptref14_Wins.l0]
    rw [if_pos (by omega), if_pos (by omega), rdb_at l i hlt, wrap_next hlt (by omega), List.drop_eq_getElem_cons hlt]
    cases hb : l[i]
    · rw [if_neg (by simp), ih k (i + 1) m (by omega) (by omega) (by omega) (by omega) (by omega)]
      simp
    · rw [if_pos rfl, wrap_add (i := m + 1) (by omega) (by omega), ih k (i + 1) (m + 1) (by omega) (by omega) (by omega) (by omega) (by omega)]
      simp only [List.count_cons_self]
      congr 2
      apply decide_eq_decide.2
      omega
theorem ref_wins_f (l : List Bool) (k : Nat) (hk : 10 < k) : transeptref14_Wins.f k l = some (quo_wins l) := by
  unfold transeptref14_Wins.f quo_wins
  rw [ref_maj_f, maj_f]
  by_cases c : l.length < 1 ∨ 9 < l.length
  · rw [if_pos c, if_pos c]; rfl
  · rw [if_neg c, if_neg c, Option.bind_some, if_pos rfl]
    have := ref_wins_l0 l ((l.length / 2 + 1 : Nat) : Int) (by omega) l.length k 0 0 (by omega) (by omega) (by omega) (by omega) (by omega)
    rw [List.drop_zero] at this
    rw [show ((0 : Nat) : Int) = 0 from rfl] at this
    rw [this]
    congr 2
    apply decide_eq_decide.2
    omega

theorem reached_l0 (l : List Int) (x : Int) (hl : l.length ≤ 9) (d : Nat) : ∀ (k i : Nat) (m : Int), i ≤ l.length → l.length - i = d → d < k → 0 ≤ m → m ≤ i → transeptref14_reached.l0 k l x m (i : Int) = some (m + (cnt (l.drop i) x : Nat)) := by
  induction d with
  | zero =>
    intro k i m h1 h2 h3 h4 h5
    obtain ⟨k, rfl⟩ : ∃ m, k = m + 1 := ⟨k - 1, by omega⟩
    obtain rfl : i = l.length := by omega
    simp only [transeptref14_reached.l0]
    rw [if_neg (by omega), List.drop_length]
    simp [cnt]
  | succ d ih =>
    intro k i m h1 h2 h3 h4 h5
    obtain ⟨k, rfl⟩ : ∃ m, k = m + 1 := ⟨k - 1, by omega⟩
    have hlt : i < l.length := by omega
    simp only [transeptref14_reached.l0]
    rw [if_pos (by omega), if_pos (by omega), rd_at l i hlt, wrap_next hlt (by omega), List.drop_eq_getElem_cons hlt]
    by_cases hb : l[i] ≥ x
    · rw [if_pos hb, wrap_add (i := m + 1) (by omega) (by omega), ih k (i + 1) (m + 1) (by omega) (by omega) (by omega) (by omega) (by omega)]
      simp only [cnt, List.countP_cons, decide_eq_true (show x ≤ l[i] from hb), if_pos]
      congr 1
      omega
    · rw [if_neg hb, ih k (i + 1) m (by omega) (by omega) (by omega) (by omega) (by omega)]
      simp only [cnt, List.countP_cons, decide_eq_false (show ¬ x ≤ l[i] from hb)]
      simp
theorem reached_f (l : List Int) (x : Int) (hl : l.length ≤ 9) (k : Nat) (hk : 10 < k) : transeptref14_reached.f k l x = some ((cnt l x : Nat) : Int) := by
  unfold transeptref14_reached.f
  have := reached_l0 l x hl l.length k 0 0 (by omega) (by omega) (by omega) (by omega) (by omega)
  rw [List.drop_zero] at this
  simpa using this
theorem ref_l1 (l : List Int) (hl : l.length ≤ 9) (m : Nat) (d : Nat) : ∀ (k i : Nat) (b : Int), i ≤ l.length → l.length - i = d → d + 11 < k → (∀ x ∈ l.take i, m ≤ cnt l x → x ≤ b) → (b = 0 ∨ m ≤ cnt l b) →
    ∃ b' : Int, transeptref14_Agreed.l1 k l (m : Int) b (i : Int) = some (b', 0) ∧ (∀ x ∈ l, m ≤ cnt l x → x ≤ b') ∧ (b' = 0 ∨ m ≤ cnt l b') := by
  induction d with
  | zero =>
    intro k i b h1 h2 h3 h4 h5
    obtain ⟨k, rfl⟩ : ∃ m, k = m + 1 := ⟨k - 1, by omega⟩
    obtain rfl : i = l.length := by omega
    simp only [transeptref14_Agreed.l1]
    rw [if_neg (by omega)]
    rw [List.take_length] at h4
    exact ⟨b, rfl, h4, h5⟩
  | succ d ih =>
    intro k i b h1 h2 h3 h4 h5
    obtain ⟨k, rfl⟩ : ∃ m, k = m + 1 := ⟨k - 1, by omega⟩
    have hlt : i < l.length := by omega
    simp only [transeptref14_Agreed.l1]
    rw [if_pos (by omega), if_pos (by omega), rd_at l i hlt, wrap_next hlt (by omega)]
    have htk : ∀ x, x ∈ l.take (i + 1) → x ∈ l.take i ∨ x = l[i] := by
      intro x hx
      rw [List.take_succ_eq_append_getElem hlt] at hx
      rcases List.mem_append.1 hx with h | h
      · exact .inl h
      · exact .inr (List.mem_singleton.1 h)
    by_cases hb : l[i] > b
    · rw [if_pos hb, reached_f l _ hl k (by omega), Option.bind_some]
      by_cases hc : m ≤ cnt l l[i]
      · rw [if_pos (by omega)]
        refine ih k (i + 1) l[i] (by omega) (by omega) (by omega) ?_ (.inr hc)
        intro x hx hcx
        rcases htk x hx with h | rfl
        · have := h4 x h hcx; omega
        · omega
      · rw [if_neg (by omega)]
        refine ih k (i + 1) b (by omega) (by omega) (by omega) ?_ h5
        intro x hx hcx
        rcases htk x hx with h | rfl
        · exact h4 x h hcx
        · exact absurd hcx hc
    · rw [if_neg hb]
      refine ih k (i + 1) b (by omega) (by omega) (by omega) ?_ h5
      intro x hx hcx
      rcases htk x hx with h | rfl
      · exact h4 x h hcx
      · omega
theorem ref_l0 (l : List Int) (hl : l.length ≤ 9) (m b : Int) (d : Nat) : ∀ (k i : Nat), i ≤ l.length → l.length - i = d → d + 30 < k →
    ∃ k', 25 < k' ∧ transeptref14_Agreed.l0 k l m b (i : Int) = if (l.drop i).all inr = true then transeptref14_Agreed.l1 k' l m b 0 else some (0, 4) := by
  induction d with
  | zero =>
    intro k i h1 h2 h3
    obtain ⟨k, rfl⟩ : ∃ m, k = m + 1 := ⟨k - 1, by omega⟩
    obtain rfl : i = l.length := by omega
    simp only [transeptref14_Agreed.l0]
    rw [if_neg (by omega), List.drop_length]
    exact ⟨k, by omega, rfl⟩
  | succ d ih =>
    intro k i h1 h2 h3
    obtain ⟨k, rfl⟩ : ∃ m, k = m + 1 := ⟨k - 1, by omega⟩
    have hlt : i < l.length := by omega
    obtain ⟨k', hk', e⟩ := ih k (i + 1) (by omega) (by omega) (by omega)
    simp only [transeptref14_Agreed.l0]
    rw [if_pos (by omega), if_pos (by omega), rd_at l i hlt, wrap_next hlt (by omega), List.drop_eq_getElem_cons hlt, List.all_cons, e]
    refine ⟨k', hk', ?_⟩
    by_cases c1 : l[i] < 0
    · rw [if_pos c1, show inr l[i] = false from decide_eq_false (by omega)]; rfl
    · rw [if_neg c1]
      by_cases c2 : l[i] > 1099511627776
      · rw [if_pos c2, show inr l[i] = false from decide_eq_false (by omega)]; rfl
      · rw [if_neg c2, show inr l[i] = true from decide_eq_true (by omega)]; rfl
theorem ref_agreed_f (l : List Int) (k : Nat) (hk : 50 < k) : transeptref14_Agreed.f k l = some (quo_agreed l) := by
  unfold transeptref14_Agreed.f
  rw [ref_maj_f, maj_f, quo_agreed_eq]
  by_cases c : l.length < 1 ∨ 9 < l.length
  · rw [if_pos c, if_pos c]; rfl
  · rw [if_neg c, if_neg c, Option.bind_some, if_pos rfl]
    obtain ⟨k', hk', e⟩ := ref_l0 l (by omega) ((l.length / 2 + 1 : Nat) : Int) 0 l.length k 0 (by omega) (by omega) (by omega)
    rw [List.drop_zero, show ((0 : Nat) : Int) = 0 from rfl] at e
    simp only [] at e ⊢
    rw [e]
    by_cases hin : l.all inr = true
    · rw [if_pos hin, if_pos hin]
      obtain ⟨b', e1, h1, h2⟩ := ref_l1 l (by omega) (l.length / 2 + 1) l.length k' 0 0 (by omega) (by omega) (by omega) (by simp) (.inl rfl)
      rw [show ((0 : Nat) : Int) = 0 from rfl] at e1
      rw [e1]
      congr 2
      rcases h2 with rfl | h2
      · obtain ⟨a0, a1, a2⟩ := agr_spec l (by omega)
        have := h1 _ a0 a1
        have h3 := List.all_eq_true.1 hin _ a0
        simp [inr] at h3
        omega
      · exact (agr_unique l (by omega) b' h2 h1).symm
    · rw [if_neg hin, if_neg hin]

theorem inside2_f (a b : Int) : quorum_inside.f ([a, b] : List Int) = some (inr a && inr b) := by
  rw [quo_inside _ (by simp), quo_in_eq _ (by simp)]
  simp
def quo_commit (l : List Int) (a b : Int) : Int × Int := if (quo_agreed l).2 = 0 then (if (inr a && inr b) = true then (if (quo_agreed l).1 < b then (a, 0) else (mx (quo_agreed l).1 a, 0)) else (0, 4)) else (0, (quo_agreed l).2)
theorem commit_f (l : List Int) (a b : Int) : quorum_Commit.f l a b = some (quo_commit l a b) := by
  unfold quorum_Commit.f quo_commit
  rw [agreed_f, Option.bind_some, inside2_f, Option.bind_some]
  split
  · split
    · split <;> rfl
    · rfl
  · rfl
theorem ref_commit_f (l : List Int) (a b : Int) (k : Nat) (hk : 50 < k) : transeptref14_Commit.f k l a b = some (quo_commit l a b) := by
  unfold transeptref14_Commit.f quo_commit
  rw [ref_agreed_f l k hk, Option.bind_some]
  obtain ⟨k, rfl⟩ : ∃ m, k = m + 1 := ⟨k - 1, by omega⟩
  by_cases c : (quo_agreed l).2 = 0
  · rw [if_pos c, if_pos c]
    simp only [transeptref14_Commit.j0]
    by_cases c1 : a < 0
    · rw [if_pos c1, if_neg (show ¬ (inr a && inr b) = true by simp [inr]; omega)]; rfl
    rw [if_neg c1]
    by_cases c2 : a > 1099511627776
    · rw [if_pos c2, if_neg (show ¬ (inr a && inr b) = true by simp [inr]; omega)]; rfl
    rw [if_neg c2]
    by_cases c3 : b < 0
    · rw [if_pos c3, if_neg (show ¬ (inr a && inr b) = true by simp [inr]; omega)]; rfl
    rw [if_neg c3]
    by_cases c4 : b > 1099511627776
    · rw [if_pos (by simpa using c4), if_neg (show ¬ (inr a && inr b) = true by simp [inr]; omega)]
    rw [if_neg (show ¬ decide (b > 1099511627776) = true by simpa using c4), if_pos (show (inr a && inr b) = true by simp [inr]; omega)]
    by_cases c5 : (quo_agreed l).1 < b
    · rw [if_neg (by omega), if_pos c5]
    · rw [if_pos (by omega), if_neg c5]
      congr 2
      unfold mx
      split <;> split <;> omega
  · rw [if_neg c, if_neg c]

theorem same_l0 (l : List Int) (hl : l.length ≤ 140737488355328) (d : Nat) : ∀ (k i : Nat), i ≤ l.length → l.length - i = d → d < k → transeptplain_SameInts.l0 k l l (i : Int) = some true := by
  induction d with
  | zero =>
    intro k i h1 h2 h3
    obtain ⟨k, rfl⟩ : ∃ m, k = m + 1 := ⟨k - 1, by omega⟩
    obtain rfl : i = l.length := by omega
    simp only [transeptplain_SameInts.l0]
    rw [if_neg (by omega)]
  | succ d ih =>
    intro k i h1 h2 h3
    obtain ⟨k, rfl⟩ : ∃ m, k = m + 1 := ⟨k - 1, by omega⟩
    have hlt : i < l.length := by omega
    simp only [transeptplain_SameInts.l0]
    rw [if_pos (by omega), if_pos (by omega), if_pos (by omega), if_pos trivial, wrap_next hlt hl, ih k (i + 1) (by omega) (by omega) (by omega)]
theorem same_f (l : List Int) (k : Nat) (hl : l.length ≤ 140737488355328) (hk : l.length < k) : transeptplain_SameInts.f k l l = some true := by
  unfold transeptplain_SameInts.f
  rw [if_pos rfl]
  exact same_l0 l hl l.length k 0 (by omega) (by omega) hk
theorem sameb_l0 (l : List Bool) (hl : l.length ≤ 140737488355328) (d : Nat) : ∀ (k i : Nat), i ≤ l.length → l.length - i = d → d < k → transeptplain_SameBools.l0 k l l (i : Int) = some true := by
  induction d with
  | zero =>
    intro k i h1 h2 h3
    obtain ⟨k, rfl⟩ : ∃ m, k = m + 1 := ⟨k - 1, by omega⟩
    obtain rfl : i = l.length := by omega
    simp only [transeptplain_SameBools.l0]
    rw [if_neg (by omega)]
  | succ d ih =>
    intro k i h1 h2 h3
    obtain ⟨k, rfl⟩ : ∃ m, k = m + 1 := ⟨k - 1, by omega⟩
    have hlt : i < l.length := by omega
    simp only [transeptplain_SameBools.l0]
    rw [if_pos (by omega), if_pos (by omega), if_pos (by omega), if_neg (by simp), wrap_next hlt hl, ih k (i + 1) (by omega) (by omega) (by omega)]
theorem sameb_f (l : List Bool) (k : Nat) (hl : l.length ≤ 140737488355328) (hk : l.length < k) : transeptplain_SameBools.f k l l = some true := by
  unfold transeptplain_SameBools.f
  rw [if_pos rfl]
  exact sameb_l0 l hl l.length k 0 (by omega) (by omega) hk
theorem copy_f (l : List Int) (hl : l.length * 8 ≤ 140737488351232) : transeptplain_CopyInts.f l = some l := by
  unfold transeptplain_CopyInts.f
  rw [if_pos (by simp; omega)]
  rfl
theorem copyb_f (l : List Bool) (hl : l.length ≤ 140737488351232) : transeptplain_CopyBools.f l = some l := by
  unfold transeptplain_CopyBools.f
  rw [if_pos (by simp; omega)]
  rfl
theorem alive_f : transeptlaw14_alive.f = some true := by
  have h1 : quo_agreed [5, 3, 9] = (5, 0) := by
    rw [quo_agreed_eq, if_neg (by decide), if_pos (by decide)]
    rw [agr_unique [5, 3, 9] (by decide) 5 (by decide) (by decide)]
  have h2 : quorum_Majority.f 4 = some (3, 0) := maj_f 4
  unfold transeptlaw14_alive.f
  have h3 : wrap64 ((0 : Int) + 0) = 0 := by unfold wrap64; omega
  rw [agreed_f, h1, Option.bind_some, h2]
  simp only [Option.bind_some, transeptlaw14_num.f, h3, if_pos]
  rfl
theorem num_f (a : Int) : transeptlaw14_num.f a = some a := rfl
end Go.Proofs.Ytgoiojfdphfelaa.Pure
