/- Pruned by prune.py, a program of this project, out of what the print and its words (or this project) wrote: what this claim does not reach is struck. -/
import Derived.Test.YtdlmmgehjhpmoaaPrint
namespace Go.Proofs.Ytdlmmgehjhpmoaa.Pure
open Go.RowKit Go.Proofs.YtdlmmgehjhpmoaaW.PrintWords Go.Proofs.YtdlmmgehjhpmoaaW.PrintLast Go.Proofs.Ytdlmmgehjhpmoaa.Print
theorem rd_at (l : List Int) (i : Nat) (h : i < l.length) : rd l (i : Int) = l[i] := by simp [rd, List.getD_eq_getElem?_getD, List.getElem?_eq_getElem h]
def all2 (l : List Int) : Bool := l.all (· == 2)
def good (l : List Int) : Bool := l.all fun v => v == 1 || v == 2
theorem ref_all_l0 (l : List Int) (act : Bool) (hl : l.length ≤ 140737488355328) (d : Nat) : ∀ (k i : Nat), i ≤ l.length → l.length - i = d → d < k → transeptref23_all.l0 k (i : Int) l act = some (all2 (l.drop i)) := by
 induction d with
 | zero =>
  intro k i h1 h2 h3
  obtain ⟨k, rfl⟩ : ∃ m, k = m + 1 := ⟨k - 1, by omega⟩
  obtain rfl : i = l.length := by omega
  simp only [transeptref23_all.l0]
  rw [if_neg (by omega), List.drop_length]
  rfl
 | succ d ih =>
  intro k i h1 h2 h3
  obtain ⟨k, rfl⟩ : ∃ m, k = m + 1 := ⟨k - 1, by omega⟩
  have hlt : i < l.length := by omega
  simp only [transeptref23_all.l0]
  rw [if_pos (by omega), if_pos (by omega), rd_at l i hlt, List.drop_eq_getElem_cons hlt]
  by_cases h : l[i] = 2
  ·rw [if_pos h, wrap_next hlt hl, ih k (i + 1) (by omega) (by omega) (by omega), all2, all2, List.all_cons, show (l[i] == 2) = true by simpa using h]
   rfl
  ·rw [if_neg h, all2, List.all_cons, show (l[i] == 2) = false by simpa using h]
   rfl
theorem ref_all_f (l : List Int) (act : Bool) (k : Nat) (hl : l.length ≤ 140737488355328) (hk : l.length < k) : transeptref23_all.f k l act = some (all2 l) := by
 have := ref_all_l0 l act hl l.length k 0 (by omega) (by omega) hk
 rw [List.drop_zero] at this
 exact this
theorem ref_check_l0 (l : List Int) (act : Bool) (hl : l.length ≤ 140737488355328) (d : Nat) : ∀ (k i : Nat), i ≤ l.length → l.length - i = d → d < k → transeptref23_Check.l0 k (i : Int) l act = some (if good (l.drop i) = true then 0 else 9) := by
 induction d with
 | zero =>
  intro k i h1 h2 h3
  obtain ⟨k, rfl⟩ : ∃ m, k = m + 1 := ⟨k - 1, by omega⟩
  obtain rfl : i = l.length := by omega
  simp only [transeptref23_Check.l0]
  rw [if_neg (by omega), List.drop_length]
  rfl
 | succ d ih =>
  intro k i h1 h2 h3
  obtain ⟨k, rfl⟩ : ∃ m, k = m + 1 := ⟨k - 1, by omega⟩
  have hlt : i < l.length := by omega
  have next := ih k (i + 1) (by omega) (by omega) (by omega)
  simp only [transeptref23_Check.l0]
  rw [if_pos (by omega), if_pos (by omega), rd_at l i hlt, List.drop_eq_getElem_cons hlt, wrap_next hlt hl, next]
  rw [show good (l[i] :: l.drop (i + 1)) = ((l[i] == 1 || l[i] == 2) && good (l.drop (i + 1))) from rfl]
  by_cases h : l[i] = 1
  ·rw [if_pos h, show (l[i] == 1) = true by simpa using h]; rfl
  ·rw [if_neg h]
   by_cases h2 : l[i] = 2
   ·rw [if_pos h2, show (l[i] == 2) = true by simpa using h2, Bool.or_true]; rfl
   ·rw [if_neg h2, show (l[i] == 1) = false by simpa using h, show (l[i] == 2) = false by simpa using h2]; rfl
theorem other_good (l : List Int) : l.any up_other = !good l := by
 induction l with
 | nil => rfl
 | cons x l ih =>
  simp only [List.any_cons, good, List.all_cons]
  rw [ih]
  simp only [good, up_other, bne]
  cases (x == 1) <;> cases (x == 2) <;> simp
theorem ready_all2 (l : List Int) (h : good l = true) : up_ready l = all2 l := by
 induction l with
 | nil => rfl
 | cons x l ih =>
  simp only [good, List.all_cons, Bool.and_eq_true] at h
  have := ih h.2
  simp only [up_ready, all2, List.contains_cons, List.all_cons] at this ⊢
  rw [← this]
  by_cases h1 : x = 1
  ·subst h1; simp
  ·have h2 : x = 2 := by have := h.1; simp [h1] at this; exact this
   subst h2; simp
theorem all2_good (l : List Int) (h : all2 l = true) : good l = true := by
 simp only [all2, good, List.all_eq_true] at h ⊢
 intro x hx
 have := h x hx
 simp at this
 simp [this]
theorem up_check_zero (l : List Int) (act : Bool) : up_check l act = 0 ↔ 1 ≤ l.length ∧ l.length ≤ 9 ∧ good l = true ∧ (act = true → all2 l = true) := by
 unfold up_check
 rw [other_good]
 by_cases h : l.length < 1 ∨ 9 < l.length
 ·rw [if_pos (by rcases h with h | h; exact .inl h; exact .inr (.inl h))]
  constructor
  ·intro h; omega
  ·omega
 ·by_cases hg : good l = true
  ·rw [ready_all2 l hg]
   by_cases h2 : act = true ∧ all2 l = false
   ·rw [if_pos (.inr (.inr (.inr h2)))]
    constructor
    ·intro h; omega
    ·intro h3; have := h3.2.2.2 h2.1; rw [h2.2] at this; cases this
   ·rw [if_neg (by rintro (h3 | h3 | h3 | h3); exact h (.inl h3); exact h (.inr h3); rw [hg] at h3; cases h3; exact h2 h3)]
    refine ⟨fun _ => ⟨by omega, by omega, hg, fun ha => ?_⟩, fun _ => rfl⟩
    cases h4 : all2 l
    ·exact absurd ⟨ha, h4⟩ h2
    ·rfl
  ·rw [if_pos (.inr (.inr (.inl (by simpa using hg))))]
   constructor
   ·intro h; omega
   ·intro h3; exact absurd h3.2.2.1 hg
theorem up_check_two (l : List Int) (act : Bool) : up_check l act = 0 ∨ up_check l act = 9 := by
 unfold up_check
 split
 ·exact .inr rfl
 ·exact .inl rfl
theorem ref_check_f (l : List Int) (act : Bool) (k : Nat) (hl : l.length ≤ 140737488355328) (hk : l.length + 2 < k) : transeptref23_Check.f k l act = some (up_check l act) := by
 obtain ⟨k, rfl⟩ : ∃ m, k = m + 1 := ⟨k - 1, by omega⟩
 have hl0 := ref_check_l0 l act hl l.length k 0 (by omega) (by omega) (by omega)
 rw [show ((0 : Nat) : Int) = 0 from rfl, List.drop_zero] at hl0
 have h9 : up_check l act ≠ 0 → up_check l act = 9 := fun h => (up_check_two l act).resolve_left h
 have key := up_check_zero l act
 unfold transeptref23_Check.f
 rw [ref_all_f l act _ hl (by omega)]
 simp only [transeptref23_Check.j0, Option.bind_some, if_true]
 rw [hl0]
 by_cases h1 : l.length < 1
 ·rw [if_pos (by omega), h9 (by rw [Ne, key]; omega)]
 rw [if_neg (by omega)]
 by_cases h2 : 9 < l.length
 ·rw [if_pos (by omega), h9 (by rw [Ne, key]; omega)]
 rw [if_neg (by omega)]
 cases act
 ·simp only [Bool.false_eq_true, if_false]
  by_cases hg : good l = true
  ·rw [if_pos hg, key.2 ⟨by omega, by omega, hg, by simp⟩]
  ·rw [if_neg hg, h9 (by rw [Ne, key]; exact fun h => hg h.2.2.1)]
 ·simp only [if_true]
  by_cases ha : all2 l = true
  ·rw [ha]
   simp only [Bool.not_true, Bool.false_eq_true, if_false]
   rw [if_pos (all2_good l ha), key.2 ⟨by omega, by omega, all2_good l ha, fun _ => ha⟩]
  ·rw [if_pos (by simpa using ha), h9 (by rw [Ne, key]; exact fun h => ha (h.2.2.2 rfl))]
def decl (l : List Int) (act : Bool) (a v : Int) : List Int × Bool × Int :=
 if up_check l act ≠ 0 then ([], false, 9)
 else if ¬ (0 ≤ a ∧ a < l.length) then ([], false, 4)
 else if v < rd l a ∨ v < 1 ∨ v > 2 then ([], false, 131)
 else (l.set a.toNat v, act, 0)
theorem asked_one (l : List Int) (act : Bool) (a : Int) (k : Nat) (hk : 3 < k) : upgrade_asked.f k l act [a] = some (if up_check l act = 0 then (if 0 ≤ a ∧ a < l.length then 0 else 4) else 9) := by
 obtain ⟨k, rfl⟩ : ∃ m, k = m + 1 + 1 := ⟨k - 2, by omega⟩
 unfold upgrade_asked.f upgrade_Check.f
 simp only [Option.bind_some]
 rcases up_check_two l act with h | h
 ·rw [h]
  simp only [if_true, upgrade_asked.l0]
  have r0 : rd [a] 0 = a := rfl
  have w1 : wrap64 (0 + 1) = 1 := by unfold wrap64; omega
  simp only [List.length_cons, List.length_nil, r0, w1]
  by_cases h0 : a < 0
  ·have : ¬ (0 ≤ a ∧ a < l.length) := by omega
   simp [h0, this]
  ·by_cases h1 : a ≥ (l.length : Int)
   ·have : ¬ (0 ≤ a ∧ a < l.length) := by omega
    simp [h0, h1, this]
   ·have : (0 ≤ a ∧ a < l.length) := by omega
    simp [h0, h1, this]
 ·rw [h]; rfl
theorem declare_f (l : List Int) (act : Bool) (a v : Int) (k : Nat) (hk : 3 < k) : upgrade_Declare.f k l act a v = some (decl l act a v) := by
 unfold upgrade_Declare.f decl
 rw [asked_one l act a k hk]
 simp only [Option.bind_some]
 by_cases h : up_check l act = 0
 ·have hl := (up_check_zero l act).1 h
  simp only [h, if_true, ne_eq, not_true, if_false]
  by_cases h1 : 0 ≤ a ∧ a < l.length
  ·rw [if_pos h1, if_pos rfl, if_pos h1.1, if_pos h1.2, if_neg (show ¬¬(0 ≤ a ∧ a < (l.length : Int)) from not_not_intro h1)]
   by_cases c1 : v < rd l a
   ·rw [if_pos c1, if_pos (.inl c1)]
   ·rw [if_neg c1]
    by_cases c2 : v < 1
    ·rw [if_pos c2, if_pos (.inr (.inl c2))]
    ·rw [if_neg c2]
     by_cases c3 : v > 2
     ·rw [if_pos c3, if_pos (.inr (.inr c3))]
     ·rw [if_neg c3, if_neg (by rintro (h | h | h); exact c1 h; exact c2 h; exact c3 h)]
      unfold upgrade_State_clone.f slices_Clone_int_int.f
      rw [if_pos (by omega)]
      simp only [Option.bind_some]
      rw [if_pos h1.2]
  ·rw [if_neg h1, if_neg (by omega), if_pos h1]
 ·simp only [h, if_false, ne_eq, not_false_iff, if_true]
  rw [if_neg (by omega)]
theorem ref_declare_f (l : List Int) (act : Bool) (a v : Int) (k : Nat) (hl : l.length ≤ 140737488355328) (hk : l.length + 2 < k) : transeptref23_Declare.f k l act a v = some (decl l act a v) := by
 unfold transeptref23_Declare.f decl
 rw [ref_check_f l act k hl hk]
 simp only [Option.bind_some]
 by_cases h : up_check l act = 0
 ·have hl9 := (up_check_zero l act).1 h
  simp only [h, if_true, ne_eq, not_true, if_false]
  have hints : transeptref23_ints.f l = some l := by
   unfold transeptref23_ints.f
   rw [if_pos (by simp; omega)]
   simp
  have hhas : transeptref23_has.f l act a = some (decide (0 ≤ a ∧ a < l.length)) := by
   unfold transeptref23_has.f
   by_cases h0 : a ≥ 0
   ·rw [if_pos h0]; simp; omega
   ·rw [if_neg h0]; simp; omega
  rw [hhas, hints]
  simp only [Option.bind_some]
  by_cases h1 : 0 ≤ a ∧ a < l.length
  ·rw [if_pos (by simpa using h1), if_neg (show ¬¬(0 ≤ a ∧ a < (l.length : Int)) from not_not_intro h1)]
   simp only [h1.1, h1.2, if_true]
   by_cases c1 : v = 1
   ·subst c1
    by_cases c2 : (1 : Int) < rd l a
    ·simp [c2]
    ·simp [c2]
   ·by_cases c2 : v = 2
    ·subst c2
     by_cases c3 : (2 : Int) < rd l a
     ·simp [c3]
     ·simp [c3]
    ·have : v < 1 ∨ v > 2 := by omega
     rw [if_neg c1, if_neg c2, if_pos (.inr this)]
  ·rw [if_neg (show ¬ (decide (0 ≤ a ∧ a < (l.length : Int)) = true) by simpa using h1), if_pos h1]
 ·simp only [h, if_false, ne_eq, not_false_iff, if_true]
def activ (l : List Int) (act : Bool) : List Int × Bool × Int :=
 if up_check l act ≠ 0 then ([], false, 9) else if all2 l = true then (l, true, 0) else ([], false, 131)
theorem activate_f (l : List Int) (act : Bool) : upgrade_Activate.f l act = some (activ l act) := by
 unfold upgrade_Activate.f up_activate activ
 by_cases h : up_check l act = 0
 ·have hl := (up_check_zero l act).1 h
  rw [if_neg (not_not_intro h), if_neg (not_not_intro h), ready_all2 l hl.2.2.1]
  cases all2 l <;> rfl
 ·rw [if_pos h, if_pos h]
theorem ref_activate_f (l : List Int) (act : Bool) (k : Nat) (hl : l.length ≤ 140737488355328) (hk : l.length + 2 < k) : transeptref23_Activate.f k l act = some (activ l act) := by
 unfold transeptref23_Activate.f activ
 rw [ref_check_f l act k hl hk, ref_all_f l act k hl (by omega)]
 simp only [Option.bind_some]
 by_cases h : up_check l act = 0
 ·have hl9 := (up_check_zero l act).1 h
  simp only [h, if_true, ne_eq, not_true, if_false]
  by_cases h2 : all2 l = true
  ·rw [if_pos h2, if_pos h2]
   unfold transeptref23_ints.f
   rw [if_pos (by simp; omega)]
   simp
  ·rw [if_neg h2, if_neg h2]
 ·simp only [h, if_false, ne_eq, not_false_iff, if_true]
theorem same_ints_l0 (a : List Int) (hl : a.length ≤ 140737488355328) (d : Nat) : ∀ (k i : Nat), i ≤ a.length → a.length - i = d → d < k → transeptplain_SameInts.l0 k a a (i : Int) = some true := by
 induction d with
 | zero =>
  intro k i h1 h2 h3
  obtain ⟨k, rfl⟩ : ∃ m, k = m + 1 := ⟨k - 1, by omega⟩
  simp only [transeptplain_SameInts.l0]
  rw [if_neg (by omega)]
 | succ d ih =>
  intro k i h1 h2 h3
  obtain ⟨k, rfl⟩ : ∃ m, k = m + 1 := ⟨k - 1, by omega⟩
  have hlt : i < a.length := by omega
  simp only [transeptplain_SameInts.l0]
  rw [if_pos (by omega), if_pos (by omega), if_pos (by omega), if_pos trivial, wrap_next hlt hl]
  exact ih k (i + 1) (by omega) (by omega) (by omega)
theorem same_f (l : List Int) (act : Bool) (k : Nat) (hl : l.length ≤ 140737488355328) (hk : l.length < k) : transeptlaw23_same.f k l act l act = some true := by
 unfold transeptlaw23_same.f transeptplain_SameInts.f
 rw [if_pos rfl]
 have := same_ints_l0 l hl l.length k 0 (by omega) (by omega) hk
 rw [show ((0 : Nat) : Int) = 0 from rfl] at this
 rw [this]
 simp
theorem alive_f : transeptlaw23_alive.f 100 = some true := by decide +kernel
theorem decl_len (l : List Int) (act : Bool) (a v : Int) : (decl l act a v).1.length ≤ l.length := by
 unfold decl
 split
 ·simp
 split
 ·simp
 split
 ·simp
 ·simp
theorem activ_len (l : List Int) (act : Bool) : (activ l act).1.length ≤ l.length := by
 unfold activ
 split
 ·simp
 split
 ·simp
 ·simp
end Go.Proofs.Ytdlmmgehjhpmoaa.Pure
