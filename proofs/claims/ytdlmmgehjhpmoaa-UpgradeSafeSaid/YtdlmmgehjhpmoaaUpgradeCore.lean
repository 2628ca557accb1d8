/- What the functions of upgrade answer, in plain words (without its reference). -/
import Derived.Test.YtdlmmgehjhpmoaaPrint
namespace Go.Proofs.Ytdlmmgehjhpmoaa.Pure
open Go.RowKit Go.Proofs.YtdlmmgehjhpmoaaW.PrintWords Go.Proofs.YtdlmmgehjhpmoaaW.PrintLast Go.Proofs.Ytdlmmgehjhpmoaa.Print

theorem rd_at (l : List Int) (i : Nat) (h : i < l.length) : rd l (i : Int) = l[i] := by simp [rd, List.getD_eq_getElem?_getD, List.getElem?_eq_getElem h]
def all2 (l : List Int) : Bool := l.all (· == 2)
def good (l : List Int) : Bool := l.all fun v => v == 1 || v == 2
theorem other_good (l : List Int) : l.any up_other = !good l := by
  induction l with
  | nil => rfl
  | cons x l ih =>
    simp only [List.any_cons, good, List.all_cons]
    rw [ih]
    simp only [good, up_other, bne]
    cases (x == 1) <;> cases (x == 2) <;> simp
theorem ready_all2 (l : List Int) (h : good l = true) : up_ready l = all2 l := by
  induction l with
  | nil => rfl
  | cons x l ih =>
    simp only [good, List.all_cons, Bool.and_eq_true] at h
    have := ih h.2
    simp only [up_ready, all2, List.contains_cons, List.all_cons] at this ⊢
    rw [← this]
    by_cases h1 : x = 1
    · subst h1; simp
    · have h2 : x = 2 := by have := h.1; simp [h1] at this; exact this
      subst h2; simp
theorem all2_good (l : List Int) (h : all2 l = true) : good l = true := by
  simp only [all2, good, List.all_eq_true] at h ⊢
  intro x hx
  have := h x hx
  simp at this
  simp [this]
theorem up_check_zero (l : List Int) (act : Bool) : up_check l act = 0 ↔ 1 ≤ l.length ∧ l.length ≤ 9 ∧ good l = true ∧ (act = true → all2 l = true) := by
  unfold up_check
  rw [other_good]
  by_cases h : l.length < 1 ∨ 9 < l.length
  · rw [if_pos (by rcases h with h | h; exact .inl h; exact .inr (.inl h))]
    constructor
    · intro h; omega
    · omega
  · by_cases hg : good l = true
    · rw [ready_all2 l hg]
      by_cases h2 : act = true ∧ all2 l = false
      · rw [if_pos (.inr (.inr (.inr h2)))]
        constructor
        · intro h; omega
        · intro h3; have := h3.2.2.2 h2.1; rw [h2.2] at this; cases this
      · rw [if_neg (by rintro (h3 | h3 | h3 | h3); exact h (.inl h3); exact h (.inr h3); rw [hg] at h3; cases h3; exact h2 h3)]
        refine ⟨fun _ => ⟨by omega, by omega, hg, fun ha => ?_⟩, fun _ => rfl⟩
        cases h4 : all2 l
        · exact absurd ⟨ha, h4⟩ h2
        · rfl
    · rw [if_pos (.inr (.inr (.inl (by simpa using hg))))]
      constructor
      · intro h; omega
      · intro h3; exact absurd h3.2.2.1 hg
theorem up_check_two (l : List Int) (act : Bool) : up_check l act = 0 ∨ up_check l act = 9 := by
  unfold up_check
  split
  · exact .inr rfl
  · exact .inl rfl
def decl (l : List Int) (act : Bool) (a v : Int) : List Int × Bool × Int :=
  if up_check l act ≠ 0 then ([], false, 9)
  else if ¬ (0 ≤ a ∧ a < l.length) then ([], false, 4)
  else if v < rd l a ∨ v < 1 ∨ v > 2 then ([], false, 131)
  else (l.set a.toNat v, act, 0)
theorem asked_one (l : List Int) (act : Bool) (a : Int) (k : Nat) (hk : 3 < k) : upgrade_asked.f k l act [a] = some (if up_check l act = 0 then (if 0 ≤ a ∧ a < l.length then 0 else 4) else 9) := by
  obtain ⟨k, rfl⟩ : ∃ m, k = m + 1 + 1 := ⟨k - 2, by omega⟩
  unfold upgrade_asked.f upgrade_Check.f
  simp only [Option.bind_some]
  rcases up_check_two l act with h | h
  · rw [h]
    simp only [if_true, upgrade_asked.l0]
    have r0 : rd [a] 0 = a := rfl
    have w1 : wrap64 (0 + 1) = 1 := by unfold wrap64; omega
    simp only [List.length_cons, List.length_nil, r0, w1]
    by_cases h0 : a < 0
    · have : ¬ (0 ≤ a ∧ a < l.length) := by omega
      simp [h0, this]
    · by_cases h1 : a ≥ (l.length : Int)
      · have : ¬ (0 ≤ a ∧ a < l.length) := by omega
        simp [h0, h1, this]
      · have : (0 ≤ a ∧ a < l.length) := by omega
        simp [h0, h1, this]
  · rw [h]; rfl
theorem declare_f (l : List Int) (act : Bool) (a v : Int) (k : Nat) (hk : 3 < k) : upgrade_Declare.f k l act a v = some (decl l act a v) := by
  unfold upgrade_Declare.f decl
  rw [asked_one l act a k hk]
  simp only [Option.bind_some]
  by_cases h : up_check l act = 0
  · have hl := (up_check_zero l act).1 h
    simp only [h, if_true, ne_eq, not_true, if_false]
    by_cases h1 : 0 ≤ a ∧ a < l.length
    · rw [if_pos h1, if_pos rfl, if_pos h1.1, if_pos h1.2, if_neg (show ¬¬(0 ≤ a ∧ a < (l.length : Int)) from not_not_intro h1)]
      by_cases c1 : v < rd l a
      · rw [if_pos c1, if_pos (.inl c1)]
      · rw [if_neg c1]
        by_cases c2 : v < 1
        · rw [if_pos c2, if_pos (.inr (.inl c2))]
        · rw [if_neg c2]
          by_cases c3 : v > 2
          · rw [if_pos c3, if_pos (.inr (.inr c3))]
          · rw [if_neg c3, if_neg (by rintro (h | h | h); exact c1 h; exact c2 h; exact c3 h)]
            unfold upgrade_State_clone.f slices_Clone_int_int.f
            rw [if_pos (by omega)]
            simp only [Option.bind_some]
            rw [if_pos h1.2]
    · rw [if_neg h1, if_neg (by omega), if_pos h1]
  · simp only [h, if_false, ne_eq, not_false_iff, if_true]
    rw [if_neg (by omega)]
def activ (l : List Int) (act : Bool) : List Int × Bool × Int :=
  if up_check l act ≠ 0 then ([], false, 9) else if all2 l = true then (l, true, 0) else ([], false, 131)
theorem activate_f (l : List Int) (act : Bool) : upgrade_Activate.f l act = some (activ l act) := by
  unfold upgrade_Activate.f up_activate activ
  by_cases h : up_check l act = 0
  · have hl := (up_check_zero l act).1 h
    rw [if_neg (not_not_intro h), if_neg (not_not_intro h), ready_all2 l hl.2.2.1]
    cases all2 l <;> rfl
  · rw [if_pos h, if_pos h]
theorem alive_f : transeptlaw23_alive.f 100 = some true := by decide +kernel
theorem decl_len (l : List Int) (act : Bool) (a v : Int) : (decl l act a v).1.length ≤ l.length := by
  unfold decl
  split
  · simp
  split
  · simp
  split
  · simp
  · simp
theorem activ_len (l : List Int) (act : Bool) : (activ l act).1.length ≤ l.length := by
  unfold activ
  split
  · simp
  split
  · simp
  · simp
abbrev Opr := S77
def wire (l : List Int) (act : Bool) (a b : Int) : Int × Int :=
  if up_check l act ≠ 0 then (0, 9)
  else if ¬ (0 ≤ a ∧ a < l.length) ∨ ¬ (0 ≤ b ∧ b < l.length) then (0, 4)
  else (mn (rd l a) (rd l b), 0)
theorem asked_two (l : List Int) (act : Bool) (a b : Int) (k : Nat) (hk : 4 < k) : upgrade_asked.f k l act [a, b] = some (if up_check l act = 0 then (if (0 ≤ a ∧ a < l.length) ∧ (0 ≤ b ∧ b < l.length) then 0 else 4) else 9) := by
  obtain ⟨k, rfl⟩ : ∃ m, k = m + 1 + 1 + 1 := ⟨k - 3, by omega⟩
  unfold upgrade_asked.f upgrade_Check.f
  simp only [Option.bind_some]
  rcases up_check_two l act with h | h
  · rw [h]
    simp only [if_true, upgrade_asked.l0]
    have r0 : rd [a, b] 0 = a := rfl
    have r1 : rd [a, b] 1 = b := rfl
    have w1 : wrap64 (0 + 1) = 1 := by unfold wrap64; omega
    have w2 : wrap64 (1 + 1) = 2 := by unfold wrap64; omega
    simp only [List.length_cons, List.length_nil, w1, r0, r1, w2]
    by_cases h0 : a < 0
    · have : ¬ ((0 ≤ a ∧ a < l.length) ∧ (0 ≤ b ∧ b < l.length)) := by omega
      simp [h0, this]
    · by_cases h1 : a ≥ (l.length : Int)
      · have : ¬ ((0 ≤ a ∧ a < l.length) ∧ (0 ≤ b ∧ b < l.length)) := by omega
        simp [h0, h1, this]
      · by_cases h2 : b < 0
        · have : ¬ ((0 ≤ a ∧ a < l.length) ∧ (0 ≤ b ∧ b < l.length)) := by omega
          simp [h0, h1, h2, this]
        · by_cases h3 : b ≥ (l.length : Int)
          · have : ¬ ((0 ≤ a ∧ a < l.length) ∧ (0 ≤ b ∧ b < l.length)) := by omega
            simp [h0, h1, h2, h3, this]
          · have : ((0 ≤ a ∧ a < l.length) ∧ (0 ≤ b ∧ b < l.length)) := by omega
            simp [h0, h1, h2, h3, this]
  · rw [h]; rfl
theorem wire_f (l : List Int) (act : Bool) (a b : Int) (k : Nat) (hk : 4 < k) : upgrade_Wire.f k l act a b = some (wire l act a b) := by
  unfold upgrade_Wire.f wire
  rw [asked_two l act a b k hk]
  simp only [Option.bind_some]
  by_cases h : up_check l act = 0
  · rw [if_pos h, if_neg (not_not_intro h)]
    by_cases h1 : (0 ≤ a ∧ a < l.length) ∧ (0 ≤ b ∧ b < l.length)
    · rw [if_pos h1, if_pos rfl, if_pos h1.1.1, if_pos h1.1.2, if_pos h1.2.1, if_pos h1.2.2, if_neg (by omega)]
    · rw [if_neg h1, if_neg (by decide), if_pos (by omega)]
  · rw [if_neg h, if_neg (by decide), if_pos h]
def record (l : List Int) (act : Bool) (a b c d : Int) (ops : List Opr) : Int × Int :=
  if up_check l act ≠ 0 then (0, 9)
  else if cmd_check a b c d ops ≠ 0 then (0, cmd_check a b c d ops)
  else if act = true ∨ (all2 l = true ∧ a = 5) then (2, 0)
  else if a ≠ 5 ∧ ops.length ≤ 4 then (1, 0) else (0, 131)
theorem enc_two_err (a b c d : Int) (l : List Opr) (h : cmd_check a b c d l = 0) : (cmd_encode 2 a b c d l).2 = 0 := by
  unfold cmd_encode
  rw [if_neg (not_not_intro h), if_neg (by omega), if_pos rfl]
theorem enc_one_err (a b c d : Int) (l : List Opr) (h : cmd_check a b c d l = 0) : (cmd_encode 1 a b c d l).2 = if a ≠ 5 ∧ l.length ≤ 4 then 0 else 131 := by
  unfold cmd_encode
  rw [if_neg (not_not_intro h)]
  by_cases h1 : a ≠ 5 ∧ l.length ≤ 4
  · rw [if_pos ⟨rfl, h1⟩, if_pos h1]
  · rw [if_neg (fun x => h1 x.2), if_neg (by decide), if_neg h1]
theorem record_f (l : List Int) (act : Bool) (a b c d : Int) (ops : List Opr) (k : Nat) (hk : 40 < k) : upgrade_Record.f k l act a b c d ops = some (record l act a b c d ops) := by
  obtain ⟨k, rfl⟩ : ∃ m, k = m + 1 := ⟨k - 1, by omega⟩
  unfold upgrade_Record.f record upgrade_Check.f
  simp only [Option.bind_some, command_Check.f]
  by_cases h : up_check l act = 0
  · rw [if_pos h, if_neg (not_not_intro h)]
    have hl := (up_check_zero l act).1 h
    by_cases h0 : cmd_check a b c d ops = 0
    · rw [if_pos h0, if_neg (not_not_intro h0)]
      have e2 := enc_two_err a b c d ops h0
      have e1 := enc_one_err a b c d ops h0
      have jt : upgrade_Record.j0 (k + 1) 1 true a b c d ops = some (2, 0) := by
        simp only [upgrade_Record.j0, command_Encode.f, Option.bind_some, if_true]
        rw [if_pos e2]
      have jf : upgrade_Record.j0 (k + 1) 1 false a b c d ops = some (if a ≠ 5 ∧ ops.length ≤ 4 then (1, 0) else (0, 131)) := by
        simp only [upgrade_Record.j0, command_Encode.f, Option.bind_some, Bool.false_eq_true, if_false]
        rw [e1]
        by_cases h1 : a ≠ 5 ∧ ops.length ≤ 4
        · rw [if_pos h1, if_pos rfl, if_pos h1]
        · rw [if_neg h1, if_neg (by decide), if_neg h1]
      cases act
      · simp only [Bool.false_eq_true, if_false, false_or]
        rw [up_ready_f l false (k + 1) (by omega) (by omega), ready_all2 l hl.2.2.1]
        simp only [Option.bind_some]
        by_cases ha : all2 l = true
        · rw [if_pos ha]
          by_cases h5 : a = 5
          · rw [show (a == 5) = true by simpa using h5, jt, if_pos ⟨ha, h5⟩]
          · rw [show (a == 5) = false by simpa using h5, jf, if_neg (show ¬ (all2 l = true ∧ a = 5) from fun x => h5 x.2)]
        · rw [if_neg ha, jf, if_neg (show ¬ (all2 l = true ∧ a = 5) from fun x => ha x.1)]
      · simp only [if_true, true_or]
        rw [jt]
    · rw [if_neg h0, if_pos h0]
  · rw [if_neg h, if_pos h]
    rcases up_check_two l act with h9 | h9
    · exact absurd h9 h
    · rw [h9]
def newOf (n : Int) : List Int × Bool × Int := if n < 1 ∨ n > 9 then ([], false, 4) else (List.replicate n.toNat 1, false, 0)
theorem new_f (n : Int) : upgrade_New.f n = some (newOf n) := by
  unfold upgrade_New.f newOf slices_Repeat_int_int.f
  by_cases h1 : n < 1
  · rw [if_pos h1, if_pos (.inl h1)]
  · rw [if_neg h1]
    by_cases h2 : n > 9
    · rw [if_pos h2, if_pos (.inr h2)]
    · rw [if_neg h2, if_pos ⟨rfl, by omega, by omega⟩, if_neg (by omega)]
      rfl
theorem new_len (n : Int) : (newOf n).1.length ≤ 9 := by
  unfold newOf
  split
  · simp
  · simp; omega
end Go.Proofs.Ytdlmmgehjhpmoaa.Pure
