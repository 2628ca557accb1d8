/- Of any state: declarations, activation, what is spoken and what is written in are the page's; the state that was handed in stays: UpgradeTells answers true at every input.
   No condition. -/
import Derived.Test.YtdlmmgehjhpmoaaUpgradeLib
import Derived.Test.YtdlmmgehjhpmoaaCommandLib
import Derived.Test.YtdlmmgehjhpmoaaStmUpgradeTells
namespace Go.Proofs.Ytdlmmgehjhpmoaa.Pure
open Go.RowKit Go.Proofs.YtdlmmgehjhpmoaaW.PrintWords Go.Proofs.YtdlmmgehjhpmoaaW.PrintLast Go.Proofs.Ytdlmmgehjhpmoaa.Print

/-- What two nodes speak. -/
def wire (l : List Int) (act : Bool) (a b : Int) : Int × Int :=
  if up_check l act ≠ 0 then (0, 9)
  else if ¬ (0 ≤ a ∧ a < l.length) ∨ ¬ (0 ≤ b ∧ b < l.length) then (0, 4)
  else (mn (rd l a) (rd l b), 0)
theorem asked_two (l : List Int) (act : Bool) (a b : Int) (k : Nat) (hk : 4 < k) : upgrade_asked.f k l act [a, b] = some (if up_check l act = 0 then (if (0 ≤ a ∧ a < l.length) ∧ (0 ≤ b ∧ b < l.length) then 0 else 4) else 9) := by
  obtain ⟨k, rfl⟩ : ∃ m, k = m + 1 + 1 + 1 := ⟨k - 3, by omega⟩
  unfold upgrade_asked.f upgrade_Check.f
  simp only [Option.bind_some]
  rcases up_check_two l act with h | h
  · rw [h]
    simp only [if_true, upgrade_asked.l0]
    have r0 : rd [a, b] 0 = a := rfl
    have r1 : rd [a, b] 1 = b := rfl
    have w1 : wrap64 (0 + 1) = 1 := by unfold wrap64; omega
    have w2 : wrap64 (1 + 1) = 2 := by unfold wrap64; omega
    simp only [List.length_cons, List.length_nil, w1, r0, r1, w2]
    by_cases h0 : a < 0
    · have : ¬ ((0 ≤ a ∧ a < l.length) ∧ (0 ≤ b ∧ b < l.length)) := by omega
      simp [h0, this]
    · by_cases h1 : a ≥ (l.length : Int)
      · have : ¬ ((0 ≤ a ∧ a < l.length) ∧ (0 ≤ b ∧ b < l.length)) := by omega
        simp [h0, h1, this]
      · by_cases h2 : b < 0
        · have : ¬ ((0 ≤ a ∧ a < l.length) ∧ (0 ≤ b ∧ b < l.length)) := by omega
          simp [h0, h1, h2, this]
        · by_cases h3 : b ≥ (l.length : Int)
          · have : ¬ ((0 ≤ a ∧ a < l.length) ∧ (0 ≤ b ∧ b < l.length)) := by omega
            simp [h0, h1, h2, h3, this]
          · have : ((0 ≤ a ∧ a < l.length) ∧ (0 ≤ b ∧ b < l.length)) := by omega
            simp [h0, h1, h2, h3, this]
  · rw [h]; rfl
theorem wire_f (l : List Int) (act : Bool) (a b : Int) (k : Nat) (hk : 4 < k) : upgrade_Wire.f k l act a b = some (wire l act a b) := by
  unfold upgrade_Wire.f wire
  rw [asked_two l act a b k hk]
  simp only [Option.bind_some]
  by_cases h : up_check l act = 0
  · rw [if_pos h, if_neg (not_not_intro h)]
    by_cases h1 : (0 ≤ a ∧ a < l.length) ∧ (0 ≤ b ∧ b < l.length)
    · rw [if_pos h1, if_pos rfl, if_pos h1.1.1, if_pos h1.1.2, if_pos h1.2.1, if_pos h1.2.2, if_neg (by omega)]
    · rw [if_neg h1, if_neg (by decide), if_pos (by omega)]
  · rw [if_neg h, if_neg (by decide), if_pos h]
theorem ref_wire_f (l : List Int) (act : Bool) (a b : Int) (k : Nat) (hl : l.length ≤ 140737488355328) (hk : l.length + 2 < k) : transeptref23_Wire.f k l act a b = some (wire l act a b) := by
  unfold transeptref23_Wire.f wire transeptref23_has.f
  rw [ref_check_f l act k hl hk]
  simp only [Option.bind_some]
  by_cases h : up_check l act = 0
  · rw [if_pos h, if_neg (not_not_intro h)]
    by_cases h0 : 0 ≤ a
    · by_cases h1 : a < l.length
      · by_cases h2 : 0 ≤ b
        · by_cases h3 : b < l.length
          · simp [h0, h1, h2, h3]
          · simp [h0, h1, h2, h3]
        · simp [h0, h1, h2]
      · simp [h0, h1]
    · simp [h0]
  · rw [if_neg h, if_pos h]
/-- What a command is written in. -/
def record (l : List Int) (act : Bool) (a b c d : Int) (ops : List Opr) : Int × Int :=
  if up_check l act ≠ 0 then (0, 9)
  else if cmd_check a b c d ops ≠ 0 then (0, cmd_check a b c d ops)
  else if act = true ∨ (all2 l = true ∧ a = 5) then (2, 0)
  else if a ≠ 5 ∧ ops.length ≤ 4 then (1, 0) else (0, 131)
theorem enc_two_err (a b c d : Int) (l : List Opr) (h : cmd_check a b c d l = 0) : (cmd_encode 2 a b c d l).2 = 0 := by
  unfold cmd_encode
  rw [if_neg (not_not_intro h), if_neg (by omega), if_pos rfl]
theorem enc_one_err (a b c d : Int) (l : List Opr) (h : cmd_check a b c d l = 0) : (cmd_encode 1 a b c d l).2 = if a ≠ 5 ∧ l.length ≤ 4 then 0 else 131 := by
  unfold cmd_encode
  rw [if_neg (not_not_intro h)]
  by_cases h1 : a ≠ 5 ∧ l.length ≤ 4
  · rw [if_pos ⟨rfl, h1⟩, if_pos h1]
  · rw [if_neg (fun x => h1 x.2), if_neg (by decide), if_neg h1]
theorem record_f (l : List Int) (act : Bool) (a b c d : Int) (ops : List Opr) (k : Nat) (hk : 40 < k) : upgrade_Record.f k l act a b c d ops = some (record l act a b c d ops) := by
  obtain ⟨k, rfl⟩ : ∃ m, k = m + 1 := ⟨k - 1, by omega⟩
  unfold upgrade_Record.f record upgrade_Check.f
  simp only [Option.bind_some, command_Check.f]
  by_cases h : up_check l act = 0
  · rw [if_pos h, if_neg (not_not_intro h)]
    have hl := (up_check_zero l act).1 h
    by_cases h0 : cmd_check a b c d ops = 0
    · rw [if_pos h0, if_neg (not_not_intro h0)]
      have e2 := enc_two_err a b c d ops h0
      have e1 := enc_one_err a b c d ops h0
      have jt : upgrade_Record.j0 (k + 1) 1 true a b c d ops = some (2, 0) := by
        simp only [upgrade_Record.j0, command_Encode.f, Option.bind_some, if_true]
        rw [if_pos e2]
      have jf : upgrade_Record.j0 (k + 1) 1 false a b c d ops = some (if a ≠ 5 ∧ ops.length ≤ 4 then (1, 0) else (0, 131)) := by
        simp only [upgrade_Record.j0, command_Encode.f, Option.bind_some, Bool.false_eq_true, if_false]
        rw [e1]
        by_cases h1 : a ≠ 5 ∧ ops.length ≤ 4
        · rw [if_pos h1, if_pos rfl, if_pos h1]
        · rw [if_neg h1, if_neg (by decide), if_neg h1]
      cases act
      · simp only [Bool.false_eq_true, if_false, false_or]
        rw [up_ready_f l false (k + 1) (by omega) (by omega), ready_all2 l hl.2.2.1]
        simp only [Option.bind_some]
        by_cases ha : all2 l = true
        · rw [if_pos ha]
          by_cases h5 : a = 5
          · rw [show (a == 5) = true by simpa using h5, jt, if_pos ⟨ha, h5⟩]
          · rw [show (a == 5) = false by simpa using h5, jf, if_neg (show ¬ (all2 l = true ∧ a = 5) from fun x => h5 x.2)]
        · rw [if_neg ha, jf, if_neg (show ¬ (all2 l = true ∧ a = 5) from fun x => ha x.1)]
      · simp only [if_true, true_or]
        rw [jt]
    · rw [if_neg h0, if_pos h0]
  · rw [if_neg h, if_pos h]
    rcases up_check_two l act with h9 | h9
    · exact absurd h9 h
    · rw [h9]
theorem ref_record_f (l : List Int) (act : Bool) (a b c d : Int) (ops : List Opr) (hl : l.length ≤ 140737488355328) (ho : ops.length ≤ 140737488355328) (k : Nat) (hk : l.length + 3 * ops.length + 60 < k) : transeptref23_Record.f k l act a b c d ops = some (record l act a b c d ops) := by
  obtain ⟨k, rfl⟩ : ∃ m, k = m + 1 + 1 := ⟨k - 2, by omega⟩
  unfold transeptref23_Record.f record
  rw [ref_check_f l act _ hl (by omega)]
  simp only [Option.bind_some]
  by_cases h : up_check l act = 0
  · rw [if_pos h, if_neg (not_not_intro h), ref_cmd_check_f a b c d ops ho _ (by omega)]
    have hu := (up_check_zero l act).1 h
    simp only [Option.bind_some]
    by_cases h0 : cmd_check a b c d ops = 0
    · rw [if_pos h0, if_neg (not_not_intro h0), ref_all_f l act _ hl (by omega)]
      have e1 := enc_one_err a b c d ops h0
      have jt : transeptref23_Record.j1 (k + 1) true a b c d ops = some (2, 0) := by simp only [transeptref23_Record.j1, if_true]
      have jf : transeptref23_Record.j1 (k + 1) false a b c d ops = some (if a ≠ 5 ∧ ops.length ≤ 4 then (1, 0) else (0, 131)) := by
        simp only [transeptref23_Record.j1, Bool.false_eq_true, if_false]
        rw [ref_encode_f 1 a b c d ops ho k (by omega)]
        simp only [Option.bind_some]
        rw [e1]
        by_cases h1 : a ≠ 5 ∧ ops.length ≤ 4
        · rw [if_pos h1, if_pos rfl, if_pos h1]
        · rw [if_neg h1, if_neg (by decide), if_neg h1]
      have j0 : transeptref23_Record.j0 (k + 1 + 1) false l act a b c d ops = some (if act = true ∨ a = 5 then (2, 0) else if a ≠ 5 ∧ ops.length ≤ 4 then (1, 0) else (0, 131)) := by
        simp only [transeptref23_Record.j0, Bool.false_eq_true, if_false]
        cases act
        · simp only [Bool.false_eq_true, if_false, false_or]
          by_cases h5 : a = 5
          · rw [show (a == 5) = true by simpa using h5, jt, if_pos h5]
          · rw [show (a == 5) = false by simpa using h5, jf, if_neg h5]
        · simp only [if_true, true_or]
          rw [jt]
      simp only [Option.bind_some]
      by_cases h5 : a = 5
      · rw [if_pos h5]
        by_cases ha : all2 l = true
        · rw [ha]
          simp only [Bool.not_true]
          rw [j0, if_pos (.inr h5), if_pos (.inr ⟨trivial, h5⟩)]
        · have hact : ¬ act = true := fun x => ha (hu.2.2.2 x)
          rw [show all2 l = false by simpa using ha]
          simp only [Bool.not_false, transeptref23_Record.j0, if_true]
          rw [if_neg (by simp [hact]), if_neg (fun x => x.1 h5)]
      · rw [if_neg h5, j0]
        by_cases ha : act = true
        · rw [if_pos (.inl ha), if_pos (.inl ha)]
        · rw [if_neg (show ¬ (act = true ∨ a = 5) from fun x => x.elim ha h5), if_neg (show ¬ (act = true ∨ (all2 l = true ∧ a = 5)) from fun x => x.elim ha (fun y => h5 y.2))]
    · rw [if_neg h0, if_pos h0]
  · rw [if_neg h, if_pos h]
def newOf (n : Int) : List Int × Bool × Int := if n < 1 ∨ n > 9 then ([], false, 4) else (List.replicate n.toNat 1, false, 0)
theorem new_f (n : Int) : upgrade_New.f n = some (newOf n) := by
  unfold upgrade_New.f newOf slices_Repeat_int_int.f
  by_cases h1 : n < 1
  · rw [if_pos h1, if_pos (.inl h1)]
  · rw [if_neg h1]
    by_cases h2 : n > 9
    · rw [if_pos h2, if_pos (.inr h2)]
    · rw [if_neg h2, if_pos ⟨rfl, by omega, by omega⟩, if_neg (by omega)]
      rfl
theorem ref_new_l0 (n : Nat) (hn : n ≤ 9) (d : Nat) : ∀ (k i : Nat), i ≤ n → n - i = d → d < k → transeptref23_New.l0 k (n : Int) (i : Int) (List.replicate i 1) false = some (List.replicate n 1, false, 0) := by
  induction d with
  | zero =>
    intro k i h1 h2 h3
    obtain ⟨k, rfl⟩ : ∃ m, k = m + 1 := ⟨k - 1, by omega⟩
    obtain rfl : i = n := by omega
    simp only [transeptref23_New.l0]
    rw [if_neg (by omega)]
  | succ d ih =>
    intro k i h1 h2 h3
    obtain ⟨k, rfl⟩ : ∃ m, k = m + 1 := ⟨k - 1, by omega⟩
    simp only [transeptref23_New.l0]
    rw [if_pos (by omega), if_pos (by simp; omega), wrap_next (n := n) (by omega) (by omega), ← List.replicate_succ']
    exact ih k (i + 1) (by omega) (by omega) (by omega)
theorem ref_new_f (n : Int) (k : Nat) (hk : 20 < k) : transeptref23_New.f k n = some (newOf n) := by
  obtain ⟨k, rfl⟩ : ∃ m, k = m + 1 := ⟨k - 1, by omega⟩
  unfold transeptref23_New.f newOf
  simp only [transeptref23_New.j0]
  by_cases h1 : n < 1
  · rw [if_pos h1, if_pos trivial, if_pos (.inl h1)]
  · rw [if_neg h1]
    by_cases h2 : n > 9
    · rw [if_pos (by simpa using h2), if_pos (.inr h2)]
    · rw [if_neg (by simpa using h2), if_neg (by omega)]
      obtain ⟨m, rfl⟩ := Int.eq_ofNat_of_zero_le (show 0 ≤ n by omega)
      exact ref_new_l0 m (by omega) m k 0 (by omega) (by omega) (by omega)
theorem new_len (n : Int) : (newOf n).1.length ≤ 9 := by
  unfold newOf
  split
  · simp
  · simp; omega
theorem UpgradeTells : transeptlaw23_UpgradeTells.Pure := by
  intro s a v t c hs ha hv ht hc
  have hl : s.f0.length * 8 ≤ 140737488351232 := hs.1.1
  have ho := hc.2.2.2.2.1
  obtain ⟨k, hk⟩ : ∃ k, k = s.f0.length + 3 * c.f4.length + 200 := ⟨_, rfl⟩
  refine ⟨k + 1, ?_⟩
  have hd := decl_len s.f0 s.f1 a v
  have hc2 := activ_len s.f0 s.f1
  have hn := new_len a
  have hof : transeptlaw23_of.f s.f0 s.f1 = some (s.f0, s.f1) := by
    unfold transeptlaw23_of.f transeptplain_CopyInts.f
    rw [if_pos (by simp; omega)]
    simp
  have hj : ∀ x : Int, transeptlaw23_UpgradeTells.j0 (k + 1) (x != x) s.f0 s.f1 s.f0 s.f1 = some true := by
    intro x
    simp only [transeptlaw23_UpgradeTells.j0, upgrade_Check.f, Option.bind_some, transeptlaw23_num.f]
    rw [if_neg (by simp), ref_check_f _ _ _ (by omega) (by omega)]
    simp only [Option.bind_some, if_true]
    rw [same_f _ _ _ (by omega) (by omega), at_rounds transeptlaw23_alive.mono (show 100 ≤ k by omega) alive_f]
    rfl
  unfold transeptlaw23_UpgradeTells.f
  rw [hof]
  simp only [Option.bind_some]
  rw [declare_f _ _ _ _ _ (by omega), ref_declare_f _ _ _ _ _ (by omega) (by omega), activate_f, ref_activate_f _ _ _ (by omega) (by omega), wire_f _ _ _ _ _ (by omega), ref_wire_f _ _ _ _ _ (by omega) (by omega), record_f _ _ _ _ _ _ _ _ (by omega), ref_record_f _ _ _ _ _ _ _ (by omega) (by omega) _ (by omega), new_f, ref_new_f _ _ (by omega)]
  simp only [Option.bind_some, transeptlaw23_num.f]
  rw [same_f _ _ _ (by omega) (by omega), same_f _ _ _ (by omega) (by omega), same_f _ _ _ (by omega) (by omega)]
  simp only [Option.bind_some, if_true]
  exact hj _
end Go.Proofs.Ytdlmmgehjhpmoaa.Pure
