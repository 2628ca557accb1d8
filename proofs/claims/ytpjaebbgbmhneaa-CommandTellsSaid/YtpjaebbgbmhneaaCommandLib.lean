/- What the page's Check and Encode of commands answer, in plain words: lemmas for the laws of the layers 13 and 23. -/
import Derived.Test.YtpjaebbgbmhneaaPrint
import Derived.Laws.Bits128
namespace Go.Proofs.Ytpjaebbgbmhneaa.Pure
open Go.RowKit Go.Proofs.YtpjaebbgbmhneaaW.PrintWords Go.Proofs.YtpjaebbgbmhneaaW.PrintLast Go.Proofs.Ytpjaebbgbmhneaa.Print

abbrev Opr := S48
theorem rd_at_opr (l : List Opr) (i : Nat) (h : i < l.length) : rd_T48 l (i : Int) = l[i] := by simp [rd_T48, List.getD_eq_getElem?_getD, List.getElem?_eq_getElem h]

theorem ref_ops_l1 (l : List Opr) (hl : l.length ≤ 140737488355328) (d : Nat) : ∀ (k i : Nat), i ≤ l.length → l.length - i = d → d < k → transeptref13_Ops.l1 k l (i : Int) = some (if (l.drop i).any cmd_valBad = true then 5 else 0) := by
  induction d with
  | zero =>
    intro k i h1 h2 h3
    obtain ⟨k, rfl⟩ : ∃ m, k = m + 1 := ⟨k - 1, by omega⟩
    obtain rfl : i = l.length := by omega
    simp only [transeptref13_Ops.l1]
    rw [if_neg (by omega), List.drop_length]
    rfl
  | succ d ih =>
    intro k i h1 h2 h3
    obtain ⟨k, rfl⟩ : ∃ m, k = m + 1 := ⟨k - 1, by omega⟩
    have hlt : i < l.length := by omega
    simp only [transeptref13_Ops.l1]
    rw [if_pos (by omega), if_pos (by omega), rd_at_opr l i hlt, List.drop_eq_getElem_cons hlt, List.any_cons, wrap_next hlt hl, ih k (i + 1) (by omega) (by omega) (by omega)]
    by_cases c1 : ((l[i].f2.size : Nat) : Int) > 64
    · have : cmd_valBad l[i] = true := by unfold cmd_valBad; simp; omega
      rw [if_pos c1, this]; rfl
    · rw [if_neg c1]
      by_cases c2 : l[i].f0 = 2
      · have : cmd_valBad l[i] = false := by unfold cmd_valBad; simp [c2]; omega
        rw [if_pos c2, this]; rfl
      · rw [if_neg c2]
        by_cases c3 : l[i].f2.toList = ([] : List UInt8)
        · have : cmd_valBad l[i] = false := by unfold cmd_valBad; simp [(bytes_nil _).1 c3]
          rw [if_pos c3, this]; rfl
        · have c4 : ¬ l[i].f2.size = 0 := fun h => c3 ((bytes_nil _).2 h)
          have : cmd_valBad l[i] = true := by unfold cmd_valBad; simp [c2, c4]
          rw [if_neg c3, this]; rfl
theorem ref_ops_l0 (l : List Opr) (hl : l.length ≤ 140737488355328) (d : Nat) : ∀ (k i : Nat), i ≤ l.length → l.length - i = d → d + l.length + 1 < k → transeptref13_Ops.l0 k l (i : Int) = some (if (l.drop i).any cmd_keyBad = true then 91 else if l.any cmd_valBad = true then 5 else 0) := by
  induction d with
  | zero =>
    intro k i h1 h2 h3
    obtain ⟨k, rfl⟩ : ∃ m, k = m + 1 := ⟨k - 1, by omega⟩
    obtain rfl : i = l.length := by omega
    simp only [transeptref13_Ops.l0]
    rw [if_neg (by omega), List.drop_length]
    have := ref_ops_l1 l hl l.length k 0 (by omega) (by omega) (by omega)
    simpa using this
  | succ d ih =>
    intro k i h1 h2 h3
    obtain ⟨k, rfl⟩ : ∃ m, k = m + 1 := ⟨k - 1, by omega⟩
    have hlt : i < l.length := by omega
    simp only [transeptref13_Ops.l0]
    rw [if_pos (by omega), if_pos (by omega), rd_at_opr l i hlt, List.drop_eq_getElem_cons hlt, List.any_cons, wrap_next hlt hl, ih k (i + 1) (by omega) (by omega) (by omega)]
    by_cases c1 : ((l[i].f1.size : Nat) : Int) < 1
    · have : cmd_keyBad l[i] = true := by unfold cmd_keyBad; rw [Bool.or_eq_true, decide_eq_true_eq, decide_eq_true_eq]; omega
      rw [if_pos c1, this]; rfl
    · rw [if_neg c1]
      by_cases c2 : ((l[i].f1.size : Nat) : Int) > 32
      · have : cmd_keyBad l[i] = true := by unfold cmd_keyBad; rw [Bool.or_eq_true, decide_eq_true_eq, decide_eq_true_eq]; omega
        rw [if_pos c2, this]; rfl
      · have : cmd_keyBad l[i] = false := by unfold cmd_keyBad; rw [Bool.or_eq_false_iff, decide_eq_false_iff_not, decide_eq_false_iff_not]; omega
        rw [if_neg c2, this]; rfl
theorem ref_ops_f (l : List Opr) (hl : l.length ≤ 140737488355328) (k : Nat) (hk : 2 * l.length + 1 < k) : transeptref13_Ops.f k l = some (if l.length > 16 then 3 else if l.any cmd_keyBad = true then 91 else if l.any cmd_valBad = true then 5 else 0) := by
  unfold transeptref13_Ops.f
  by_cases h : l.length > 16
  · rw [if_pos (by omega), if_pos h]
  · rw [if_neg (by omega), if_neg h]
    have := ref_ops_l0 l hl l.length k 0 (by omega) (by omega) (by omega)
    simpa using this
/-- Check behind the kinds. -/
def chk_rest (a b c d : Int) (l : List Opr) : Int :=
  if cmd_numbers a b c d = false then 4
  else if (a ≠ 1 ∧ 0 < l.length) ∨ l.length > 16 then 3
  else if l.any cmd_keyBad = true then 91
  else if l.any cmd_valBad = true then 5
  else 0
theorem ref_cmd_j5 (a b c d : Int) (l : List Opr) (hl : l.length ≤ 140737488355328) (k : Nat) (hk : 2 * l.length + 2 < k) (x : Bool) (hx : x = !(if a = 4 then decide (d = 1 ∨ d = 2) else decide (d = 0))) (hn : cmd_numbers a b c d = !x) :
    transeptref13_Check.j5 k x a b c d l = some (chk_rest a b c d l) := by
  obtain ⟨k, rfl⟩ : ∃ m, k = m + 1 := ⟨k - 1, by omega⟩
  simp only [transeptref13_Check.j5]
  unfold chk_rest
  rw [hn]
  cases x
  · simp only [Bool.false_eq_true, if_false, Bool.not_false, reduceCtorEq]
    rw [ref_ops_f l hl k (by omega)]
    simp only [Option.bind_some]
    by_cases h1 : a = 1
    · simp [h1]
    · rw [if_neg h1]
      by_cases h2 : 0 < l.length
      · rw [if_pos (show (l.length : Int) > 0 by omega), if_pos (.inl ⟨h1, h2⟩)]
      · rw [if_neg (show ¬ (l.length : Int) > 0 by omega), if_neg (show ¬ l.length > 16 by omega), if_neg (show ¬ ((a ≠ 1 ∧ 0 < l.length) ∨ l.length > 16) by omega)]
  · rfl
theorem ref_cmd_j4 (a b c d : Int) (l : List Opr) (hl : l.length ≤ 140737488355328) (k : Nat) (hk : 2 * l.length + 3 < k) (x : Bool) (hx : x = !decide (0 ≤ c ∧ c < 4)) (hb : (if a ≥ 5 then decide (b = 0) else decide (1 ≤ b ∧ b ≤ 1099511627776)) = true) :
    transeptref13_Check.j4 k x a b c d l = some (chk_rest a b c d l) := by
  obtain ⟨k, rfl⟩ : ∃ m, k = m + 1 := ⟨k - 1, by omega⟩
  simp only [transeptref13_Check.j4]
  have hn : cmd_numbers a b c d = (!x && (if a = 4 then decide (d = 1 ∨ d = 2) else decide (d = 0))) := by
    unfold cmd_numbers
    rw [hb, hx]
    simp
  cases x
  · rw [if_neg (by simp)]
    simp only [Bool.not_false, Bool.true_and] at hn
    by_cases h4 : a = 4
    · simp only [h4, if_true] at hn ⊢
      by_cases h1 : d = 1
      · rw [if_pos h1]
        exact ref_cmd_j5 4 b c d l hl k (by omega) _ (by simp [h1]) (by rw [hn]; simp [h1])
      · rw [if_neg h1]
        by_cases h2 : d = 2
        · rw [if_pos h2]
          exact ref_cmd_j5 4 b c d l hl k (by omega) _ (by simp [h2]) (by rw [hn]; simp [h2])
        · rw [if_neg h2]
          exact ref_cmd_j5 4 b c d l hl k (by omega) _ (by simp [h1, h2]) (by rw [hn]; simp [h1, h2])
    · rw [if_neg h4] at hn ⊢
      have e : (d != 0) = !decide (d = 0) := by by_cases h : d = 0 <;> simp [h]
      rw [e]
      exact ref_cmd_j5 a b c d l hl k (by omega) _ (by rw [if_neg h4]) (by rw [hn]; simp)
  · rw [if_pos rfl]
    unfold chk_rest
    rw [hn]
    rfl
theorem ref_cmd_j3 (a b c d : Int) (l : List Opr) (hl : l.length ≤ 140737488355328) (k : Nat) (hk : 2 * l.length + 4 < k) (x : Bool) (hx : x = !(if a ≥ 5 then decide (b = 0) else decide (1 ≤ b ∧ b ≤ 1099511627776))) :
    transeptref13_Check.j3 k x a b c d l = some (chk_rest a b c d l) := by
  obtain ⟨k, rfl⟩ : ∃ m, k = m + 1 := ⟨k - 1, by omega⟩
  simp only [transeptref13_Check.j3]
  cases x
  · have hb : (if a ≥ 5 then decide (b = 0) else decide (1 ≤ b ∧ b ≤ 1099511627776)) = true := by simpa using hx.symm
    rw [if_neg (by simp)]
    by_cases h : c < 0
    · rw [if_pos h]
      exact ref_cmd_j4 a b c d l hl k (by omega) _ (by simp; omega) hb
    · rw [if_neg h]
      exact ref_cmd_j4 a b c d l hl k (by omega) _ (by rw [Bool.eq_iff_iff]; simp; omega) hb
  · have hb : (if a ≥ 5 then decide (b = 0) else decide (1 ≤ b ∧ b ≤ 1099511627776)) = false := by simpa using hx.symm
    have hn : cmd_numbers a b c d = false := by unfold cmd_numbers; rw [hb]; rfl
    rw [if_pos rfl]
    unfold chk_rest
    rw [hn]
    rfl
theorem ref_cmd_l0 (a b c d : Int) (l : List Opr) (ha : 1 ≤ a) (ha2 : a ≤ 6) (hl : l.length ≤ 140737488355328) (q : Nat) : ∀ (k i : Nat), i ≤ l.length → l.length - i = q → q + 2 * l.length + 7 < k → transeptref13_Check.l0 k (i : Int) a b c d l = some (if (l.drop i).any cmd_kindBad = true then 22 else chk_rest a b c d l) := by
  induction q with
  | zero =>
    intro k i h1 h2 h3
    obtain ⟨k, rfl⟩ : ∃ m, k = m + 1 + 1 := ⟨k - 2, by omega⟩
    obtain rfl : i = l.length := by omega
    simp only [transeptref13_Check.l0]
    rw [if_neg (by omega), List.drop_length]
    simp only [List.any_nil, Bool.false_eq_true, if_false, transeptref13_Check.j2]
    by_cases h5 : a = 5
    · rw [if_pos h5, if_pos trivial]
      by_cases hb : b = 0
      · rw [if_pos hb]; exact ref_cmd_j3 a b c d l hl k (by omega) _ (by rw [if_pos (by omega)]; simp [hb])
      · rw [if_neg hb]; exact ref_cmd_j3 a b c d l hl k (by omega) _ (by rw [if_pos (by omega)]; simp [hb])
    · rw [if_neg h5]
      by_cases h6 : a = 6
      · rw [if_pos (by simpa using h6)]
        by_cases hb : b = 0
        · rw [if_pos hb]; exact ref_cmd_j3 a b c d l hl k (by omega) _ (by rw [if_pos (by omega)]; simp [hb])
        · rw [if_neg hb]; exact ref_cmd_j3 a b c d l hl k (by omega) _ (by rw [if_pos (by omega)]; simp [hb])
      · rw [if_neg (by simpa using h6)]
        by_cases hb : b < 1
        · rw [if_pos hb]; exact ref_cmd_j3 a b c d l hl k (by omega) _ (by rw [if_neg (by omega)]; simp; omega)
        · rw [if_neg hb]; exact ref_cmd_j3 a b c d l hl k (by omega) _ (by rw [if_neg (by omega), Bool.eq_iff_iff]; simp; omega)
  | succ q ih =>
    intro k i h1 h2 h3
    obtain ⟨k, rfl⟩ : ∃ m, k = m + 1 := ⟨k - 1, by omega⟩
    have hlt : i < l.length := by omega
    simp only [transeptref13_Check.l0]
    rw [if_pos (by omega), if_pos (by omega), rd_at_opr l i hlt, List.drop_eq_getElem_cons hlt, List.any_cons, wrap_next hlt hl, ih k (i + 1) (by omega) (by omega) (by omega)]
    by_cases c1 : l[i].f0 < 1
    · have : cmd_kindBad l[i] = true := by unfold cmd_kindBad; simp; omega
      rw [if_pos c1, this]; rfl
    · rw [if_neg c1]
      by_cases c2 : l[i].f0 > 3
      · have : cmd_kindBad l[i] = true := by unfold cmd_kindBad; simp; omega
        rw [if_pos c2, this]; rfl
      · have : cmd_kindBad l[i] = false := by unfold cmd_kindBad; simp; omega
        rw [if_neg c2, this]; rfl
theorem ref_cmd_check_f (a b c d : Int) (l : List Opr) (hl : l.length ≤ 140737488355328) (k : Nat) (hk : 3 * l.length + 9 < k) : transeptref13_Check.f k a b c d l = some (cmd_check a b c d l) := by
  obtain ⟨k, rfl⟩ : ∃ m, k = m + 1 := ⟨k - 1, by omega⟩
  unfold transeptref13_Check.f cmd_check
  simp only [transeptref13_Check.j0]
  by_cases h1 : a < 1
  · rw [if_pos h1, if_pos trivial, if_pos (.inl (.inl h1))]
  · rw [if_neg h1]
    by_cases h2 : a > 6
    · rw [if_pos (by simpa using h2), if_pos (.inl (.inr h2))]
    · rw [if_neg (by simpa using h2)]
      have := ref_cmd_l0 a b c d l (by omega) (by omega) hl l.length k 0 (by omega) (by omega) (by omega)
      simp only [List.drop_zero] at this
      have e : ((0 : Nat) : Int) = 0 := rfl
      rw [e] at this
      rw [this]
      by_cases hk : l.any cmd_kindBad = true
      · rw [if_pos hk, if_pos (.inr hk)]
      · rw [if_neg hk, if_neg (by rintro ((h | h) | h); exact h1 h; exact h2 h; exact hk h)]
        rfl
theorem or_i64 (n : Int) : (Go.bits .or .i64 (n % 128) 128) % 256 = n % 128 + 128 := by
  have key : ∀ m : Fin 128, (Go.bits .or .i64 ((m : Nat) : Int) 128) % 256 = ((m : Nat) : Int) + 128 := by decide +kernel
  obtain ⟨m, hm⟩ := Int.eq_ofNat_of_zero_le (Int.emod_nonneg n (show (128 : Int) ≠ 0 by decide))
  have hlt : m < 128 := by have := Int.emod_lt_of_pos n (show (0 : Int) < 128 by decide); omega
  rw [hm]
  exact key ⟨m, hlt⟩
theorem ref_groups_l0 : ∀ (j k : Nat) (n : Int) (acc : List Int), 0 ≤ n → n < (128 : Int) ^ j → 1 ≤ j → j < k → acc.length + j ≤ 1000 → transeptref13_groups.l0 k n acc = some (acc ++ cmd_vi j n) := by
  intro j
  induction j with
  | zero => intro k n acc h0 h1 h2; omega
  | succ j ih =>
    intro k n acc h0 h1 h2 h3 h4
    obtain ⟨k, rfl⟩ : ∃ m, k = m + 1 := ⟨k - 1, by omega⟩
    simp only [transeptref13_groups.l0, cmd_vi]
    by_cases h : n < 128
    · rw [if_neg (by omega), if_pos (by omega), if_pos h]
    · have hj : 1 ≤ j := by
        cases j with
        | zero => simp at h1; omega
        | succ j => omega
      rw [if_pos (by omega), if_pos (by omega), if_neg h, i64_and127, or_i64, ih k (n / 128) _ (by omega) (by rw [Int.pow_succ] at h1; omega) hj (by omega) (by simp; omega)]
      simp
theorem ref_groups_f (n : Int) (h0 : 0 ≤ n) (h1 : n ≤ 1099511627776) (k : Nat) (hk : 6 < k) : transeptref13_groups.f k n = some (cmd_vi 6 n) := by
  unfold transeptref13_groups.f
  have h6 : n < (128 : Int) ^ 6 := by
    have : (128 : Int) ^ 6 = 4398046511104 := by decide
    omega
  rw [ref_groups_l0 6 k n [] h0 h6 (by decide) hk (by decide)]
  rfl
theorem ref_octets_f (n : Int) (k : Nat) (hk : 9 < k) : transeptref01_Octets.f k n 8 = some (oct_put n (oct_sh 8)) := by
  obtain ⟨k, rfl⟩ : ∃ m, k = m + 9 := ⟨k - 9, by omega⟩
  simp [transeptref01_Octets.f, transeptref01_Octets.l0, wrap64, oct_put, oct_sh, List.range_succ]
theorem cmd_op_length (v : Int) (o : Opr) : (cmd_op v o).length ≤ 4 + o.f1.size + o.f2.size := by
  unfold cmd_op
  split <;> simp [bytesOf_length] <;> omega
theorem ref_encode_l0 (v : Int) (l : List Opr) (a b c d : Int) (hl : l.length ≤ 16) (ho : ∀ o ∈ l, o.f1.size ≤ 32 ∧ o.f2.size ≤ 64) (q : Nat) : ∀ (k i : Nat) (acc : List Int), i ≤ l.length → l.length - i = q → q < k → acc.length ≤ 100 + 100 * i →
    transeptref13_Encode.l0 k v acc (i : Int) a b c d l = some (acc ++ (l.drop i).flatMap (cmd_op v), 0) := by
  induction q with
  | zero =>
    intro k i acc h1 h2 h3 h4
    obtain ⟨k, rfl⟩ : ∃ m, k = m + 1 := ⟨k - 1, by omega⟩
    obtain rfl : i = l.length := by omega
    simp only [transeptref13_Encode.l0]
    rw [if_neg (by omega), List.drop_length]
    simp
  | succ q ih =>
    intro k i acc h1 h2 h3 h4
    obtain ⟨k, rfl⟩ : ∃ m, k = m + 1 := ⟨k - 1, by omega⟩
    have hlt : i < l.length := by omega
    have hs := ho l[i] (List.getElem_mem hlt)
    have hc := cmd_op_length v l[i]
    have step := ih k (i + 1) (acc ++ cmd_op v l[i]) (by omega) (by omega) (by omega) (by rw [List.length_append]; omega)
    rw [List.drop_eq_getElem_cons hlt, List.flatMap_cons, ← List.append_assoc, ← step]
    simp only [transeptref13_Encode.l0]
    rw [if_pos (by omega), if_pos (by omega), rd_at_opr l i hlt, wrap_next hlt (by omega)]
    simp only [Option.bind_some, List.length_append, List.length_cons, List.length_nil, bytesOf_length]
    unfold cmd_op
    by_cases hv : v = 1
    · rw [if_pos (by omega), if_pos hv, if_pos (by omega), if_pos (by omega), if_pos (by omega), if_pos hv]
      simp only [List.append_assoc, List.cons_append, List.nil_append]
    · rw [if_pos (by omega), if_neg hv, if_pos (by omega), if_pos (by omega), if_pos (by omega), if_neg hv]
      simp only [List.append_assoc, List.cons_append, List.nil_append]
theorem ref_encode_j0 (v a b c d : Int) (l : List Opr) (h : cmd_check a b c d l = 0) (k : Nat) (hk : 30 < k) : transeptref13_Encode.j0 k v a b c d l = some (cmd_octets v a b c d l, 0) := by
  obtain ⟨k, rfl⟩ : ∃ m, k = m + 1 + 1 := ⟨k - 2, by omega⟩
  obtain ⟨hb0, hb1, hl, ho⟩ := cmd_check_zero h
  have hv6 := cmd_vi_length 6 b
  have h8 : (oct_put b (oct_sh 8)).length = 8 := by simp [oct_put, oct_sh]
  have hw : IntKind.u64.wrap b = b := by show b % 18446744073709551616 = b; omega
  have tail : ∀ m : List Int, m.length ≤ 10 → transeptref13_Encode.j1 (k + 1) v ([v % 256, a % 256] ++ m) a b c d l = some (([v % 256, a % 256] ++ m ++ [c % 256, d % 256, (l.length : Int) % 256]) ++ l.flatMap (cmd_op v), 0) := by
    intro m hm
    simp only [transeptref13_Encode.j1, Option.bind_some]
    rw [if_pos (by simp; omega)]
    have := ref_encode_l0 v l a b c d hl ho l.length k 0 ([v % 256, a % 256] ++ m ++ [c % 256, d % 256, (l.length : Int) % 256]) (by omega) (by omega) (by omega) (by simp; omega)
    simpa using this
  simp only [transeptref13_Encode.j0, Option.bind_some]
  unfold cmd_octets cmd_head
  by_cases hv : v = 1
  · rw [if_pos hv, if_pos hv, hw, ref_octets_f b (k + 1) (by omega)]
    simp only [Option.bind_some]
    rw [if_pos (by rw [h8]; simp), tail _ (by omega)]
  · rw [if_neg hv, if_neg hv, ref_groups_f b hb0 hb1 (k + 1) (by omega)]
    simp only [Option.bind_some]
    rw [if_pos (by simp; omega), tail _ (by omega)]
theorem ref_encode_f (v a b c d : Int) (l : List Opr) (hl : l.length ≤ 140737488355328) (k : Nat) (hk : 3 * l.length + 30 < k) : transeptref13_Encode.f k a b c d l v = some (cmd_encode v a b c d l) := by
  unfold transeptref13_Encode.f cmd_encode
  rw [ref_cmd_check_f a b c d l hl k (by omega)]
  simp only [Option.bind_some]
  by_cases h0 : cmd_check a b c d l = 0
  · rw [if_pos h0, if_neg (not_not_intro h0)]
    have hj := ref_encode_j0 v a b c d l h0 k (by omega)
    by_cases h1 : v = 1
    · rw [if_pos h1]
      by_cases h5 : a = 5
      · rw [if_pos h5, if_neg (by omega), if_neg (by omega)]
      · rw [if_neg h5]
        by_cases h4 : l.length > 4
        · rw [if_pos (by omega), if_neg (by omega), if_neg (by omega)]
        · rw [if_neg (by omega), if_pos (by omega), hj]
    · rw [if_neg h1, if_neg (show ¬ (v = 1 ∧ a ≠ 5 ∧ l.length ≤ 4) from fun h => h1 h.1)]
      by_cases h2 : v = 2
      · rw [if_pos h2, if_pos h2, hj]
      · rw [if_neg h2, if_neg h2]
  · rw [if_neg h0, if_pos h0]
end Go.Proofs.Ytpjaebbgbmhneaa.Pure
