/- The page's holds and the program's in plain words: their order, Check, and lists of them. Lemmas for the laws of layer 19. -/
import Derived.Test.YtgbdajlfbmijgaaPrint9
import Derived.Test.YtgbdajlfbmijgaaPrint10
namespace Go.Proofs.Ytgbdajlfbmijgaa.Pure
open Go.RowKit Go.Proofs.YtgbdajlfbmijgaaW.PrintWords Go.Proofs.YtgbdajlfbmijgaaW.PrintLast Go.Proofs.Ytgbdajlfbmijgaa.Print
abbrev PgH := S56
def hcv (x : PgH) : LkH := ⟨x.f0, x.f1, x.f2⟩
theorem rd_h (l : List LkH) (i : Nat) (h : i < l.length) : rd_T34 l (i : Int) = l[i] := by simp [rd_T34, List.getD_eq_getElem?_getD, List.getElem?_eq_getElem h]
theorem rd_p (l : List PgH) (i : Nat) (h : i < l.length) : rd_T56 l (i : Int) = l[i] := by simp [rd_T56, List.getD_eq_getElem?_getD, List.getElem?_eq_getElem h]
theorem ba_ext {a b : ByteArray} (h : a.toList = b.toList) : a = b := by
  rw [ByteArray.toList_eq, ByteArray.toList_eq] at h
  cases a; cases b
  simp only [ByteArray.mk.injEq]
  exact Array.toList_inj.1 h
/-! ### the order of octets -/
theorem bl_irrefl : ∀ (a : List UInt8), Go.Op.bytesLess a a = false
  | [] => rfl
  | x :: a => by simp [Go.Op.bytesLess, bl_irrefl a]
theorem bl_tri : ∀ (a b : List UInt8), Go.Op.bytesLess a b = true ∨ a = b ∨ Go.Op.bytesLess b a = true
  | [], [] => .inr (.inl rfl)
  | [], _ :: _ => .inl rfl
  | _ :: _, [] => .inr (.inr rfl)
  | x :: a, y :: b => by
    simp only [Go.Op.bytesLess, Bool.or_eq_true, decide_eq_true_eq, Bool.and_eq_true, beq_iff_eq, List.cons.injEq]
    rcases Nat.lt_trichotomy x.toNat y.toNat with h | h | h
    · exact .inl (.inl (UInt8.lt_iff_toNat_lt.2 h))
    · have hxy : x = y := UInt8.toNat_inj.1 h
      subst hxy
      rcases bl_tri a b with h2 | h2 | h2
      · exact .inl (.inr ⟨rfl, h2⟩)
      · exact .inr (.inl ⟨rfl, h2⟩)
      · exact .inr (.inr (.inr ⟨rfl, h2⟩))
    · exact .inr (.inr (.inl (UInt8.lt_iff_toNat_lt.2 h)))
theorem bl_trans : ∀ (a b c : List UInt8), Go.Op.bytesLess a b = true → Go.Op.bytesLess b c = true → Go.Op.bytesLess a c = true
  | _, [], _, h, _ => by simp [Go.Op.bytesLess] at h
  | _, _ :: _, [], _, h => by simp [Go.Op.bytesLess] at h
  | [], _ :: _, _ :: _, _, _ => rfl
  | x :: a, y :: b, z :: c, h1, h2 => by
    simp only [Go.Op.bytesLess, Bool.or_eq_true, decide_eq_true_eq, Bool.and_eq_true, beq_iff_eq] at h1 h2 ⊢
    rw [UInt8.lt_iff_toNat_lt] at h1 h2 ⊢
    rcases h1 with h1 | ⟨rfl, h1⟩
    · rcases h2 with h2 | ⟨rfl, h2⟩
      · exact .inl (Nat.lt_trans h1 h2)
      · exact .inl h1
    · rcases h2 with h2 | ⟨rfl, h2⟩
      · exact .inl h2
      · exact .inr ⟨rfl, bl_trans a b c h1 h2⟩
theorem bl_asymm {a b : List UInt8} (h : Go.Op.bytesLess a b = true) : Go.Op.bytesLess b a = false := by
  cases h2 : Go.Op.bytesLess b a with
  | false => rfl
  | true => have := bl_trans a b a h h2; rw [bl_irrefl] at this; cases this
/-! ### the order of holds -/
def hlt (a b : LkH) : Prop := Go.Op.bytesLess a.f0.toList b.f0.toList = true ∨ (a.f0.toList = b.f0.toList ∧ a.f1 < b.f1)
def heq (a b : LkH) : Prop := a.f0.toList = b.f0.toList ∧ a.f1 = b.f1
theorem str_cases (a b : ByteArray) : (cmp_str a b < 0 ∧ Go.Op.bytesLess a.toList b.toList = true) ∨ (cmp_str a b = 0 ∧ a.toList = b.toList) ∨ (0 < cmp_str a b ∧ Go.Op.bytesLess b.toList a.toList = true) := by
  unfold cmp_str
  rcases bl_tri a.toList b.toList with h | h | h
  · exact .inl (by rw [if_pos h]; exact ⟨by decide, h⟩)
  · exact .inr (.inl (by rw [if_neg (by rw [h, bl_irrefl]; simp), if_pos h]; exact ⟨rfl, h⟩))
  · exact .inr (.inr (by rw [if_neg (by rw [bl_asymm h]; simp), if_neg (fun e => by rw [e, bl_irrefl] at h; cases h)]; exact ⟨by decide, h⟩))
theorem ord_lt (a b : LkH) : lk_ord a b < 0 ↔ hlt a b := by
  unfold lk_ord hlt
  rcases str_cases a.f0 b.f0 with ⟨h, h2⟩ | ⟨h, h2⟩ | ⟨h, h2⟩
  · rw [if_pos (by omega)]; exact ⟨fun _ => .inl h2, fun _ => h⟩
  · rw [if_neg (by omega)]
    constructor
    · intro q; right; refine ⟨h2, ?_⟩; split at q <;> omega
    · rintro (q | ⟨_, q⟩)
      · rw [h2, bl_irrefl] at q; cases q
      · rw [if_pos q]; decide
  · rw [if_pos (by omega)]
    constructor
    · intro q; omega
    · rintro (q | ⟨q, _⟩)
      · rw [bl_asymm h2] at q; cases q
      · rw [q, bl_irrefl] at h2; cases h2
theorem ord_eq (a b : LkH) : lk_ord a b = 0 ↔ heq a b := by
  unfold lk_ord heq
  rcases str_cases a.f0 b.f0 with ⟨h, h2⟩ | ⟨h, h2⟩ | ⟨h, h2⟩
  · rw [if_pos (by omega)]
    exact ⟨fun q => by omega, fun q => by rw [q.1, bl_irrefl] at h2; cases h2⟩
  · rw [if_neg (by omega)]
    constructor
    · intro q; refine ⟨h2, ?_⟩; split at q <;> omega
    · rintro ⟨_, q⟩; rw [if_neg (by omega), if_neg (by omega)]
  · rw [if_pos (by omega)]
    exact ⟨fun q => by omega, fun q => by rw [q.1, bl_irrefl] at h2; cases h2⟩
theorem hlt_trans {a b c : LkH} (h1 : hlt a b) (h2 : hlt b c) : hlt a c := by
  rcases h1 with h1 | ⟨h1, h1'⟩
  · rcases h2 with h2 | ⟨h2, _⟩
    · exact .inl (bl_trans _ _ _ h1 h2)
    · exact .inl (by rw [← h2]; exact h1)
  · rcases h2 with h2 | ⟨h2, h2'⟩
    · exact .inl (by rw [h1]; exact h2)
    · exact .inr ⟨h1.trans h2, by omega⟩
theorem hlt_irrefl (a : LkH) : ¬ hlt a a := by
  rintro (h | ⟨_, h⟩)
  · rw [bl_irrefl] at h; cases h
  · omega
theorem hlt_tri (a b : LkH) : hlt a b ∨ heq a b ∨ hlt b a := by
  rcases bl_tri a.f0.toList b.f0.toList with h | h | h
  · exact .inl (.inl h)
  · rcases Int.lt_trichotomy a.f1 b.f1 with h2 | h2 | h2
    · exact .inl (.inr ⟨h, h2⟩)
    · exact .inr (.inl ⟨h, h2⟩)
    · exact .inr (.inr (.inr ⟨h.symm, h2⟩))
  · exact .inr (.inr (.inl h))
/-! ### what may be -/
def hgood (x : LkH) : Prop := lk_key x.f0 = true ∧ lk_txn x.f1 = true
def hR (a b : LkH) : Prop := hlt a b ∧ (a.f0.toList = b.f0.toList → a.f2 = false ∧ b.f2 = false)
theorem hR_trans {a b c : LkH} (h1 : hR a b) (h2 : hR b c) : hR a c := by
  refine ⟨hlt_trans h1.1 h2.1, fun e => ?_⟩
  have hab : a.f0.toList = b.f0.toList := by
    rcases h1.1 with q | ⟨q, _⟩
    · rcases h2.1 with q2 | ⟨q2, _⟩
      · have := bl_trans _ _ _ q q2; rw [e, bl_irrefl] at this; cases this
      · rw [e, ← q2, bl_irrefl] at q; cases q
    · exact q
  exact ⟨(h1.2 hab).1, (h2.2 (hab.symm.trans e)).2⟩
theorem pair_iff (a b : LkH) : lk_pair a b = true ↔ hR a b := by
  unfold lk_pair hR
  rw [Bool.and_eq_true, decide_eq_true_eq, ord_lt]
  simp only [Bool.or_eq_true, Bool.not_eq_true', beq_eq_false_iff_ne, Bool.and_eq_true]
  constructor
  · rintro ⟨h, q | q⟩
    · exact ⟨h, fun e => absurd e q⟩
    · exact ⟨h, fun _ => q⟩
  · rintro ⟨h, q⟩
    refine ⟨h, ?_⟩
    by_cases e : a.f0.toList = b.f0.toList
    · exact .inr (q e)
    · exact .inl e
structure Ok (l : List LkH) : Prop where
  len : l.length ≤ 4096
  good : ∀ x ∈ l, hgood x
  sorted : l.Pairwise hR
theorem check_cases (l : List LkH) : lk_check l = 0 ∨ lk_check l = 9 := by unfold lk_check; split <;> simp
theorem check_iff (l : List LkH) : lk_check l = 0 ↔ Ok l := by
  have h1 : lk_check l = 0 ↔ l.length ≤ 4096 ∧ ∀ i, i < l.length → lk_at l i = true := by
    unfold lk_check lk_upto
    constructor
    · intro h
      split at h
      · rename_i h2
        rw [Bool.and_eq_true, decide_eq_true_eq, List.all_eq_true] at h2
        exact ⟨h2.1, fun i hi => h2.2 i (List.mem_range.2 hi)⟩
      · cases h
    · rintro ⟨h2, h3⟩
      rw [if_pos]
      rw [Bool.and_eq_true, decide_eq_true_eq, List.all_eq_true]
      exact ⟨h2, fun i hi => h3 i (List.mem_range.1 hi)⟩
  rw [h1]
  constructor
  · rintro ⟨h2, h3⟩
    refine ⟨h2, ?_, ?_⟩
    · intro x hx
      obtain ⟨i, hi, rfl⟩ := List.getElem_of_mem hx
      have := h3 i hi
      unfold lk_at at this
      rw [Bool.and_eq_true, Bool.and_eq_true, rd_h l i hi] at this
      exact this.1
    · have hadj : ∀ i (h : i + 1 < l.length), hR l[i] l[i + 1] := by
        intro i h
        have := h3 (i + 1) h
        unfold lk_at at this
        rw [Bool.and_eq_true] at this
        have h5 := this.2
        dsimp only at h5
        rw [rd_h l i (by omega), rd_h l (i + 1) h] at h5
        exact (pair_iff _ _).1 h5
      have hall : ∀ d i (h : i + d + 1 < l.length), hR l[i] l[i + d + 1] := by
        intro d
        induction d with
        | zero => intro i h; exact hadj i h
        | succ d ih => intro i h; exact hR_trans (ih i (by omega)) (hadj (i + d + 1) h)
      rw [List.pairwise_iff_getElem]
      intro i j hi hj hij
      have := hall (j - i - 1) i (by omega)
      simpa [show i + (j - i - 1) + 1 = j by omega] using this
  · rintro ⟨h2, h3, h4⟩
    refine ⟨h2, fun i hi => ?_⟩
    have hg := h3 l[i] (List.getElem_mem hi)
    unfold lk_at
    rw [Bool.and_eq_true, Bool.and_eq_true, rd_h l i hi]
    refine ⟨hg, ?_⟩
    cases i with
    | zero => rfl
    | succ j =>
      dsimp only
      rw [rd_h l j (by omega), rd_h l (j + 1) hi]
      exact (pair_iff _ _).2 (List.pairwise_iff_getElem.1 h4 j (j + 1) (by omega) hi (by omega))
/-! ### Of, Alike -/
theorem of_l0 (l : List PgH) (hl : l.length < 4398046511104) (d : Nat) : ∀ (q i : Nat) (acc : List LkH), acc.length = i → i ≤ l.length → l.length - i = d → d < q → transeptlaw19_Of.l0 q l acc (i : Int) = some (acc ++ (l.drop i).map hcv) := by
  induction d with
  | zero =>
    intro q i acc ha h1 h2 h3
    obtain ⟨q, rfl⟩ : ∃ m, q = m + 1 := ⟨q - 1, by omega⟩
    obtain rfl : i = l.length := by omega
    simp only [transeptlaw19_Of.l0]
    rw [if_neg (by omega), List.drop_length, List.map_nil, List.append_nil]
  | succ d ih =>
    intro q i acc ha h1 h2 h3
    obtain ⟨q, rfl⟩ : ∃ m, q = m + 1 := ⟨q - 1, by omega⟩
    have hlt : i < l.length := by omega
    simp only [transeptlaw19_Of.l0]
    rw [if_pos (by omega), if_pos (by omega), if_pos (by omega), wrap_next hlt (by omega), rd_p l i hlt, ih q (i + 1) _ (by simp [ha]) (by omega) (by omega) (by omega), List.drop_eq_getElem_cons hlt, List.map_cons, List.append_assoc]
    rfl
theorem of_f (l : List PgH) (hl : l.length < 4398046511104) (q : Nat) (hq : l.length < q) : transeptlaw19_Of.f q l = some (l.map hcv) := by
  unfold transeptlaw19_Of.f
  have := of_l0 l hl l.length q 0 [] rfl (by omega) (by omega) hq
  simpa using this
theorem alike_l0 (l : List PgH) (hl : l.length < 4398046511104) (d : Nat) : ∀ (q i : Nat), i ≤ l.length → l.length - i = d → d < q → transeptlaw19_Alike.l0 q (l.map hcv) l (i : Int) = some 0 := by
  induction d with
  | zero =>
    intro q i h1 h2 h3
    obtain ⟨q, rfl⟩ : ∃ m, q = m + 1 := ⟨q - 1, by omega⟩
    obtain rfl : i = l.length := by omega
    simp only [transeptlaw19_Alike.l0]
    rw [if_neg (by rw [List.length_map]; omega)]
  | succ d ih =>
    intro q i h1 h2 h3
    obtain ⟨q, rfl⟩ : ∃ m, q = m + 1 := ⟨q - 1, by omega⟩
    have hlt : i < l.length := by omega
    have hlm : i < (l.map hcv).length := by rw [List.length_map]; exact hlt
    simp only [transeptlaw19_Alike.l0]
    rw [if_pos (by rw [List.length_map]; omega), if_pos (by omega), if_pos (by omega), rd_h _ i hlm, rd_p l i hlt, List.getElem_map, if_neg (by simp [hcv]), wrap_next hlt (by omega), ih q (i + 1) (by omega) (by omega) (by omega)]
theorem alike_f (l : List PgH) (hl : l.length < 4398046511104) (q : Nat) (hq : l.length < q) : transeptlaw19_Alike.f q (l.map hcv) l = some 0 := by
  unfold transeptlaw19_Alike.f
  rw [if_pos (by rw [List.length_map])]
  exact alike_l0 l hl l.length q 0 (by omega) (by omega) hq
/-! ### the page's Check -/
def lk_tail (l : List LkH) : Nat → Bool
  | 0 => true
  | j + 1 => lk_pair (rd_T34 l (j : Int)) (rd_T34 l ((j + 1 : Nat) : Int))
theorem lk_at_eq (l : List LkH) (i : Nat) (h : i < l.length) : lk_at l i = (lk_key l[i].f0 && lk_txn l[i].f1 && lk_tail l i) := by
  unfold lk_at
  rw [rd_h l i h]
  cases i <;> rfl
theorem ref_key (s : ByteArray) : transeptref19_key.f s = some (lk_key s) := by
  unfold transeptref19_key.f lk_key
  have hs : s.toList = [] ↔ s.size = 0 := by
    rw [ByteArray.toList_eq]
    show s.data.toList = [] ↔ s.data.size = 0
    rw [← Array.length_toList, List.length_eq_zero_iff]
  by_cases h : (s.size : Int) ≥ 1
  · rw [if_pos h]; congr 1; rw [Bool.eq_iff_iff]; simp only [decide_eq_true_eq, Bool.and_eq_true, ne_eq, hs]; omega
  · rw [if_neg h]; congr 1; symm; rw [Bool.and_eq_false_iff]; left; simp only [decide_eq_false_iff_not, ne_eq, hs]; omega
theorem ref_txn (t : Int) : transeptref19_txn.f t = some (lk_txn t) := by
  unfold transeptref19_txn.f lk_txn
  by_cases h : t ≥ 1
  · rw [if_pos h]; congr 1; apply decide_eq_decide.2; omega
  · rw [if_neg h]; congr 1; symm; apply decide_eq_false; omega
theorem ref_check_l0 (l : List PgH) (hl : l.length < 4398046511104) (d : Nat) : ∀ (q i : Nat), i ≤ l.length → l.length - i = d → 2 * d < q → transeptref19_Check.l0 q l (i : Int) = some (if (List.range' i d).all (lk_at (l.map hcv)) = true then 0 else 9) := by
  induction d with
  | zero =>
    intro q i h1 h2 h3
    obtain ⟨q, rfl⟩ : ∃ m, q = m + 1 := ⟨q - 1, by omega⟩
    obtain rfl : i = l.length := by omega
    simp only [transeptref19_Check.l0]
    rw [if_neg (by omega)]
    rfl
  | succ d ih =>
    intro q i h1 h2 h3
    obtain ⟨q, rfl⟩ : ∃ m, q = m + 1 + 1 := ⟨q - 2, by omega⟩
    have hil : i < l.length := by omega
    have hlm : i < (l.map hcv).length := by rw [List.length_map]; exact hil
    have ih2 := ih q (i + 1) (by omega) (by omega) (by omega)
    rw [List.range'_succ, List.all_cons]
    simp only [transeptref19_Check.l0]
    rw [if_pos (by omega), if_pos (by omega), rd_p l i hil, ref_key, Option.bind_some]
    have hat : lk_at (l.map hcv) i = (lk_key l[i].f0 && lk_txn l[i].f1 && lk_tail (l.map hcv) i) := by
      rw [lk_at_eq _ i hlm, List.getElem_map]
      rfl
    cases hk : lk_key l[i].f0 with
    | false =>
      rw [if_neg (by simp)]
      simp only [transeptref19_Check.j1]
      rw [if_pos trivial, if_neg (by rw [hat, hk]; simp)]
    | true =>
      rw [if_pos rfl, ref_txn, Option.bind_some]
      simp only [transeptref19_Check.j1]
      cases ht : lk_txn l[i].f1 with
      | false => rw [if_pos (show (!false) = true from rfl), if_neg (by rw [hat, hk, ht]; simp)]
      | true =>
        rw [if_neg (show ¬ (!true) = true by simp)]
        cases i with
        | zero =>
          rw [if_pos (show ((0 : Nat) : Int) = 0 from rfl), wrap_next hil (by omega), ih2]
          rw [hat, hk, ht]
          simp only [lk_tail, Bool.and_self, Bool.true_and]
        | succ j =>
          have hj : j < l.length := by omega
          have hjm : j < (l.map hcv).length := by rw [List.length_map]; exact hj
          have hw : wrap64 (((j + 1 : Nat) : Int) - 1) = (j : Int) := by rw [show ((j + 1 : Nat) : Int) - 1 = (j : Int) by omega]; exact wrap_add (by omega) (by omega)
          rw [if_neg (by omega), if_pos (by omega), if_pos (by omega), hw, if_pos (by omega), if_pos (by omega), rd_p l j hj, rd_p l (j + 1) hil, wrap_next hil (by omega), ih2]
          rw [hat, hk, ht, lk_tail, rd_h _ j hjm, rd_h _ (j + 1) hlm, List.getElem_map, List.getElem_map, Bool.and_self, Bool.true_and]
          have hp := pair_iff (hcv l[j]) (hcv l[j + 1])
          by_cases b1 : Go.Op.bytesLess l[j + 1].f0.toList l[j].f0.toList = true
          · rw [if_pos b1, if_neg]
            rw [Bool.and_eq_true, hp]
            rintro ⟨⟨q1 | ⟨q1, _⟩, _⟩, _⟩
            · have q3 : Go.Op.bytesLess l[j].f0.toList l[j + 1].f0.toList = true := q1
              rw [bl_asymm b1] at q3; cases q3
            · have q2 : l[j].f0.toList = l[j + 1].f0.toList := q1
              rw [q2, bl_irrefl] at b1; cases b1
          · rw [if_neg b1]
            by_cases b2 : l[j + 1].f0.toList = l[j].f0.toList
            · rw [if_pos b2]
              have hlt2 : hlt (hcv l[j]) (hcv l[j + 1]) ↔ l[j].f1 < l[j + 1].f1 := by
                constructor
                · rintro (q1 | ⟨_, q1⟩)
                  · have q2 : Go.Op.bytesLess l[j].f0.toList l[j + 1].f0.toList = true := q1
                    rw [b2, bl_irrefl] at q2; cases q2
                  · exact q1
                · exact fun q1 => .inr ⟨b2.symm, q1⟩
              by_cases b3 : l[j + 1].f1 ≤ l[j].f1
              · rw [if_pos b3, if_neg]
                rw [Bool.and_eq_true, hp]
                rintro ⟨⟨q1, _⟩, _⟩
                have := hlt2.1 q1
                omega
              · rw [if_neg b3]
                by_cases b4 : l[j + 1].f2 = true
                · rw [if_pos b4, if_neg]
                  rw [Bool.and_eq_true, hp]
                  rintro ⟨⟨_, q1⟩, _⟩
                  have q2 : l[j + 1].f2 = false := (q1 b2.symm).2
                  rw [q2] at b4; cases b4
                · rw [if_neg b4]
                  by_cases b5 : l[j].f2 = true
                  · rw [if_pos b5, if_neg]
                    rw [Bool.and_eq_true, hp]
                    rintro ⟨⟨_, q1⟩, _⟩
                    have q2 : l[j].f2 = false := (q1 b2.symm).1
                    rw [q2] at b5; cases b5
                  · rw [if_neg b5, hp.2 ⟨hlt2.2 (by omega), fun _ => ⟨Bool.eq_false_iff.2 b5, Bool.eq_false_iff.2 b4⟩⟩, Bool.true_and]
            · rw [if_neg b2]
              have hl2 : hlt (hcv l[j]) (hcv l[j + 1]) := by
                rcases bl_tri l[j].f0.toList l[j + 1].f0.toList with q1 | q1 | q1
                · exact .inl q1
                · exact absurd q1.symm b2
                · exact absurd q1 b1
              rw [hp.2 ⟨hl2, fun e => absurd e.symm b2⟩, Bool.true_and]
theorem ref_check_f (l : List PgH) (hl : l.length < 4398046511104) (q : Nat) (hq : 2 * l.length < q) : transeptref19_Check.f q l = some (lk_check (l.map hcv)) := by
  unfold transeptref19_Check.f lk_check lk_upto
  rw [List.length_map]
  by_cases h : l.length ≤ 4096
  · rw [if_neg (by omega)]
    have := ref_check_l0 l hl l.length q 0 (by omega) (by omega) hq
    rw [show ((0 : Nat) : Int) = 0 from rfl] at this
    rw [this, List.range_eq_range', show decide (l.length ≤ 4096) = true from decide_eq_true h, Bool.true_and]
  · rw [if_pos (by omega), show decide (l.length ≤ 4096) = false from decide_eq_false h, Bool.false_and]
    rfl
end Go.Proofs.Ytgbdajlfbmijgaa.Pure
