/- How a key is put into a list of holds, the program's way and the page's: alike. Lemmas for the laws of layer 19. -/
import Derived.Test.YtgbdajlfbmijgaaLocksLib
namespace Go.Proofs.Ytgbdajlfbmijgaa.Pure
open Go.RowKit Go.Proofs.YtgbdajlfbmijgaaW.PrintWords Go.Proofs.YtgbdajlfbmijgaaW.PrintLast Go.Proofs.Ytgbdajlfbmijgaa.Print
theorem bs_spec (c : LkH → Int) (l : List LkH) (hm : ∀ i j (hi : i < l.length) (hj : j < l.length), i < j → c l[j] < 0 → c l[i] < 0) :
    ∀ (f i j : Nat), j - i < f → i ≤ j → j ≤ l.length → (∀ t (h : t < l.length), t < i → c l[t] < 0) → (∀ t (h : t < l.length), j ≤ t → ¬ c l[t] < 0) →
      lk_bs c l f i j ≤ l.length ∧ (∀ t (h : t < l.length), t < lk_bs c l f i j → c l[t] < 0) ∧ (∀ t (h : t < l.length), lk_bs c l f i j ≤ t → ¬ c l[t] < 0)
  | 0, _, _, h, _, _, _, _ => absurd h (Nat.not_lt_zero _)
  | f + 1, i, j, h, hij, hj, h1, h2 => by
    simp only [lk_bs]
    by_cases hlt : i < j
    · rw [if_pos hlt]
      have hmid : (i + j) / 2 < l.length := by omega
      rw [rd_h l _ hmid]
      by_cases hc : c l[(i + j) / 2] < 0
      · rw [if_pos hc]
        refine bs_spec c l hm f _ j (by omega) (by omega) hj (fun t ht htm => ?_) h2
        rcases Nat.lt_or_ge t ((i + j) / 2) with q | q
        · exact hm t _ ht hmid q hc
        · have : t = (i + j) / 2 := by omega
          subst this; exact hc
      · rw [if_neg hc]
        refine bs_spec c l hm f i _ (by omega) (by omega) (by omega) h1 (fun t ht htm => ?_)
        rcases Nat.lt_or_ge ((i + j) / 2) t with q | q
        · exact fun q2 => hc (hm _ t hmid ht q q2)
        · have : t = (i + j) / 2 := by omega
          subst this; exact hc
    · rw [if_neg hlt]
      have : i = j := by omega
      subst this
      exact ⟨hj, h1, h2⟩
def hput (h : LkH) : List LkH → List LkH
  | [] => [h]
  | x :: l => if lk_ord x h < 0 then x :: hput h l else if lk_ord x h = 0 then ⟨x.f0, x.f1, x.f2 || h.f2⟩ :: l else h :: x :: l
def hhas (h : LkH) (l : List LkH) : Bool := l.any fun x => decide (lk_ord x h = 0)
theorem hput_app (h : LkH) (B : List LkH) : ∀ (A : List LkH), (∀ x ∈ A, lk_ord x h < 0) → hput h (A ++ B) = A ++ hput h B
  | [], _ => rfl
  | x :: A, hA => by
    rw [List.cons_append, hput, if_pos (hA x List.mem_cons_self), hput_app h B A (fun y hy => hA y (List.mem_cons_of_mem _ hy))]
    rfl
theorem ord_gt {x y h : LkH} (h1 : hlt x y) (h2 : ¬ lk_ord x h < 0) : lk_ord y h ≠ 0 ∧ ¬ lk_ord y h < 0 := by
  rw [ord_lt] at h2
  have hxy : ∀ z, heq z h → ¬ hlt x z := by
    intro z hz hxz
    refine h2 ?_
    rcases hxz with q | ⟨q1, q2⟩
    · exact .inl (by rw [← hz.1]; exact q)
    · exact .inr ⟨q1.trans hz.1, by have := hz.2; omega⟩
  refine ⟨fun q => hxy y ((ord_eq _ _).1 q) h1, fun q => h2 (hlt_trans h1 ((ord_lt _ _).1 q))⟩
theorem put_eq (l : List LkH) (hl : Ok l) (h : LkH) : lk_put l h = if hhas h l = true then (hput h l, 0) else if 4096 ≤ l.length then ([], 51) else (hput h l, 0) := by
  have hp := List.pairwise_iff_getElem.1 hl.sorted
  obtain ⟨h1, h2, h3⟩ := bs_spec (fun x => lk_ord x h) l (fun i j hi hj hij q => (ord_lt _ _).2 (hlt_trans (hp i j hi hj hij).1 ((ord_lt _ _).1 q))) (l.length + 1) 0 l.length (by omega) (Nat.zero_le _) (Nat.le_refl _) (fun t _ ht => absurd ht (Nat.not_lt_zero _)) (fun t ht q => by omega)
  unfold lk_put
  change lk_find (fun x => lk_ord x h) l ≤ l.length at h1
  change ∀ t (ht : t < l.length), t < lk_find (fun x => lk_ord x h) l → lk_ord l[t] h < 0 at h2
  change ∀ t (ht : t < l.length), lk_find (fun x => lk_ord x h) l ≤ t → ¬ lk_ord l[t] h < 0 at h3
  generalize lk_find (fun x => lk_ord x h) l = i at h1 h2 h3 ⊢
  have hA : ∀ x ∈ l.take i, lk_ord x h < 0 := by
    intro x hx
    obtain ⟨t, ht, rfl⟩ := List.getElem_of_mem hx
    rw [List.length_take] at ht
    rw [List.getElem_take]
    exact h2 t (by omega) (by omega)
  have hput' : hput h l = l.take i ++ hput h (l.drop i) := by
    conv => lhs; rw [← List.take_append_drop i l]
    exact hput_app h _ _ hA
  have hhas' : hhas h l = hhas h (l.drop i) := by
    unfold hhas
    conv => lhs; rw [← List.take_append_drop i l, List.any_append]
    rw [show (l.take i).any (fun x => decide (lk_ord x h = 0)) = false from List.any_eq_false.2 (fun x hx => by have := hA x hx; simp; omega), Bool.false_or]
  rw [hput', hhas']
  by_cases hi : i < l.length
  · rw [rd_h l i hi, List.drop_eq_getElem_cons hi]
    have hb := h3 i hi (Nat.le_refl _)
    by_cases h0 : lk_ord l[i] h = 0
    · rw [if_pos (show (decide (i < l.length) && decide (lk_ord l[i] h = 0)) = true by simp [hi, h0]), if_pos (show hhas h (l[i] :: l.drop (i + 1)) = true by unfold hhas; rw [List.any_cons, decide_eq_true h0, Bool.true_or]), hput, if_neg hb, if_pos h0, List.set_eq_take_append_cons_drop, if_pos hi]
    · have hno : hhas h (l[i] :: l.drop (i + 1)) = false := by
        refine List.any_eq_false.2 (fun x hx => ?_)
        rcases List.mem_cons.1 hx with rfl | hx
        · simpa using h0
        · obtain ⟨t, ht, rfl⟩ := List.getElem_of_mem hx
          rw [List.length_drop] at ht
          rw [List.getElem_drop]
          simpa using (ord_gt (hp i (i + 1 + t) hi (by omega) (by omega)).1 hb).1
      rw [if_neg (show ¬ (decide (i < l.length) && decide (lk_ord l[i] h = 0)) = true by simp [h0]), hno, if_neg (show ¬ false = true by simp), hput, if_neg hb, if_neg h0]
  · have hie : i = l.length := by omega
    subst hie
    rw [if_neg (show ¬ (decide (l.length < l.length) && decide (lk_ord (rd_T34 l (l.length : Nat)) h = 0)) = true by simp), List.drop_length, List.take_length, if_neg (show ¬ hhas h [] = true by simp [hhas])]
    rfl
theorem hput_len (h : LkH) : ∀ (l : List LkH), l.Pairwise hR → (hput h l).length = if hhas h l = true then l.length else l.length + 1
  | [], _ => rfl
  | x :: l, hl => by
    have hp := List.pairwise_cons.1 hl
    have ih := hput_len h l hp.2
    unfold hput
    by_cases h1 : lk_ord x h < 0
    · rw [if_pos h1, List.length_cons, ih]
      have : hhas h (x :: l) = hhas h l := by unfold hhas; rw [List.any_cons, show decide (lk_ord x h = 0) = false from decide_eq_false (by omega), Bool.false_or]
      rw [this]
      split <;> simp
    · rw [if_neg h1]
      by_cases h2 : lk_ord x h = 0
      · rw [if_pos h2, if_pos (by simp [hhas, h2])]; simp
      · rw [if_neg h2, if_neg]
        · simp
        · unfold hhas
          rw [List.any_eq_true]
          rintro ⟨y, hy, q⟩
          rw [decide_eq_true_eq] at q
          rcases List.mem_cons.1 hy with rfl | hy
          · exact h2 q
          · exact (ord_gt (hp.1 y hy).1 h1).1 q
/-! ### the page's way -/
def pbef (x own : PgH) : Bool := Go.Op.bytesLess x.f0.toList own.f0.toList || (decide (x.f0.toList = own.f0.toList) && decide (x.f1 < own.f1))
def psame (x own : PgH) : Bool := decide (x.f0.toList = own.f0.toList) && decide (x.f1 = own.f1)
theorem pbef_iff (x own : PgH) : pbef x own = true ↔ hlt (hcv x) (hcv own) := by
  unfold pbef hlt
  simp only [Bool.or_eq_true, Bool.and_eq_true, decide_eq_true_eq]
  exact Iff.rfl
theorem psame_iff (x own : PgH) : psame x own = true ↔ heq (hcv x) (hcv own) := by
  unfold psame heq
  rw [Bool.and_eq_true, decide_eq_true_eq, decide_eq_true_eq]
  exact Iff.rfl
theorem before_f (x own : PgH) : transeptref19_before.f x.f0 x.f1 x.f2 own.f0 own.f1 own.f2 = some (pbef x own) := by
  unfold transeptref19_before.f pbef
  by_cases h : Go.Op.bytesLess x.f0.toList own.f0.toList = true
  · rw [if_pos h, h]; rfl
  · rw [if_neg h, Bool.eq_false_iff.2 h, Bool.false_or]
    by_cases h2 : x.f0.toList = own.f0.toList
    · rw [if_pos h2, show decide (x.f0.toList = own.f0.toList) = true from decide_eq_true h2, Bool.true_and]
    · rw [if_neg h2, show decide (x.f0.toList = own.f0.toList) = false from decide_eq_false h2, Bool.false_and]
def pgo (own : PgH) : Bool → List PgH → List PgH
  | laid, [] => if laid = true then [] else [own]
  | laid, x :: xs => (if (!laid && !pbef x own) = true then [own] else []) ++ ((if psame x own = true then [] else [x]) ++ pgo own (laid || !pbef x own) xs)
def acqfin (out : List PgH) : List PgH × Int := if (out.length : Int) > 4096 then ([], 51) else (out, 0)
theorem acq_l1 (l : List PgH) (hl : l.length ≤ 4096) (own : PgH) (d : Nat) : ∀ (q i : Nat) (acc : List PgH) (laid : Bool), i ≤ l.length → l.length - i = d → 2 * d < q → acc.length ≤ 2 * i + 1 →
    transeptref19_Acquire.l1 q l own.f1 own.f0 acc laid (i : Int) own.f0 own.f1 own.f2 = some (acqfin (acc ++ pgo own laid (l.drop i))) := by
  induction d with
  | zero =>
    intro q i acc laid h1 h2 h3 h4
    obtain ⟨q, rfl⟩ : ∃ m, q = m + 1 := ⟨q - 1, by omega⟩
    obtain rfl : i = l.length := by omega
    simp only [transeptref19_Acquire.l1]
    rw [if_neg (by omega), List.drop_length, pgo]
    cases laid with
    | true =>
      rw [if_pos rfl, if_pos rfl, List.append_nil]
      unfold acqfin
      split <;> rfl
    | false =>
      simp only [Bool.false_eq_true, if_false]
      rw [if_pos (show acc.length < 4398046511104 by omega), Option.bind_some]
      unfold acqfin
      split <;> rfl
  | succ d ih =>
    intro q i acc laid h1 h2 h3 h4
    obtain ⟨q, rfl⟩ : ∃ m, q = m + 1 + 1 := ⟨q - 2, by omega⟩
    have hlt : i < l.length := by omega
    have hx : (⟨l[i].f0, l[i].f1, l[i].f2⟩ : PgH) = l[i] := rfl
    have step : ∀ (acc : List PgH) (laid : Bool), acc.length ≤ 2 * i + 2 → (if l[i].f0.toList = own.f0.toList then (if l[i].f1 = own.f1 then (transeptref19_Acquire.l1 q l own.f1 own.f0 acc laid (wrap64 ((i : Int) + 1)) own.f0 own.f1 own.f2) else (if acc.length < 4398046511104 then (transeptref19_Acquire.l1 q l own.f1 own.f0 (acc ++ [l[i]]) laid (wrap64 ((i : Int) + 1)) own.f0 own.f1 own.f2) else none)) else (if acc.length < 4398046511104 then (transeptref19_Acquire.l1 q l own.f1 own.f0 (acc ++ [l[i]]) laid (wrap64 ((i : Int) + 1)) own.f0 own.f1 own.f2) else none)) = some (acqfin (acc ++ ((if psame l[i] own = true then [] else [l[i]]) ++ pgo own laid (l.drop (i + 1))))) := by
      intro acc laid ha
      rw [wrap_next hlt (by omega)]
      have iha := ih q (i + 1) acc laid (by omega) (by omega) (by omega) (by omega)
      have ihb := ih q (i + 1) (acc ++ [l[i]]) laid (by omega) (by omega) (by omega) (by rw [List.length_append, List.length_singleton]; omega)
      by_cases e1 : l[i].f0.toList = own.f0.toList
      · by_cases e2 : l[i].f1 = own.f1
        · rw [if_pos e1, if_pos e2, iha, if_pos (show psame l[i] own = true by simp [psame, e1, e2])]
          rfl
        · rw [if_pos e1, if_neg e2, if_pos (by omega), ihb, if_neg (show ¬ psame l[i] own = true by simp [psame, e2])]
          simp
      · rw [if_neg e1, if_pos (by omega), ihb, if_neg (show ¬ psame l[i] own = true by simp [psame, e1])]
        simp
    rw [List.drop_eq_getElem_cons hlt, pgo]
    simp only [transeptref19_Acquire.l1]
    rw [if_pos (by omega)]
    cases laid with
    | true =>
      rw [if_pos rfl]
      simp only [transeptref19_Acquire.j2]
      rw [if_neg (by simp), if_pos (by omega), if_pos (by omega), rd_p l i hlt]
      exact step acc true (by omega)
    | false =>
      rw [if_neg (by simp), if_pos (by omega), rd_p l i hlt, before_f, Option.bind_some]
      simp only [transeptref19_Acquire.j2]
      cases pbef l[i] own with
      | true =>
        rw [if_neg (by simp), if_pos (by omega), if_pos (by omega), rd_p l i hlt]
        exact step acc false (by omega)
      | false =>
        rw [if_pos (by simp), if_pos (by omega), Option.bind_some, if_pos (by omega), if_pos (by omega), rd_p l i hlt]
        have h := step (acc ++ [own]) true (by rw [List.length_append, List.length_singleton]; omega)
        refine h.trans ?_
        rw [List.append_assoc]
        rfl
def pclash (k : ByteArray) (t : Int) (wr : Bool) (x : PgH) : Bool := lk_clash k t wr (hcv x)
def pw (own : PgH) (wr : Bool) : Bool → List PgH → Bool
  | w0, [] => w0
  | w0, x :: xs => if psame x own = true then pw own wr (wr || x.f2) xs else pw own wr w0 xs
theorem acq_l0 (l : List PgH) (hl : l.length ≤ 4096) (k : ByteArray) (t : Int) (wr : Bool) (d : Nat) : ∀ (q i : Nat) (w0 : Bool), i ≤ l.length → l.length - i = d → d + 2 * l.length + 1 < q →
    transeptref19_Acquire.l0 q l t k wr (i : Int) k t w0 = some (if (l.drop i).any (pclash k t wr) = true then ([], 191) else acqfin (pgo ⟨k, t, pw ⟨k, t, wr⟩ wr w0 (l.drop i)⟩ false l)) := by
  induction d with
  | zero =>
    intro q i w0 h1 h2 h3
    obtain ⟨q, rfl⟩ : ∃ m, q = m + 1 := ⟨q - 1, by omega⟩
    obtain rfl : i = l.length := by omega
    simp only [transeptref19_Acquire.l0]
    rw [if_neg (by omega), List.drop_length, if_neg (by simp), pw]
    have h := acq_l1 l hl ⟨k, t, w0⟩ l.length q 0 [] false (by omega) (by omega) (by omega) (by simp)
    rw [List.drop_zero, List.nil_append] at h
    exact h
  | succ d ih =>
    intro q i w0 h1 h2 h3
    obtain ⟨q, rfl⟩ : ∃ m, q = m + 1 := ⟨q - 1, by omega⟩
    have hlt : i < l.length := by omega
    rw [List.drop_eq_getElem_cons hlt, List.any_cons, pw]
    simp only [transeptref19_Acquire.l0]
    rw [if_pos (by omega), if_pos (by omega), rd_p l i hlt, wrap_next hlt (by omega)]
    have ih' := fun w0 => ih q (i + 1) w0 (by omega) (by omega) (by omega)
    by_cases e1 : l[i].f0.toList = k.toList
    · rw [if_pos e1]
      by_cases e2 : l[i].f1 = t
      · rw [if_pos e2, if_pos (show psame l[i] ⟨k, t, wr⟩ = true by simp [psame, e1, e2]), show pclash k t wr l[i] = false by simp [pclash, lk_clash, hcv, e2], Bool.false_or]
        cases wr with
        | true => rw [if_pos rfl, ih']; rfl
        | false => rw [if_neg (by simp), ih']; rfl
      · rw [if_neg e2, if_neg (show ¬ psame l[i] ⟨k, t, wr⟩ = true by simp [psame, e2])]
        cases wr with
        | true => rw [if_pos rfl, show pclash k t true l[i] = true by simp [pclash, lk_clash, hcv, e1, e2], Bool.true_or, if_pos rfl]
        | false =>
          rw [if_neg (by simp)]
          by_cases e3 : l[i].f2 = true
          · rw [if_pos e3, show pclash k t false l[i] = true by simp [pclash, lk_clash, hcv, e1, e2, e3], Bool.true_or, if_pos rfl]
          · rw [if_neg e3, ih', show pclash k t false l[i] = false by simp [pclash, lk_clash, hcv, e3], Bool.false_or]
    · rw [if_neg e1, ih', if_neg (show ¬ psame l[i] ⟨k, t, wr⟩ = true by simp [psame, e1]), show pclash k t wr l[i] = false by simp [pclash, lk_clash, hcv, e1], Bool.false_or]
theorem pgo_true (own : PgH) : ∀ (l : List PgH), (∀ x ∈ l, psame x own = false) → pgo own true l = l
  | [], _ => rfl
  | x :: l, h => by
    rw [pgo, if_neg (by simp), if_neg (by rw [h x List.mem_cons_self]; simp), Bool.true_or, pgo_true own l (fun y hy => h y (List.mem_cons_of_mem _ hy))]
    rfl
theorem after_not {x y own : PgH} (h1 : hlt (hcv x) (hcv y)) (h2 : pbef x own = false) : psame y own = false := by
  cases h : psame y own with
  | false => rfl
  | true =>
    have hn : ¬ lk_ord (hcv x) (hcv own) < 0 := by
      rw [ord_lt, ← pbef_iff, h2]; simp
    exact absurd ((ord_eq _ _).2 ((psame_iff _ _).1 h)) (ord_gt h1 hn).1
theorem pgo_put (own : PgH) (wr : Bool) : ∀ (l : List PgH), (l.map hcv).Pairwise hR → (∀ x ∈ l, psame x own = true → own.f2 = (x.f2 || wr)) → ((∀ x ∈ l, psame x own = false) → own.f2 = wr) →
    (pgo own false l).map hcv = hput ⟨own.f0, own.f1, wr⟩ (l.map hcv)
  | [], _, _, h2 => by
    have h3 := h2 (by simp)
    show [hcv own] = [_]
    rw [← h3]; rfl
  | x :: l, hs, h1, h2 => by
    have hp := List.pairwise_cons.1 hs
    have hord : lk_ord (hcv x) ⟨own.f0, own.f1, wr⟩ = lk_ord (hcv x) (hcv own) := rfl
    rw [pgo, List.map_cons, hput, hord]
    cases hb : pbef x own with
    | true =>
      have hlt' := (pbef_iff x own).1 hb
      have hns : psame x own = false := by
        cases h : psame x own with
        | false => rfl
        | true => have := (ord_eq _ _).2 ((psame_iff _ _).1 h); have := (ord_lt _ _).2 hlt'; omega
      rw [if_neg (by simp), if_neg (by rw [hns]; simp), if_pos ((ord_lt _ _).2 hlt')]
      rw [List.nil_append, List.map_append]
      show hcv x :: List.map hcv (pgo own false l) = _
      rw [pgo_put own wr l hp.2 (fun y hy => h1 y (List.mem_cons_of_mem _ hy)) (fun hn => h2 (fun y hy => by
        rcases List.mem_cons.1 hy with rfl | hy
        · exact hns
        · exact hn y hy))]
    | false =>
      have hrest : ∀ y ∈ l, psame y own = false := fun y hy => after_not (hp.1 (hcv y) (List.mem_map_of_mem hy)).1 hb
      have hnl : ¬ lk_ord (hcv x) (hcv own) < 0 := by rw [ord_lt, ← pbef_iff, hb]; simp
      rw [if_pos (by simp), if_neg hnl]
      show List.map hcv ([own] ++ ((if psame x own = true then [] else [x]) ++ pgo own true l)) = _
      rw [pgo_true own l hrest]
      cases hsx : psame x own with
      | true =>
        have he := (psame_iff _ _).1 hsx
        rw [if_pos rfl, if_pos ((ord_eq _ _).2 he)]
        have hf := h1 x List.mem_cons_self hsx
        have hk : own.f0 = x.f0 := ba_ext he.1.symm
        have ht : own.f1 = x.f1 := he.2.symm
        show hcv own :: List.map hcv l = _
        unfold hcv
        rw [hk, ht, hf]
      | false =>
        rw [if_neg (by simp), if_neg (fun q => by have := (psame_iff x own).2 ((ord_eq _ _).1 q); rw [hsx] at this; cases this)]
        have hf := h2 (fun y hy => by
          rcases List.mem_cons.1 hy with rfl | hy
          · exact hsx
          · exact hrest y hy)
        show hcv own :: hcv x :: List.map hcv l = _
        rw [show hcv own = ⟨own.f0, own.f1, wr⟩ by unfold hcv; rw [hf]]
theorem pw_none (own : PgH) (wr : Bool) : ∀ (l : List PgH) (w0 : Bool), (∀ x ∈ l, psame x own = false) → pw own wr w0 l = w0
  | [], _, _ => rfl
  | x :: l, w0, h => by
    rw [pw, if_neg (by rw [h x List.mem_cons_self]; simp)]
    exact pw_none own wr l w0 (fun y hy => h y (List.mem_cons_of_mem _ hy))
theorem same_w (own own' : PgH) (h0 : own.f0 = own'.f0) (h1 : own.f1 = own'.f1) (x : PgH) : psame x own = psame x own' := by unfold psame; rw [h0, h1]
theorem pw_some (own : PgH) (wr : Bool) : ∀ (l : List PgH) (w0 : Bool), (l.map hcv).Pairwise hR → ∀ x ∈ l, psame x own = true → pw own wr w0 l = (wr || x.f2)
  | [], _, _, _, hx, _ => by cases hx
  | y :: l, w0, hs, x, hx, hsm => by
    have hp := List.pairwise_cons.1 hs
    rw [pw]
    by_cases hy : psame y own = true
    · rw [if_pos hy]
      have hb : pbef y own = false := by
        cases h : pbef y own with
        | false => rfl
        | true => have := (ord_eq _ _).2 ((psame_iff _ _).1 hy); have := (ord_lt _ _).2 ((pbef_iff _ _).1 h); omega
      have hrest : ∀ z ∈ l, psame z own = false := fun z hz => after_not (hp.1 (hcv z) (List.mem_map_of_mem hz)).1 hb
      rw [pw_none own wr l _ hrest]
      rcases List.mem_cons.1 hx with rfl | hx
      · rfl
      · rw [hrest x hx] at hsm; cases hsm
    · rw [if_neg hy]
      rcases List.mem_cons.1 hx with rfl | hx
      · exact absurd hsm hy
      · exact pw_some own wr l w0 hp.2 x hx hsm
theorem acquire_same (l : List PgH) (hl : l.length < 4398046511104) (t : Int) (k : ByteArray) (wr : Bool) (q : Nat) (hq : 4 * l.length + 20 < q) :
    ∃ (out : List PgH) (e : Int), transeptref19_Acquire.f q l t k wr = some (out, e) ∧ lk_acquire (l.map hcv) t k wr = (out.map hcv, e) ∧ out.length ≤ 4096 := by
  unfold transeptref19_Acquire.f lk_acquire
  rw [ref_check_f l hl q (by omega), Option.bind_some]
  rcases check_cases (l.map hcv) with hc | hc
  · have hok := (check_iff _).1 hc
    have hlen : l.length ≤ 4096 := by have := hok.len; rwa [List.length_map] at this
    rw [hc, if_pos rfl, if_neg (by decide), ref_key, Option.bind_some]
    cases lk_key k with
    | false => rw [if_neg (by simp), if_pos rfl]; exact ⟨_, _, rfl, rfl, by simp⟩
    | true =>
      rw [if_pos rfl, if_neg (by simp), ref_txn, Option.bind_some]
      cases lk_txn t with
      | false => rw [if_neg (by simp), if_pos rfl]; exact ⟨_, _, rfl, rfl, by simp⟩
      | true =>
        rw [if_pos rfl, if_neg (by simp)]
        have h0 := acq_l0 l hlen k t wr l.length q 0 wr (by omega) (by omega) (by omega)
        rw [show ((0 : Nat) : Int) = 0 from rfl, List.drop_zero] at h0
        rw [h0]
        have hany : (l.map hcv).any (lk_clash k t wr) = l.any (pclash k t wr) := by rw [List.any_map]; rfl
        rw [hany]
        cases l.any (pclash k t wr) with
        | true => rw [if_pos rfl, if_pos rfl]; exact ⟨_, _, rfl, rfl, by simp⟩
        | false =>
          rw [if_neg (by simp), if_neg (by simp), put_eq _ hok]
          have hw1 : ∀ x ∈ l, psame x ⟨k, t, pw ⟨k, t, wr⟩ wr wr l⟩ = true → pw ⟨k, t, wr⟩ wr wr l = (x.f2 || wr) := by
            intro x hx hs
            rw [Bool.or_comm]
            exact pw_some ⟨k, t, wr⟩ wr l wr hok.sorted x hx (by rw [← hs]; exact same_w _ _ rfl rfl x)
          have hw2 : (∀ x ∈ l, psame x ⟨k, t, pw ⟨k, t, wr⟩ wr wr l⟩ = false) → pw ⟨k, t, wr⟩ wr wr l = wr := by
            intro hn
            exact pw_none _ _ l wr (fun x hx => by rw [← hn x hx]; exact same_w _ _ rfl rfl x)
          have hpg := pgo_put ⟨k, t, pw ⟨k, t, wr⟩ wr wr l⟩ wr l hok.sorted hw1 hw2
          generalize hout : pgo ⟨k, t, pw ⟨k, t, wr⟩ wr wr l⟩ false l = out at hpg
          have hlo := congrArg List.length hpg
          rw [hput_len _ _ hok.sorted, List.length_map, List.length_map] at hlo
          rw [← hpg, List.length_map]
          have hh : hhas ⟨k, t, wr⟩ (l.map hcv) = hhas ⟨(⟨k, t, pw ⟨k, t, wr⟩ wr wr l⟩ : PgH).f0, (⟨k, t, pw ⟨k, t, wr⟩ wr wr l⟩ : PgH).f1, wr⟩ (l.map hcv) := rfl
          rw [← hh] at hlo
          unfold acqfin
          cases hhx : hhas ⟨k, t, wr⟩ (l.map hcv) with
          | true =>
            rw [hhx, if_pos rfl] at hlo
            rw [if_pos (show true = true from rfl), if_neg (show ¬ (out.length : Int) > 4096 by omega)]
            exact ⟨_, _, rfl, rfl, by omega⟩
          | false =>
            rw [hhx, if_neg (show ¬ false = true by simp)] at hlo
            rw [if_neg (show ¬ false = true by simp)]
            by_cases h4 : 4096 ≤ l.length
            · rw [if_pos h4, if_pos (show (out.length : Int) > 4096 by omega)]
              exact ⟨_, _, rfl, rfl, by simp⟩
            · rw [if_neg h4, if_neg (show ¬ (out.length : Int) > 4096 by omega)]
              exact ⟨_, _, rfl, rfl, by omega⟩
  · rw [hc, if_neg (by decide), if_pos (by decide)]
    exact ⟨_, _, rfl, rfl, by simp⟩
end Go.Proofs.Ytgbdajlfbmijgaa.Pure
