/- A list of holds that may be stays one that may be; what a put leaves of the others. Lemmas for the laws of layer 19. -/
import Derived.Test.YtgbdajlfbmijgaaLocksRel
namespace Go.Proofs.Ytgbdajlfbmijgaa.Pure
open Go.RowKit Go.Proofs.YtgbdajlfbmijgaaW.PrintWords Go.Proofs.YtgbdajlfbmijgaaW.PrintLast Go.Proofs.Ytgbdajlfbmijgaa.Print
theorem mem_hput (h : LkH) : ∀ (l : List LkH) (y : LkH), y ∈ hput h l → y = h ∨ y ∈ l ∨ ∃ x ∈ l, lk_ord x h = 0 ∧ y = ⟨x.f0, x.f1, x.f2 || h.f2⟩
  | [], y, hy => .inl (by simpa [hput] using hy)
  | x :: l, y, hy => by
    unfold hput at hy
    split at hy
    · rcases List.mem_cons.1 hy with rfl | hy
      · exact .inr (.inl List.mem_cons_self)
      · rcases mem_hput h l y hy with q | q | ⟨z, hz, q⟩
        · exact .inl q
        · exact .inr (.inl (List.mem_cons_of_mem _ q))
        · exact .inr (.inr ⟨z, List.mem_cons_of_mem _ hz, q⟩)
    · split at hy
      · rename_i h0
        rcases List.mem_cons.1 hy with rfl | hy
        · exact .inr (.inr ⟨x, List.mem_cons_self, h0, rfl⟩)
        · exact .inr (.inl (List.mem_cons_of_mem _ hy))
      · rcases List.mem_cons.1 hy with rfl | hy
        · exact .inl rfl
        · exact .inr (.inl hy)
theorem lt_txn {x y : LkH} (h : hlt x y) (e : x.f0.toList = y.f0.toList) : x.f1 < y.f1 := by
  rcases h with h | h
  · rw [e, bl_irrefl] at h; cases h
  · exact h.2
theorem put_sorted (h : LkH) : ∀ (l : List LkH), l.Pairwise hR → (∀ x ∈ l, x.f0.toList = h.f0.toList → x.f1 ≠ h.f1 → h.f2 = false ∧ x.f2 = false) → (hput h l).Pairwise hR
  | [], _, _ => by simp [hput]
  | x :: l, hs, hP => by
    have hp := List.pairwise_cons.1 hs
    have hPx := hP x List.mem_cons_self
    have hPl := fun y (hy : y ∈ l) => hP y (List.mem_cons_of_mem _ hy)
    unfold hput
    by_cases h1 : lk_ord x h < 0
    · rw [if_pos h1]
      have hxh := (ord_lt _ _).1 h1
      refine List.pairwise_cons.2 ⟨fun y hy => ?_, put_sorted h l hp.2 hPl⟩
      rcases mem_hput h l y hy with rfl | q | ⟨z, hz, hz0, rfl⟩
      · refine ⟨hxh, fun e => ?_⟩
        have := hPx e (by have := lt_txn hxh e; omega)
        exact ⟨this.2, this.1⟩
      · exact hp.1 y q
      · have hxz := hp.1 z hz
        refine ⟨hxz.1, fun e => ?_⟩
        have e' : x.f0.toList = z.f0.toList := e
        have hzh := (ord_eq _ _).1 hz0
        have h2 := hxz.2 e'
        have h3 := hPx (e'.trans hzh.1) (by have := lt_txn hxh (e'.trans hzh.1); omega)
        exact ⟨h2.1, by show (z.f2 || h.f2) = false; rw [h2.2, h3.1]; rfl⟩
    · rw [if_neg h1]
      by_cases h2 : lk_ord x h = 0
      · rw [if_pos h2]
        have hxh := (ord_eq _ _).1 h2
        refine List.pairwise_cons.2 ⟨fun y hy => ?_, hp.2⟩
        have hxy := hp.1 y hy
        refine ⟨hxy.1, fun e => ?_⟩
        have e' : x.f0.toList = y.f0.toList := e
        have h3 := hxy.2 e'
        have h4 := hPl y hy (e'.symm.trans hxh.1) (by have := lt_txn hxy.1 e'; have := hxh.2; omega)
        exact ⟨by show (x.f2 || h.f2) = false; rw [h3.1, h4.1]; rfl, h3.2⟩
      · rw [if_neg h2]
        have hhx : hlt h x := by
          rcases hlt_tri x h with q | q | q
          · exact absurd ((ord_lt _ _).2 q) h1
          · exact absurd ((ord_eq _ _).2 q) h2
          · exact q
        refine List.pairwise_cons.2 ⟨fun y hy => ?_, hs⟩
        have hhy : hlt h y := by
          rcases List.mem_cons.1 hy with rfl | hy
          · exact hhx
          · exact hlt_trans hhx (hp.1 y hy).1
        exact ⟨hhy, fun e => hP y hy e.symm (by have := lt_txn hhy e; omega)⟩
theorem acq_ok {L : List LkH} (hL : Ok L) {t : Int} {k : ByteArray} {wr : Bool} (h : (lk_acquire L t k wr).2 = 0) :
    lk_key k = true ∧ lk_txn t = true ∧ (lk_acquire L t k wr).1 = hput ⟨k, t, wr⟩ L ∧ Ok (hput ⟨k, t, wr⟩ L) := by
  have hc := (check_iff L).2 hL
  unfold lk_acquire at h ⊢
  rw [if_neg (fun q => q hc)] at h ⊢
  cases hk : lk_key k with
  | false => rw [hk, if_pos rfl] at h; cases h
  | true =>
    rw [hk, if_neg (show ¬ true = false by simp)] at h
    rw [if_neg (show ¬ true = false by simp)]
    cases ht : lk_txn t with
    | false => rw [ht, if_pos rfl] at h; cases h
    | true =>
      rw [ht, if_neg (show ¬ true = false by simp)] at h
      rw [if_neg (show ¬ true = false by simp)]
      cases hcl : L.any (lk_clash k t wr) with
      | true => rw [hcl, if_pos rfl] at h; cases h
      | false =>
        rw [hcl, if_neg (show ¬ false = true by simp), put_eq L hL] at h
        rw [if_neg (show ¬ false = true by simp), put_eq L hL]
        have hP : ∀ x ∈ L, x.f0.toList = (⟨k, t, wr⟩ : LkH).f0.toList → x.f1 ≠ (⟨k, t, wr⟩ : LkH).f1 → (⟨k, t, wr⟩ : LkH).f2 = false ∧ x.f2 = false := by
          intro x hx e1 e2
          have := List.any_eq_false.1 hcl x hx
          have e1' : (x.f0.toList == k.toList) = true := by simpa using e1
          have e2' : (x.f1 != t) = true := by simpa using e2
          unfold lk_clash at this
          rw [e1', e2'] at this
          simpa using this
        have hs := put_sorted ⟨k, t, wr⟩ L hL.sorted hP
        have hg : ∀ y ∈ hput ⟨k, t, wr⟩ L, hgood y := by
          intro y hy
          rcases mem_hput _ _ y hy with rfl | q | ⟨z, hz, _, rfl⟩
          · exact ⟨hk, ht⟩
          · exact hL.good y q
          · exact hL.good z hz
        have hl := hput_len ⟨k, t, wr⟩ L hL.sorted
        have h5 := hL.len
        cases hh : hhas ⟨k, t, wr⟩ L with
        | true =>
          rw [hh, if_pos rfl] at hl
          rw [if_pos rfl]
          exact ⟨rfl, rfl, rfl, by omega, hg, hs⟩
        | false =>
          rw [hh, if_neg (show ¬ false = true by simp)] at h hl
          rw [if_neg (show ¬ false = true by simp)]
          by_cases h4 : 4096 ≤ L.length
          · rw [if_pos h4] at h; cases h
          · rw [if_neg h4]
            exact ⟨rfl, rfl, rfl, by omega, hg, hs⟩
theorem filter_ok {L : List LkH} (hL : Ok L) (p : LkH → Bool) : Ok (L.filter p) :=
  ⟨Nat.le_trans (List.length_filter_le _ _) hL.len, fun x hx => hL.good x (List.mem_filter.1 hx).1, hL.sorted.filter p⟩
theorem rel_ok {L : List LkH} (hL : Ok L) {t : Int} (h : (lk_release L t).2.2 = 0) : lk_txn t = true ∧ lk_release L t = (L.filter (fun x => !(x.f1 == t)), (L.length : Int) - ((L.filter (fun x => !(x.f1 == t))).length : Int), 0) := by
  have hc := (check_iff L).2 hL
  unfold lk_release at h ⊢
  rw [if_neg (fun q => q hc)] at h ⊢
  cases ht : lk_txn t with
  | false => rw [ht, if_pos rfl] at h; cases h
  | true => exact ⟨rfl, by rw [if_neg (show ¬ true = false by simp)]⟩
theorem rel_check {L : List LkH} {t : Int} (h : (lk_release L t).2.2 = 0) : Ok L := by
  refine (check_iff L).1 ?_
  unfold lk_release at h
  by_cases hc : lk_check L = 0
  · exact hc
  · rw [if_pos hc] at h; exact absurd h hc
theorem nil_ok : Ok [] := ⟨by simp, by simp, by simp⟩
theorem hput_filter (h : LkH) : ∀ (l : List LkH), (hput h l).filter (fun x => !(x.f1 == h.f1)) = l.filter (fun x => !(x.f1 == h.f1))
  | [] => by simp [hput]
  | x :: l => by
    unfold hput
    split
    · rw [List.filter_cons, List.filter_cons, hput_filter h l]
    · split
      · rename_i h2
        have := ((ord_eq _ _).1 h2).2
        rw [List.filter_cons, List.filter_cons, if_neg (by simp [this]), if_neg (by simp [this])]
      · rw [List.filter_cons, if_neg (by simp)]
end Go.Proofs.Ytgbdajlfbmijgaa.Pure
