/- Release and Held, the program's way and the page's: alike; the page's example. Lemmas for the laws of layer 19. -/
import Derived.Test.YtgbdajlfbmijgaaLocksPut
namespace Go.Proofs.Ytgbdajlfbmijgaa.Pure
open Go.RowKit Go.Proofs.YtgbdajlfbmijgaaW.PrintWords Go.Proofs.YtgbdajlfbmijgaaW.PrintLast Go.Proofs.Ytgbdajlfbmijgaa.Print
theorem rel_l0 (l : List PgH) (hl : l.length < 4398046511104) (t : Int) (d : Nat) : ∀ (q i : Nat) (acc : List PgH), acc.length ≤ i → i ≤ l.length → l.length - i = d → d < q →
    transeptref19_Release.l0 q l t acc (i : Int) = some (acc ++ (l.drop i).filter (fun x => !(x.f1 == t)), (l.length : Int) - ((acc ++ (l.drop i).filter (fun x => !(x.f1 == t))).length : Int), 0) := by
  induction d with
  | zero =>
    intro q i acc ha h1 h2 h3
    obtain ⟨q, rfl⟩ : ∃ m, q = m + 1 := ⟨q - 1, by omega⟩
    obtain rfl : i = l.length := by omega
    simp only [transeptref19_Release.l0]
    rw [if_neg (by omega), List.drop_length, List.filter_nil, List.append_nil, wrap_add (by omega) (by omega)]
  | succ d ih =>
    intro q i acc ha h1 h2 h3
    obtain ⟨q, rfl⟩ : ∃ m, q = m + 1 := ⟨q - 1, by omega⟩
    have hlt : i < l.length := by omega
    simp only [transeptref19_Release.l0]
    rw [if_pos (by omega), if_pos (by omega), rd_p l i hlt, wrap_next hlt (by omega), List.drop_eq_getElem_cons hlt, List.filter_cons]
    by_cases e : l[i].f1 = t
    · rw [if_pos e, if_neg (by simp [e]), ih q (i + 1) acc (by omega) (by omega) (by omega) (by omega)]
    · rw [if_neg e, if_pos (by omega), if_pos (by simp [e]), ih q (i + 1) _ (by rw [List.length_append, List.length_singleton]; omega) (by omega) (by omega) (by omega)]
      simp [List.append_assoc]
theorem release_same (l : List PgH) (hl : l.length < 4398046511104) (t : Int) (q : Nat) (hq : 2 * l.length + 10 < q) :
    ∃ (out : List PgH) (n e : Int), transeptref19_Release.f q l t = some (out, n, e) ∧ lk_release (l.map hcv) t = (out.map hcv, n, e) ∧ out.length ≤ l.length := by
  unfold transeptref19_Release.f lk_release
  rw [ref_check_f l hl q (by omega), Option.bind_some]
  rcases check_cases (l.map hcv) with hc | hc
  · rw [hc, if_pos rfl, if_neg (by decide), ref_txn, Option.bind_some]
    cases lk_txn t with
    | false => rw [if_neg (by simp), if_pos rfl]; exact ⟨_, _, _, rfl, rfl, by simp⟩
    | true =>
      rw [if_pos rfl, if_neg (by simp)]
      have h := rel_l0 l hl t l.length q 0 [] (by simp) (by omega) (by omega) (by omega)
      rw [show ((0 : Nat) : Int) = 0 from rfl, List.drop_zero, List.nil_append] at h
      refine ⟨_, _, _, h, ?_, List.length_filter_le _ _⟩
      rw [List.filter_map, List.length_map, List.length_map]
      rfl
  · rw [hc, if_neg (by decide), if_pos (by decide)]
    exact ⟨_, _, _, rfl, rfl, by simp⟩
def hmatch (k : ByteArray) (x : LkH) : Bool := decide (x.f0.toList = k.toList)
def lk_held (L : List LkH) (k : ByteArray) : List Int × Bool × Int :=
  if lk_check L ≠ 0 then ([], false, lk_check L) else if lk_key k = false then ([], false, 91) else ((L.filter (hmatch k)).map (fun x => x.f1), L.any (fun x => hmatch k x && x.f2), 0)
theorem held_l0 (l : List LkH) (hl : l.length ≤ 4096) (k : ByteArray) (d : Nat) : ∀ (q i : Nat) (acc : List Int) (w : Bool), acc.length ≤ i → i ≤ l.length → l.length - i = d → d < q →
    locks_Held.l0 q k acc w l (l.length : Int) (i : Int) = some (acc ++ ((l.drop i).filter (hmatch k)).map (fun x => x.f1), w || (l.drop i).any (fun x => hmatch k x && x.f2), 0) := by
  induction d with
  | zero =>
    intro q i acc w ha h1 h2 h3
    obtain ⟨q, rfl⟩ : ∃ m, q = m + 1 := ⟨q - 1, by omega⟩
    obtain rfl : i = l.length := by omega
    simp only [locks_Held.l0]
    rw [if_neg (by omega), List.drop_length]
    simp
  | succ d ih =>
    intro q i acc w ha h1 h2 h3
    obtain ⟨q, rfl⟩ : ∃ m, q = m + 1 := ⟨q - 1, by omega⟩
    have hlt : i < l.length := by omega
    simp only [locks_Held.l0]
    rw [if_pos (by omega), if_pos (by omega), if_pos (by omega), rd_h l i hlt, wrap_next hlt (by omega), List.drop_eq_getElem_cons hlt, List.filter_cons, List.any_cons]
    by_cases e : l[i].f0.toList = k.toList
    · rw [if_pos e, if_pos (by omega), Option.bind_some, show hmatch k l[i] = true from decide_eq_true e, if_pos rfl]
      cases w with
      | true => rw [if_pos rfl, ih q (i + 1) _ _ (by rw [List.length_append, List.length_singleton]; omega) (by omega) (by omega) (by omega)]; simp [List.append_assoc]
      | false => rw [if_neg (by simp), ih q (i + 1) _ _ (by rw [List.length_append, List.length_singleton]; omega) (by omega) (by omega) (by omega)]; simp [List.append_assoc]
    · rw [if_neg e, show hmatch k l[i] = false from decide_eq_false e, if_neg (by simp), ih q (i + 1) acc w (by omega) (by omega) (by omega) (by omega)]
      simp
theorem held_f (l : List LkH) (k : ByteArray) (q : Nat) (hq : l.length < q) : locks_Held.f q l k = some (lk_held l k) := by
  unfold locks_Held.f lk_held
  rw [show locks_Check.f l = some (lk_check l) from rfl, Option.bind_some]
  by_cases hc : lk_check l = 0
  · rw [if_pos hc, if_neg (fun h => h hc), lk_key_f, Option.bind_some]
    cases lk_key k with
    | false => rw [if_neg (by simp), if_pos rfl]
    | true =>
      rw [if_pos rfl, if_neg (by simp)]
      have h := held_l0 l ((check_iff l).1 hc).len k l.length q 0 [] false (by simp) (by omega) (by omega) hq
      rw [show ((0 : Nat) : Int) = 0 from rfl, List.drop_zero, List.nil_append, Bool.false_or] at h
      exact h
  · rw [if_neg hc, if_pos hc]
theorem ref_held_l0 (l : List PgH) (hl : l.length ≤ 4096) (k : ByteArray) (d : Nat) : ∀ (q i : Nat) (acc : List Int) (w : Bool), acc.length ≤ i → i ≤ l.length → l.length - i = d → d < q →
    transeptref19_Held.l0 q l k acc w (i : Int) = some (acc ++ (((l.drop i).map hcv).filter (hmatch k)).map (fun x => x.f1), w || ((l.drop i).map hcv).any (fun x => hmatch k x && x.f2), 0) := by
  induction d with
  | zero =>
    intro q i acc w ha h1 h2 h3
    obtain ⟨q, rfl⟩ : ∃ m, q = m + 1 := ⟨q - 1, by omega⟩
    obtain rfl : i = l.length := by omega
    simp only [transeptref19_Held.l0]
    rw [if_neg (by omega), List.drop_length]
    simp
  | succ d ih =>
    intro q i acc w ha h1 h2 h3
    obtain ⟨q, rfl⟩ : ∃ m, q = m + 1 := ⟨q - 1, by omega⟩
    have hlt : i < l.length := by omega
    simp only [transeptref19_Held.l0]
    rw [if_pos (by omega), if_pos (by omega), rd_p l i hlt, wrap_next hlt (by omega), List.drop_eq_getElem_cons hlt, List.map_cons, List.filter_cons, List.any_cons]
    by_cases e : l[i].f0.toList = k.toList
    · rw [if_pos e, if_pos (by omega), Option.bind_some, show hmatch k (hcv l[i]) = true from decide_eq_true e, if_pos rfl]
      cases w with
      | true => rw [if_pos rfl, ih q (i + 1) _ _ (by rw [List.length_append, List.length_singleton]; omega) (by omega) (by omega) (by omega)]; simp [List.append_assoc, hcv]
      | false => rw [if_neg (by simp), ih q (i + 1) _ _ (by rw [List.length_append, List.length_singleton]; omega) (by omega) (by omega) (by omega)]; simp [List.append_assoc, hcv]
    · rw [if_neg e, show hmatch k (hcv l[i]) = false from decide_eq_false e, if_neg (by simp), ih q (i + 1) acc w (by omega) (by omega) (by omega) (by omega)]
      simp
theorem ref_held_f (l : List PgH) (hl : l.length < 4398046511104) (k : ByteArray) (q : Nat) (hq : 2 * l.length + 10 < q) : transeptref19_Held.f q l k = some (lk_held (l.map hcv) k) := by
  unfold transeptref19_Held.f lk_held
  rw [ref_check_f l hl q (by omega), Option.bind_some]
  rcases check_cases (l.map hcv) with hc | hc
  · have hlen : l.length ≤ 4096 := by have := ((check_iff _).1 hc).len; rwa [List.length_map] at this
    rw [hc, if_pos rfl, if_neg (by decide), ref_key, Option.bind_some]
    cases lk_key k with
    | false => rw [if_neg (by simp), if_pos rfl]
    | true =>
      rw [if_pos rfl, if_neg (by simp)]
      have h := ref_held_l0 l hlen k l.length q 0 [] false (by simp) (by omega) (by omega) (by omega)
      rw [show ((0 : Nat) : Int) = 0 from rfl, List.drop_zero, List.nil_append, Bool.false_or] at h
      exact h
  · rw [hc, if_neg (by decide), if_pos (by decide)]
theorem lk_held_len (L : List LkH) (k : ByteArray) : (lk_held L k).1.length ≤ L.length := by
  unfold lk_held
  split
  · simp
  · split
    · simp
    · rw [List.length_map]; exact List.length_filter_le _ _
theorem same_ints_l0 (l : List Int) (hl : l.length ≤ 140737488355328) (d : Nat) : ∀ (q i : Nat), i ≤ l.length → l.length - i = d → d < q → transeptplain_SameInts.l0 q l l (i : Int) = some true := by
  induction d with
  | zero =>
    intro q i h1 h2 h3
    obtain ⟨q, rfl⟩ : ∃ m, q = m + 1 := ⟨q - 1, by omega⟩
    obtain rfl : i = l.length := by omega
    simp only [transeptplain_SameInts.l0]
    rw [if_neg (by omega)]
  | succ d ih =>
    intro q i h1 h2 h3
    obtain ⟨q, rfl⟩ : ∃ m, q = m + 1 := ⟨q - 1, by omega⟩
    have hlt : i < l.length := by omega
    simp only [transeptplain_SameInts.l0]
    rw [if_pos (by omega), if_pos (by omega), if_pos (by omega), if_pos trivial, wrap_next hlt hl, ih q (i + 1) (by omega) (by omega) (by omega)]
theorem same_ints (l : List Int) (hl : l.length ≤ 140737488355328) (q : Nat) (hq : l.length < q) : transeptplain_SameInts.f q l l = some true := by
  unfold transeptplain_SameInts.f
  rw [if_pos rfl]
  exact same_ints_l0 l hl l.length q 0 (by omega) (by omega) hq
theorem lnum_f (a : Int) : transeptlaw19_num.f a = some a := rfl
theorem lalive_f : transeptlaw19_alive.f = some true := by decide +kernel
end Go.Proofs.Ytgbdajlfbmijgaa.Pure
