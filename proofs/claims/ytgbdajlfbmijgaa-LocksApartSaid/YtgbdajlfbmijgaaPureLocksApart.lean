/- Whatever is asked for, one behind the other: never do two hold a key of which one holds it to write; the list may be: LocksApart answers true at every list of calls.
   No condition. -/
import Derived.Test.YtgbdajlfbmijgaaLocksKeep
import Derived.Test.YtgbdajlfbmijgaaStmLocksApart
namespace Go.Proofs.Ytgbdajlfbmijgaa.Pure
open Go.RowKit Go.Proofs.YtgbdajlfbmijgaaW.PrintWords Go.Proofs.YtgbdajlfbmijgaaW.PrintLast Go.Proofs.Ytgbdajlfbmijgaa.Print
abbrev StepS := S53
theorem hput_mem (h : LkH) : ∀ (l : List LkH), ∃ y ∈ hput h l, y.f0.toList = h.f0.toList ∧ y.f1 = h.f1 ∧ (h.f2 = true → y.f2 = true)
  | [] => ⟨h, by simp [hput], rfl, rfl, fun q => q⟩
  | x :: l => by
    unfold hput
    split
    · obtain ⟨y, hy, q⟩ := hput_mem h l
      exact ⟨y, List.mem_cons_of_mem _ hy, q⟩
    · split
      · rename_i h2
        have he := (ord_eq _ _).1 h2
        exact ⟨_, List.mem_cons_self, he.1, he.2, fun q => by show (x.f2 || h.f2) = true; rw [q, Bool.or_true]⟩
      · exact ⟨h, List.mem_cons_self, rfl, rfl, fun q => q⟩
theorem ok_single {l : List LkH} (hl : Ok l) (k : ByteArray) (hw : l.any (fun x => hmatch k x && x.f2) = true) : (l.filter (hmatch k)).length = 1 := by
  obtain ⟨y, hy, hq⟩ := List.any_eq_true.1 hw
  rw [Bool.and_eq_true] at hq
  have hs := hl.sorted.filter (hmatch k)
  have hk : ∀ x ∈ l.filter (hmatch k), x.f0.toList = k.toList := fun x hx => of_decide_eq_true (List.mem_filter.1 hx).2
  have hym : y ∈ l.filter (hmatch k) := List.mem_filter.2 ⟨hy, hq.1⟩
  generalize l.filter (hmatch k) = m at hs hk hym
  match m, hs, hk, hym with
  | [], _, _, hym => cases hym
  | [_], _, _, _ => rfl
  | a :: b :: m, hs, hk, hym =>
    exfalso
    have h1 := List.pairwise_cons.1 hs
    have hab := (h1.1 b List.mem_cons_self).2 ((hk a List.mem_cons_self).trans (hk b (List.mem_cons_of_mem _ List.mem_cons_self)).symm)
    rcases List.mem_cons.1 hym with rfl | q
    · rw [hab.1] at hq; cases hq.2
    · have := ((h1.1 y q).2 ((hk a List.mem_cons_self).trans (hk y hym).symm)).2
      rw [this] at hq; cases hq.2
theorem apart_l1 (x0 : List StepS) (x3 : List LkH) (i0 : Nat) (hi0 : i0 < x0.length) (who : List Int) (hwl : who.length ≤ 4096) (w : Bool) (hw : w = true → who.length = 1) (hf : (rd_T53 x0 (i0 : Int)).f3 = true → w = true) (M : Nat) (hM : ∀ q, M < q → transeptlaw19_LocksApart.j3 q x0 x3 (i0 : Int) = some true) (d : Nat) :
    ∀ (q i : Nat) (is : Bool), i ≤ who.length → who.length - i = d → (is || (who.drop i).any (fun t => t == (rd_T53 x0 (i0 : Int)).f1)) = true → d + M + 1 < q → transeptlaw19_LocksApart.l1 q x0 x3 (i0 : Int) who w 0 is (i : Int) = some true := by
  induction d with
  | zero =>
    intro q i is h1 h2 h3 h4
    obtain ⟨q, rfl⟩ : ∃ m, q = m + 1 := ⟨q - 1, by omega⟩
    obtain rfl : i = who.length := by omega
    rw [List.drop_length, List.any_nil, Bool.or_false] at h3
    simp only [transeptlaw19_LocksApart.l1]
    rw [if_neg (by omega), lnum_f, Option.bind_some, if_pos rfl, if_pos h3]
    cases w with
    | true =>
      rw [if_pos rfl, if_pos (by have := hw rfl; omega), if_pos (by omega), if_pos (by omega), hM q (by omega)]
      split <;> rfl
    | false =>
      rw [if_neg (show ¬ false = true by simp), if_pos (by omega), if_pos (by omega), if_neg (fun z => by have := hf z; cases this), hM q (by omega)]
  | succ d ih =>
    intro q i is h1 h2 h3 h4
    obtain ⟨q, rfl⟩ : ∃ m, q = m + 1 := ⟨q - 1, by omega⟩
    have hlt : i < who.length := by omega
    simp only [transeptlaw19_LocksApart.l1]
    rw [if_pos (by omega), wrap_next hlt (by omega)]
    rw [List.drop_eq_getElem_cons hlt, List.any_cons] at h3
    cases is with
    | true => rw [if_pos rfl]; exact ih q (i + 1) true (by omega) (by omega) (by simp) (by omega)
    | false =>
      rw [if_neg (show ¬ false = true by simp), if_pos (by omega), if_pos (by omega), if_pos (by omega)]
      have hr : rd who (i : Int) = who[i] := by simp [rd, List.getD_eq_getElem?_getD, List.getElem?_eq_getElem hlt]
      rw [hr]
      exact ih q (i + 1) _ (by omega) (by omega) (by rw [Bool.false_or] at h3; exact h3) (by omega)
theorem apart_l0 (x0 : List StepS) (hx : x0.length ≤ 140737488355328) (d : Nat) : ∀ (q i : Nat) (held : List LkH), Ok held → i ≤ x0.length → x0.length - i = d → 5000 * d + 5000 < q → transeptlaw19_LocksApart.l0 q x0 held (i : Int) = some true := by
  induction d with
  | zero =>
    intro q i held hh h1 h2 h3
    obtain ⟨q, rfl⟩ : ∃ m, q = m + 1 + 1 := ⟨q - 2, by omega⟩
    simp only [transeptlaw19_LocksApart.l0]
    rw [if_neg (by omega)]
    simp only [transeptlaw19_LocksApart.j1]
    rw [if_neg (by simp)]
  | succ d ih =>
    intro q i held hh h1 h2 h3
    obtain ⟨q, rfl⟩ : ∃ m, q = m + 1 + 1 := ⟨q - 2, by omega⟩
    have hlt : i < x0.length := by omega
    have hj3 : ∀ (held' : List LkH), Ok held' → ∀ q, 5000 * d + 5001 < q → transeptlaw19_LocksApart.j3 q x0 held' (i : Int) = some true := by
      intro held' ho q hq
      obtain ⟨q, rfl⟩ : ∃ m, q = m + 1 := ⟨q - 1, by omega⟩
      simp only [transeptlaw19_LocksApart.j3]
      rw [show locks_Check.f held' = some (lk_check held') from rfl, Option.bind_some, lnum_f, Option.bind_some, if_pos ((check_iff _).2 ho), wrap_next hlt hx]
      exact ih q (i + 1) held' ho (by omega) (by omega) (by omega)
    simp only [transeptlaw19_LocksApart.l0]
    rw [if_pos (by omega)]
    by_cases h200 : (i : Int) < 200
    · rw [decide_eq_true h200]
      simp only [transeptlaw19_LocksApart.j1]
      rw [if_pos trivial, if_pos (by omega), if_pos (by omega)]
      obtain ⟨s, hs⟩ : ∃ s, s = rd_T53 x0 (i : Int) := ⟨_, rfl⟩
      rw [← hs]
      by_cases h0 : s.f0 = 0
      · rw [if_pos h0, show locks_Acquire.f held s.f1 s.f2 s.f3 = some (lk_acquire held s.f1 s.f2 s.f3) from rfl, Option.bind_some, lnum_f, Option.bind_some]
        by_cases he : (lk_acquire held s.f1 s.f2 s.f3).2 = 0
        · obtain ⟨hk, ht, ha, hok⟩ := acq_ok hh he
          rw [if_pos he, ha]
          have hl := hok.len
          rw [held_f _ _ _ (by omega), Option.bind_some]
          have hhd : lk_held (hput ⟨s.f2, s.f1, s.f3⟩ held) s.f2 = (((hput ⟨s.f2, s.f1, s.f3⟩ held).filter (hmatch s.f2)).map (fun x => x.f1), (hput ⟨s.f2, s.f1, s.f3⟩ held).any (fun x => hmatch s.f2 x && x.f2), 0) := by
            unfold lk_held
            rw [if_neg (fun z => z ((check_iff _).2 hok)), hk, if_neg (show ¬ true = false by simp)]
          rw [hhd]
          dsimp only
          obtain ⟨y, hy, hy1, hy2, hy3⟩ := hput_mem ⟨s.f2, s.f1, s.f3⟩ held
          have hym : hmatch s.f2 y = true := decide_eq_true hy1
          have f1 : (((hput ⟨s.f2, s.f1, s.f3⟩ held).filter (hmatch s.f2)).map (fun x => x.f1)).length ≤ 4096 := by rw [List.length_map]; exact Nat.le_trans (List.length_filter_le _ _) hl
          have f2 : (hput ⟨s.f2, s.f1, s.f3⟩ held).any (fun x => hmatch s.f2 x && x.f2) = true → (((hput ⟨s.f2, s.f1, s.f3⟩ held).filter (hmatch s.f2)).map (fun x => x.f1)).length = 1 := by
            intro hw
            rw [List.length_map]
            exact ok_single hok s.f2 hw
          have f3 : s.f3 = true → (hput ⟨s.f2, s.f1, s.f3⟩ held).any (fun x => hmatch s.f2 x && x.f2) = true := fun hf => List.any_eq_true.2 ⟨y, hy, by rw [hym, hy3 hf]; rfl⟩
          have f4 : (((hput ⟨s.f2, s.f1, s.f3⟩ held).filter (hmatch s.f2)).map (fun x => x.f1)).any (fun t => t == s.f1) = true :=
            List.any_eq_true.2 ⟨y.f1, List.mem_map.2 ⟨y, List.mem_filter.2 ⟨hy, hym⟩, rfl⟩, by simpa using hy2⟩
          have hj := hj3 _ hok
          generalize ((hput ⟨s.f2, s.f1, s.f3⟩ held).filter (hmatch s.f2)).map (fun x => x.f1) = who at f1 f2 f4 ⊢
          generalize (hput ⟨s.f2, s.f1, s.f3⟩ held).any (fun x => hmatch s.f2 x && x.f2) = w at f2 f3 ⊢
          generalize hput ⟨s.f2, s.f1, s.f3⟩ held = held' at hj ⊢
          obtain ⟨M, hM⟩ : ∃ M, M = 5000 * d + 5001 := ⟨_, rfl⟩
          rw [← hM] at hj
          exact apart_l1 x0 held' i hlt who f1 w f2 (by rw [← hs]; exact f3) M hj who.length q 0 false (Nat.zero_le _) (Nat.sub_zero _) (by rw [Bool.false_or, List.drop_zero, ← hs]; exact f4) (by omega)
        · rw [if_neg he]
          exact hj3 held hh q (by omega)
      · rw [if_neg h0, show locks_Release.f held s.f1 = some (lk_release held s.f1) from rfl, Option.bind_some, lnum_f, Option.bind_some]
        by_cases he : (lk_release held s.f1).2.2 = 0
        · rw [if_pos he, (rel_ok hh he).2]
          exact hj3 _ (filter_ok hh _) q (by omega)
        · rw [if_neg he]
          exact hj3 held hh q (by omega)
    · rw [decide_eq_false h200]
      simp only [transeptlaw19_LocksApart.j1]
      rw [if_neg (by simp)]
theorem LocksApart : transeptlaw19_LocksApart.Pure := by
  intro x0 hx
  have hlen : x0.length ≤ 140737488355328 := by have := hx.1; omega
  refine ⟨5000 * x0.length + 5001, ?_⟩
  unfold transeptlaw19_LocksApart.f
  rw [lalive_f, Option.bind_some, if_pos rfl]
  have := apart_l0 x0 hlen x0.length (5000 * x0.length + 5001) 0 [] nil_ok (by omega) (by omega) (by omega)
  rw [show ((0 : Nat) : Int) = 0 from rfl] at this
  exact this
end Go.Proofs.Ytgbdajlfbmijgaa.Pure
