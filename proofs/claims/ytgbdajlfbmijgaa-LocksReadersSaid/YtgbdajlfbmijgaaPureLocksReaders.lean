/- Any number read a key together; none writes it then but one who is alone: LocksReaders answers true at every key and transactions.
   No condition. -/
import Derived.Test.YtgbdajlfbmijgaaLocksKeep
import Derived.Test.YtgbdajlfbmijgaaStmLocksReaders
namespace Go.Proofs.Ytgbdajlfbmijgaa.Pure
open Go.RowKit Go.Proofs.YtgbdajlfbmijgaaW.PrintWords Go.Proofs.YtgbdajlfbmijgaaW.PrintLast Go.Proofs.Ytgbdajlfbmijgaa.Print
/-- Readers of one key, and the transactions that are among them. -/
structure RdSt (key : ByteArray) (held : List LkH) (seen : List Int) : Prop where
  ok : Ok held
  one : ∀ x ∈ held, x.f0.toList = key.toList ∧ x.f2 = false
  len : held.length = seen.length
  mem : ∀ t, t ∈ seen ↔ ∃ x ∈ held, x.f1 = t
theorem has_iff {key : ByteArray} {held : List LkH} {seen : List Int} (h : RdSt key held seen) (t : Int) (wr : Bool) : hhas ⟨key, t, wr⟩ held = true ↔ t ∈ seen := by
  rw [h.mem]
  unfold hhas
  rw [List.any_eq_true]
  constructor
  · rintro ⟨x, hx, q⟩
    rw [decide_eq_true_eq] at q
    exact ⟨x, hx, ((ord_eq _ _).1 q).2⟩
  · rintro ⟨x, hx, q⟩
    exact ⟨x, hx, decide_eq_true ((ord_eq _ _).2 ⟨(h.one x hx).1, q⟩)⟩
theorem rd_acquire {key : ByteArray} {held : List LkH} {seen : List Int} (h : RdSt key held seen) (hk : lk_key key = true) (t : Int) (ht : lk_txn t = true) (hn : held.length < 4096) : (lk_acquire held t key false).2 = 0 := by
  unfold lk_acquire
  rw [if_neg (fun z => z ((check_iff _).2 h.ok)), hk, if_neg (show ¬ true = false by simp), ht, if_neg (show ¬ true = false by simp)]
  have hc : held.any (lk_clash key t false) = false := by
    refine List.any_eq_false.2 (fun x hx => ?_)
    unfold lk_clash
    rw [(h.one x hx).2]
    simp
  rw [hc, if_neg (show ¬ false = true by simp), put_eq _ h.ok]
  split
  · rfl
  · rw [if_neg (by omega)]
theorem rd_bad {key : ByteArray} {held : List LkH} {seen : List Int} (h : RdSt key held seen) (hk : lk_key key = true) (t : Int) (ht : lk_txn t = false) : (lk_acquire held t key false).2 = 4 := by
  unfold lk_acquire
  rw [if_neg (fun z => z ((check_iff _).2 h.ok)), hk, if_neg (show ¬ true = false by simp), ht, if_pos rfl]
theorem rd_step {key : ByteArray} {held : List LkH} {seen : List Int} (h : RdSt key held seen) (t : Int) (ho : Ok (hput ⟨key, t, false⟩ held)) (seen' : List Int) (hs : seen' = if t ∈ seen then seen else seen ++ [t]) : RdSt key (hput ⟨key, t, false⟩ held) seen' := by
  refine ⟨ho, ?_, ?_, ?_⟩
  · intro x hx
    rcases mem_hput _ _ x hx with rfl | q | ⟨z, hz, hz0, rfl⟩
    · exact ⟨rfl, rfl⟩
    · exact h.one x q
    · refine ⟨(h.one z hz).1, ?_⟩
      show (z.f2 || false) = false
      rw [(h.one z hz).2]; rfl
  · rw [hput_len _ _ h.ok.sorted, hs]
    by_cases hm : t ∈ seen
    · rw [if_pos hm, if_pos ((has_iff h t false).2 hm)]; exact h.len
    · rw [if_neg hm, if_neg (fun z => hm ((has_iff h t false).1 z)), List.length_append, h.len]; rfl
  · intro u
    have key1 : (∃ x ∈ hput ⟨key, t, false⟩ held, x.f1 = u) ↔ (u = t ∨ ∃ x ∈ held, x.f1 = u) := by
      constructor
      · rintro ⟨x, hx, rfl⟩
        rcases mem_hput _ _ x hx with rfl | q | ⟨z, hz, hz0, rfl⟩
        · exact .inl rfl
        · exact .inr ⟨x, q, rfl⟩
        · exact .inl ((ord_eq _ _).1 hz0).2
      · have hall : ∀ (l : List LkH) (z : LkH), z = ⟨key, t, false⟩ ∨ z ∈ l → ∃ y ∈ hput ⟨key, t, false⟩ l, y.f1 = z.f1 := by
          intro l
          induction l with
          | nil =>
            intro z hz
            rcases hz with rfl | hz
            · exact ⟨_, by simp [hput], rfl⟩
            · cases hz
          | cons x l ih =>
            intro z hz
            unfold hput
            split
            · rcases hz with rfl | hz
              · obtain ⟨y, hy, e⟩ := ih ⟨key, t, false⟩ (.inl rfl)
                exact ⟨y, List.mem_cons_of_mem _ hy, e⟩
              · rcases List.mem_cons.1 hz with rfl | hz
                · exact ⟨z, List.mem_cons_self, rfl⟩
                · obtain ⟨y, hy, e⟩ := ih z (.inr hz)
                  exact ⟨y, List.mem_cons_of_mem _ hy, e⟩
            · split
              · rename_i h2
                have he := (ord_eq _ _).1 h2
                rcases hz with rfl | hz
                · exact ⟨_, List.mem_cons_self, he.2⟩
                · rcases List.mem_cons.1 hz with rfl | hz
                  · exact ⟨_, List.mem_cons_self, rfl⟩
                  · exact ⟨z, List.mem_cons_of_mem _ hz, rfl⟩
              · rcases hz with rfl | hz
                · exact ⟨_, List.mem_cons_self, rfl⟩
                · exact ⟨z, List.mem_cons_of_mem _ hz, rfl⟩
        rintro (rfl | ⟨x, hx, rfl⟩)
        · exact hall held ⟨key, u, false⟩ (.inl rfl)
        · exact hall held x (.inr hx)
    rw [key1, ← h.mem, hs]
    by_cases hm : t ∈ seen
    · rw [if_pos hm]
      exact ⟨.inr, fun q => q.elim (fun e => e ▸ hm) id⟩
    · rw [if_neg hm, List.mem_append, List.mem_singleton]
      exact ⟨fun q => q.elim .inr .inl, fun q => q.elim .inr .inl⟩
theorem rd_write {key : ByteArray} {held : List LkH} {seen : List Int} (h : RdSt key held seen) (hk : lk_key key = true) (t : Int) (ht : lk_txn t = true) (hm : t ∈ seen) : ((lk_acquire held t key true).2 == 0) = (seen.length == 1) := by
  have hacq : lk_acquire held t key true = if held.any (lk_clash key t true) = true then ([], 191) else (hput ⟨key, t, true⟩ held, 0) := by
    unfold lk_acquire
    rw [if_neg (fun z => z ((check_iff _).2 h.ok)), hk, if_neg (show ¬ true = false by simp), ht, if_neg (show ¬ true = false by simp), put_eq _ h.ok, if_pos ((has_iff h t true).2 hm)]
  rw [hacq, ← h.len]
  have hcl : held.any (lk_clash key t true) = true ↔ ∃ x ∈ held, x.f1 ≠ t := by
    rw [List.any_eq_true]
    constructor
    · rintro ⟨x, hx, q⟩
      unfold lk_clash at q
      rw [Bool.and_eq_true, Bool.and_eq_true] at q
      exact ⟨x, hx, by simpa using q.2.1⟩
    · rintro ⟨x, hx, q⟩
      refine ⟨x, hx, ?_⟩
      unfold lk_clash
      rw [Bool.and_eq_true, Bool.and_eq_true]
      exact ⟨by simpa using (h.one x hx).1, by simpa using q, by simp⟩
  obtain ⟨y, hy, hyt⟩ := (h.mem t).1 hm
  have hs := h.ok.sorted
  have hone := h.one
  generalize held = l at hcl hy hs hone
  match l, hcl, hy, hs, hone with
  | [a], hcl, hy, _, _ =>
    rw [List.mem_singleton] at hy
    subst hy
    rw [if_neg (fun z => by obtain ⟨x, hx, q⟩ := hcl.1 z; rw [List.mem_singleton] at hx; subst hx; exact q hyt)]
    rfl
  | a :: b :: m, hcl, hy, hs, hone =>
    have hab := ((List.pairwise_cons.1 hs).1 b List.mem_cons_self).1
    have hlt' := lt_txn hab ((hone a List.mem_cons_self).1.trans (hone b (List.mem_cons_of_mem _ List.mem_cons_self)).1.symm)
    have : ∃ x ∈ a :: b :: m, x.f1 ≠ t := by
      by_cases ha : a.f1 = t
      · exact ⟨b, List.mem_cons_of_mem _ List.mem_cons_self, by omega⟩
      · exact ⟨a, List.mem_cons_self, ha⟩
    rw [if_pos (hcl.2 this)]
    simp
theorem readers_l1 (key : ByteArray) (txns : List Int) (held : List LkH) (seen : List Int) (hsl : seen.length ≤ 4096) (i0 : Nat) (hi0 : i0 < txns.length) (M : Nat)
    (hM : ∀ q, M < q → transeptlaw19_LocksReaders.j4 q key txns held (if rd txns (i0 : Int) ∈ seen then seen else seen ++ [rd txns (i0 : Int)]) (i0 : Int) = some true) (d : Nat) :
    ∀ (q i : Nat) (is : Bool), i ≤ seen.length → seen.length - i = d → is = decide (rd txns (i0 : Int) ∈ seen.take i) → d + M + 1 < q → transeptlaw19_LocksReaders.l1 q key txns held seen (i0 : Int) is (i : Int) = some true := by
  induction d with
  | zero =>
    intro q i is h1 h2 h3 h4
    obtain ⟨q, rfl⟩ : ∃ m, q = m + 1 := ⟨q - 1, by omega⟩
    obtain rfl : i = seen.length := by omega
    rw [List.take_length] at h3
    have hm := hM q (by omega)
    simp only [transeptlaw19_LocksReaders.l1]
    rw [if_neg (by omega)]
    by_cases hin : rd txns (i0 : Int) ∈ seen
    · rw [if_pos hin] at hm
      rw [h3, if_pos (decide_eq_true hin)]
      exact hm
    · rw [if_neg hin] at hm
      rw [h3, if_neg (by rw [decide_eq_false hin]; simp), if_pos (by omega), if_pos (by omega), if_pos (by omega)]
      exact hm
  | succ d ih =>
    intro q i is h1 h2 h3 h4
    obtain ⟨q, rfl⟩ : ∃ m, q = m + 1 := ⟨q - 1, by omega⟩
    have hlt : i < seen.length := by omega
    have htk : seen.take (i + 1) = seen.take i ++ [seen[i]] := List.take_succ_eq_append_getElem hlt
    have hr : rd seen (i : Int) = seen[i] := by simp [rd, List.getD_eq_getElem?_getD, List.getElem?_eq_getElem hlt]
    simp only [transeptlaw19_LocksReaders.l1]
    rw [if_pos (by omega), wrap_next hlt (by omega)]
    cases is with
    | true =>
      rw [if_pos rfl]
      have : rd txns (i0 : Int) ∈ seen.take i := by simpa using h3.symm
      exact ih q (i + 1) true (by omega) (by omega) (by rw [htk, decide_eq_true (List.mem_append_left _ this)]) (by omega)
    | false =>
      have : rd txns (i0 : Int) ∉ seen.take i := by simpa using h3.symm
      rw [if_neg (show ¬ false = true by simp), if_pos (by omega), if_pos (by omega), if_pos (by omega), hr]
      refine ih q (i + 1) _ (by omega) (by omega) ?_ (by omega)
      rw [htk, Bool.eq_iff_iff, beq_iff_eq, decide_eq_true_eq, List.mem_append, List.mem_singleton]
      exact ⟨fun e => .inr e.symm, fun e => e.elim (fun z => absurd z this) (fun z => z.symm)⟩
theorem readers_end (key : ByteArray) (hk : lk_key key = true) (txns : List Int) (held : List LkH) (seen : List Int) (h : RdSt key held seen) (hsl : seen.length ≤ 100) (i : Int) (q : Nat) (hq : 5000 < q) : transeptlaw19_LocksReaders.j2 q key txns held seen i false = some true := by
  obtain ⟨q, rfl⟩ : ∃ m, q = m + 1 := ⟨q - 1, by omega⟩
  simp only [transeptlaw19_LocksReaders.j2]
  rw [if_neg (by simp), held_f _ _ _ (by have := h.len; omega), Option.bind_some]
  have hfl : held.filter (hmatch key) = held := List.filter_eq_self.2 (fun x hx => decide_eq_true (h.one x hx).1)
  have han : held.any (fun x => hmatch key x && x.f2) = false := List.any_eq_false.2 (fun x hx => by rw [(h.one x hx).2]; simp)
  have hhd : lk_held held key = (held.map (fun x => x.f1), false, 0) := by
    unfold lk_held
    rw [if_neg (fun z => z ((check_iff _).2 h.ok)), hk, if_neg (show ¬ true = false by simp), hfl, han]
  rw [hhd]
  dsimp only
  rw [lnum_f, Option.bind_some, if_pos rfl, if_pos (by rw [List.length_map, h.len])]
  rfl
theorem readers_l0 (key : ByteArray) (hk : lk_key key = true) (txns : List Int) (ht : txns.length ≤ 140737488355328) (d : Nat) : ∀ (q i : Nat) (held : List LkH) (seen : List Int), RdSt key held seen → seen.length ≤ i → (seen.length ≤ 60) → i ≤ txns.length → txns.length - i = d → 200 * d + 6000 < q →
    transeptlaw19_LocksReaders.l0 q key txns held seen (i : Int) = some true := by
  induction d with
  | zero =>
    intro q i held seen h hsi hs60 h1 h2 h3
    obtain ⟨q, rfl⟩ : ∃ m, q = m + 1 := ⟨q - 1, by omega⟩
    simp only [transeptlaw19_LocksReaders.l0]
    rw [if_neg (by omega)]
    exact readers_end key hk txns held seen h (by omega) _ q (by omega)
  | succ d ih =>
    intro q i held seen h hsi hs60 h1 h2 h3
    obtain ⟨q, rfl⟩ : ∃ m, q = m + 1 + 1 := ⟨q - 2, by omega⟩
    have hlt : i < txns.length := by omega
    simp only [transeptlaw19_LocksReaders.l0]
    rw [if_pos (by omega)]
    by_cases h60 : (i : Int) < 60
    · rw [decide_eq_true h60]
      simp only [transeptlaw19_LocksReaders.j2]
      rw [if_pos trivial, if_pos (by omega), if_pos (by omega), show locks_Acquire.f held (rd txns (i : Int)) key false = some (lk_acquire held (rd txns (i : Int)) key false) from rfl, Option.bind_some, lnum_f, Option.bind_some, wrap_next hlt ht]
      cases htx : lk_txn (rd txns (i : Int)) with
      | false =>
        rw [if_neg (by rw [rd_bad h hk _ htx]; decide)]
        have hbad : ¬ (1 ≤ rd txns (i : Int) ∧ rd txns (i : Int) ≤ 1099511627776) := by unfold lk_txn at htx; simpa using htx
        have hgo := ih q (i + 1) held seen h (by omega) hs60 (by omega) (by omega) (by omega)
        by_cases h7 : rd txns (i : Int) ≥ 1
        · rw [if_pos h7, if_neg (by omega)]; exact hgo
        · rw [if_neg h7]; exact hgo
      | true =>
        have he := rd_acquire h hk _ htx (by have := h.len; omega)
        obtain ⟨_, _, ha, hok⟩ := acq_ok h.ok he
        rw [if_pos he, ha]
        obtain ⟨seen', hs'⟩ : ∃ seen', seen' = if rd txns (i : Int) ∈ seen then seen else seen ++ [rd txns (i : Int)] := ⟨_, rfl⟩
        have hst := rd_step h (rd txns (i : Int)) hok seen' hs'
        have hmem : rd txns (i : Int) ∈ seen' := by rw [hs']; split <;> simp_all
        have hl' : seen'.length ≤ seen.length + 1 := by rw [hs']; split <;> simp
        have hj4 : ∀ q, 200 * d + 6000 + 1 < q → transeptlaw19_LocksReaders.j4 q key txns (hput ⟨key, rd txns (i : Int), false⟩ held) seen' (i : Int) = some true := by
          intro q hq
          obtain ⟨q, rfl⟩ : ∃ m, q = m + 1 := ⟨q - 1, by omega⟩
          simp only [transeptlaw19_LocksReaders.j4]
          rw [if_pos (by omega), if_pos (by omega), show locks_Acquire.f (hput ⟨key, rd txns (i : Int), false⟩ held) (rd txns (i : Int)) key true = some (lk_acquire (hput ⟨key, rd txns (i : Int), false⟩ held) (rd txns (i : Int)) key true) from rfl, Option.bind_some, lnum_f, Option.bind_some]
          have hw := rd_write hst hk (rd txns (i : Int)) htx hmem
          have hw2 : (((seen'.length : Int)) == 1) = (seen'.length == 1) := by rw [Bool.eq_iff_iff, beq_iff_eq, beq_iff_eq]; omega
          rw [if_neg (by rw [hw, hw2]; simp), wrap_next hlt ht]
          exact ih q (i + 1) _ seen' hst (by omega) (by omega) (by omega) (by omega) (by omega)
        rw [hs'] at hj4
        obtain ⟨M, hM⟩ : ∃ M, M = 200 * d + 6001 := ⟨_, rfl⟩
        have hj5 : ∀ q, M < q → transeptlaw19_LocksReaders.j4 q key txns (hput ⟨key, rd txns (i : Int), false⟩ held) (if rd txns (i : Int) ∈ seen then seen else seen ++ [rd txns (i : Int)]) (i : Int) = some true := fun q hq => hj4 q (by omega)
        exact readers_l1 key txns _ seen (by omega) i hlt M hj5 seen.length q 0 false (Nat.zero_le _) (Nat.sub_zero _) (by simp) (by omega)
    · rw [decide_eq_false h60]
      exact readers_end key hk txns held seen h (by omega) _ (q + 1) (by omega)
theorem LocksReaders : transeptlaw19_LocksReaders.Pure := by
  intro key txns _ ht
  have htl : txns.length ≤ 140737488355328 := by have := ht.1; omega
  refine ⟨200 * txns.length + 7000 + 1, ?_⟩
  have hkey : lk_key key = decide (1 ≤ key.size ∧ key.size ≤ 32) := by
    have h := ref_key key
    unfold transeptref19_key.f at h
    by_cases h1 : (key.size : Int) ≥ 1
    · rw [if_pos h1] at h; rw [← Option.some.inj h]; apply decide_eq_decide.2; omega
    · rw [if_neg h1] at h; rw [← Option.some.inj h]; symm; apply decide_eq_false; omega
  have hbad : lk_key key = false → transeptlaw19_LocksReaders.j0 (200 * txns.length + 7000 + 1) key txns true = some true := by
    intro hk
    simp only [transeptlaw19_LocksReaders.j0]
    rw [if_pos trivial, show locks_Acquire.f [] 1 key false = some (lk_acquire [] 1 key false) from rfl, Option.bind_some, lnum_f, Option.bind_some]
    have : lk_acquire [] 1 key false = ([], 91) := by
      unfold lk_acquire
      rw [if_neg (fun z => z ((check_iff _).2 nil_ok)), hk, if_pos rfl]
    rw [this]
    rfl
  unfold transeptlaw19_LocksReaders.f
  rw [lalive_f, Option.bind_some, if_pos rfl]
  by_cases h1 : (key.size : Int) < 1
  · rw [if_pos h1]
    exact hbad (by rw [hkey]; apply decide_eq_false; omega)
  · rw [if_neg h1]
    by_cases h2 : (key.size : Int) > 32
    · rw [decide_eq_true h2]
      exact hbad (by rw [hkey]; apply decide_eq_false; omega)
    · rw [decide_eq_false h2]
      have hk : lk_key key = true := by rw [hkey]; apply decide_eq_true; omega
      simp only [transeptlaw19_LocksReaders.j0]
      rw [if_neg (by simp)]
      have := readers_l0 key hk txns htl txns.length (200 * txns.length + 7000) 0 [] [] ⟨nil_ok, by simp, rfl, by simp⟩ (by simp) (by simp) (by omega) (by omega) (by omega)
      rw [show ((0 : Nat) : Int) = 0 from rfl] at this
      exact this
end Go.Proofs.Ytgbdajlfbmijgaa.Pure
