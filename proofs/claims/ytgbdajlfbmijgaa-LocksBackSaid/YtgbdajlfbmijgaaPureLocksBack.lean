/- One that takes keys, and lets them all go again, leaves what others hold as it was: LocksBack answers true at every list of holds, transaction, keys and wish.
   No condition. -/
import Derived.Test.YtgbdajlfbmijgaaLocksKeep
import Derived.Test.YtgbdajlfbmijgaaStmLocksBack
namespace Go.Proofs.Ytgbdajlfbmijgaa.Pure
open Go.RowKit Go.Proofs.YtgbdajlfbmijgaaW.PrintWords Go.Proofs.YtgbdajlfbmijgaaW.PrintLast Go.Proofs.Ytgbdajlfbmijgaa.Print
theorem back_l1 (l : List LkH) (hl : l.length ≤ 4096) (d : Nat) : ∀ (q i : Nat), i ≤ l.length → l.length - i = d → d < q → transeptlaw19_LocksBack.l1 q l l (i : Int) = some true := by
  induction d with
  | zero =>
    intro q i h1 h2 h3
    obtain ⟨q, rfl⟩ : ∃ m, q = m + 1 := ⟨q - 1, by omega⟩
    obtain rfl : i = l.length := by omega
    simp only [transeptlaw19_LocksBack.l1]
    rw [if_neg (by omega)]
  | succ d ih =>
    intro q i h1 h2 h3
    obtain ⟨q, rfl⟩ : ∃ m, q = m + 1 := ⟨q - 1, by omega⟩
    have hlt : i < l.length := by omega
    simp only [transeptlaw19_LocksBack.l1]
    rw [if_pos (by omega), if_pos (by omega), if_pos (by omega), if_neg (by simp), wrap_next hlt (by omega), ih q (i + 1) (by omega) (by omega) (by omega)]
theorem back_end (q : Nat) (hq : 5000 < q) (keys : List ByteArray) (t : Int) (wr : Bool) (base held : List LkH) (ht : lk_txn t = true) (hh : Ok held) (hb : held.filter (fun x => !(x.f1 == t)) = base) (i : Int) :
    transeptlaw19_LocksBack.j1 q t keys wr base held i false = some true := by
  obtain ⟨q, rfl⟩ : ∃ m, q = m + 1 + 1 := ⟨q - 2, by omega⟩
  have hc := (check_iff held).2 hh
  have hr : lk_release held t = (base, (held.length : Int) - (base.length : Int), 0) := by
    unfold lk_release
    rw [if_neg (fun z => z hc), ht, if_neg (show ¬ true = false by simp), hb]
  have hl := hh.len
  have hbl : base.length ≤ held.length := by rw [← hb]; exact List.length_filter_le _ _
  simp only [transeptlaw19_LocksBack.j1]
  rw [if_neg (show ¬ false = true by simp), show locks_Release.f held t = some (lk_release held t) from rfl, Option.bind_some, hr]
  dsimp only
  rw [lnum_f, Option.bind_some, if_pos rfl, wrap_add (by omega) (by omega), if_pos rfl]
  simp only [transeptlaw19_LocksBack.j2]
  rw [if_neg (by simp)]
  have := back_l1 base (by omega) base.length q 0 (by omega) (by omega) (by omega)
  rw [show ((0 : Nat) : Int) = 0 from rfl] at this
  exact this
theorem back_l0 (keys : List ByteArray) (hk : keys.length ≤ 140737488355328) (t : Int) (wr : Bool) (base : List LkH) (ht : lk_txn t = true) (d : Nat) : ∀ (q i : Nat) (held : List LkH), Ok held → held.filter (fun x => !(x.f1 == t)) = base → i ≤ keys.length → keys.length - i = d → 2 * d + 6000 < q →
    transeptlaw19_LocksBack.l0 q t keys wr base held (i : Int) = some true := by
  induction d with
  | zero =>
    intro q i held hh hb h1 h2 h3
    obtain ⟨q, rfl⟩ : ∃ m, q = m + 1 := ⟨q - 1, by omega⟩
    simp only [transeptlaw19_LocksBack.l0]
    rw [if_neg (by omega)]
    exact back_end q (by omega) keys t wr base held ht hh hb _
  | succ d ih =>
    intro q i held hh hb h1 h2 h3
    obtain ⟨q, rfl⟩ : ∃ m, q = m + 1 + 1 := ⟨q - 2, by omega⟩
    have hlt : i < keys.length := by omega
    simp only [transeptlaw19_LocksBack.l0]
    rw [if_pos (by omega)]
    by_cases h50 : (i : Int) < 50
    · rw [decide_eq_true h50]
      simp only [transeptlaw19_LocksBack.j1]
      rw [if_pos trivial, if_pos (by omega), if_pos (by omega), show ∀ k, locks_Acquire.f held t k wr = some (lk_acquire held t k wr) from fun _ => rfl, Option.bind_some, lnum_f, Option.bind_some, wrap_next hlt hk]
      by_cases he : (lk_acquire held t (rdOf ByteArray.empty keys (i : Int)) wr).2 = 0
      · obtain ⟨_, _, ha, hok⟩ := acq_ok hh he
        rw [if_pos he, ha]
        exact ih q (i + 1) _ hok (by rw [← hb]; exact hput_filter ⟨rdOf ByteArray.empty keys (i : Int), t, wr⟩ held) (by omega) (by omega) (by omega)
      · rw [if_neg he]
        exact ih q (i + 1) held hh hb (by omega) (by omega) (by omega)
    · rw [decide_eq_false h50]
      exact back_end (q + 1) (by omega) keys t wr base held ht hh hb _
theorem LocksBack : transeptlaw19_LocksBack.Pure := by
  intro l t keys wr hl _ hk
  have hlen : l.length < 4398046511104 := by have := hl.1; omega
  have hkl : keys.length ≤ 140737488355328 := by have := hk.1; omega
  refine ⟨l.length + 2 * keys.length + 7000, ?_⟩
  unfold transeptlaw19_LocksBack.f
  rw [lalive_f, Option.bind_some, if_pos rfl, of_f l hlen _ (by omega), Option.bind_some, show locks_Release.f (l.map hcv) t = some (lk_release (l.map hcv) t) from rfl, Option.bind_some, lnum_f, Option.bind_some]
  by_cases he : (lk_release (l.map hcv) t).2.2 = 0
  · have hok := rel_check he
    obtain ⟨ht, hr⟩ := rel_ok hok he
    rw [if_pos he, hr]
    dsimp only
    have := back_l0 keys hkl t wr ((l.map hcv).filter (fun x => !(x.f1 == t))) ht keys.length (l.length + 2 * keys.length + 7000) 0 ((l.map hcv).filter (fun x => !(x.f1 == t))) (filter_ok hok _) (by rw [List.filter_filter]; simp) (by omega) (by omega) (by omega)
    rw [show ((0 : Nat) : Int) = 0 from rfl] at this
    exact this
  · rw [if_neg he]
    have : (lk_release (l.map hcv) t).1 = [] := by
      unfold lk_release at he ⊢
      split
      · rfl
      · split
        · rfl
        · rename_i h1 h2
          rw [if_neg h1, if_neg h2] at he
          exact absurd rfl he
    rw [this]
    rfl
end Go.Proofs.Ytgbdajlfbmijgaa.Pure
