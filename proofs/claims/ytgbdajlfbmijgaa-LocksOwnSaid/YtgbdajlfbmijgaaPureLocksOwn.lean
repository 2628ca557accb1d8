/- The list that follows shares nothing with the one handed in: LocksOwn answers true at every list of holds, transaction and key.
   No condition. -/
import Derived.Test.YtgbdajlfbmijgaaLocksRel
import Derived.Test.YtgbdajlfbmijgaaStmLocksOwn
namespace Go.Proofs.Ytgbdajlfbmijgaa.Pure
open Go.RowKit Go.Proofs.YtgbdajlfbmijgaaW.PrintWords Go.Proofs.YtgbdajlfbmijgaaW.PrintLast Go.Proofs.Ytgbdajlfbmijgaa.Print
theorem own_l0 (o : List PgH) (ho : o.length ≤ 4096) (e : Int) (n : Nat) (hn : n < 4398046511104) (d : Nat) : ∀ (q i : Nat) (x : List LkH), x.length = n → i ≤ n → n - i = d → d + 5000 < q →
    transeptlaw19_LocksOwn.l0 q x (o.map hcv) e o e (i : Int) = some true := by
  induction d with
  | zero =>
    intro q i x hx h1 h2 h3
    obtain ⟨q, rfl⟩ : ∃ m, q = m + 1 := ⟨q - 1, by omega⟩
    simp only [transeptlaw19_LocksOwn.l0]
    rw [if_neg (by omega), lnum_f, Option.bind_some, if_pos rfl, alike_f o (by omega) q (by omega)]
    rfl
  | succ d ih =>
    intro q i x hx h1 h2 h3
    obtain ⟨q, rfl⟩ : ∃ m, q = m + 1 := ⟨q - 1, by omega⟩
    simp only [transeptlaw19_LocksOwn.l0]
    rw [if_pos (by omega), if_pos (by omega), wrap_next (n := n) (by omega) (by omega), ih q (i + 1) _ (by rw [List.length_set]; exact hx) (by omega) (by omega) (by omega)]
theorem LocksOwn : transeptlaw19_LocksOwn.Pure := by
  intro l t k hl _ _
  have hlen : l.length < 4398046511104 := by have := hl.1; omega
  obtain ⟨q, hq⟩ : ∃ q, q = 4 * l.length + 10000 := ⟨_, rfl⟩
  refine ⟨q, ?_⟩
  obtain ⟨o1, e1, h1, h2, h3⟩ := acquire_same l hlen t k false q (by omega)
  unfold transeptlaw19_LocksOwn.f
  rw [lalive_f, Option.bind_some, if_pos rfl, of_f l hlen _ (by omega), Option.bind_some, show locks_Acquire.f (l.map hcv) t k false = some (lk_acquire (l.map hcv) t k false) from rfl, Option.bind_some, h1, Option.bind_some, h2]
  have := own_l0 o1 h3 e1 l.length hlen l.length q 0 (l.map hcv) (by rw [List.length_map]) (by omega) (by omega) (by omega)
  rw [show ((0 : Nat) : Int) = 0 from rfl] at this
  exact this
end Go.Proofs.Ytgbdajlfbmijgaa.Pure
