/- Who gets a key, who lets go, who holds it, are the page's; the list that was handed in stays: LocksTells answers true at every list of holds, transaction, key and wish.
   No condition. -/
import Derived.Test.YtgbdajlfbmijgaaLocksRel
import Derived.Test.YtgbdajlfbmijgaaStmLocksTells
namespace Go.Proofs.Ytgbdajlfbmijgaa.Pure
open Go.RowKit Go.Proofs.YtgbdajlfbmijgaaW.PrintWords Go.Proofs.YtgbdajlfbmijgaaW.PrintLast Go.Proofs.Ytgbdajlfbmijgaa.Print
theorem LocksTells : transeptlaw19_LocksTells.Pure := by
  intro l t k wr hl _ _
  have hlen : l.length < 4398046511104 := by have := hl.1; omega
  obtain ⟨q, hq⟩ : ∃ q, q = 4 * l.length + 10000 := ⟨_, rfl⟩
  refine ⟨q + 1, ?_⟩
  obtain ⟨o1, e1, h1, h2, h3⟩ := acquire_same l hlen t k wr (q + 1) (by omega)
  obtain ⟨o2, n2, e2, h4, h5, h6⟩ := release_same l hlen t (q + 1) (by omega)
  have hhl := lk_held_len (l.map hcv) k
  rw [List.length_map] at hhl
  unfold transeptlaw19_LocksTells.f
  rw [of_f l hlen _ (by omega), Option.bind_some, show locks_Acquire.f (l.map hcv) t k wr = some (lk_acquire (l.map hcv) t k wr) from rfl, Option.bind_some, h1, Option.bind_some, show locks_Release.f (l.map hcv) t = some (lk_release (l.map hcv) t) from rfl, Option.bind_some, h4, Option.bind_some,
    held_f _ k _ (by rw [List.length_map]; omega), Option.bind_some, ref_held_f l hlen k _ (by omega), Option.bind_some, h2, h5]
  dsimp only
  rw [alike_f o1 (by omega) _ (by omega), Option.bind_some, if_pos rfl, lnum_f, Option.bind_some, if_pos rfl, alike_f o2 (by omega) _ (by omega), Option.bind_some, if_pos rfl, if_pos rfl, lnum_f, Option.bind_some, if_pos rfl,
    same_ints _ (by omega) _ (by omega), Option.bind_some, if_pos rfl, if_neg (by simp), lnum_f, Option.bind_some]
  simp only [transeptlaw19_LocksTells.j0]
  rw [if_neg (by simp), show locks_Check.f (l.map hcv) = some (lk_check (l.map hcv)) from rfl, Option.bind_some, lnum_f, Option.bind_some, ref_check_f l hlen _ (by omega), Option.bind_some, if_pos rfl, alike_f l hlen _ (by omega), Option.bind_some, if_pos rfl, lalive_f]
  rfl
end Go.Proofs.Ytgbdajlfbmijgaa.Pure
