/- What SameCommand answers at a command and itself. -/
import Derived.Test.YtpjaebbgbmhneaaScanCore
namespace Go.Proofs.Ytpjaebbgbmhneaa.Pure
open Go.RowKit Go.Proofs.YtpjaebbgbmhneaaW.PrintWords Go.Proofs.YtpjaebbgbmhneaaW.PrintLast Go.Proofs.Ytpjaebbgbmhneaa.Print
theorem same_ops_l0 (l : List ScOp) (hl : l.length ≤ 140737488355328) (d : Nat) : ∀ (k i : Nat), i ≤ l.length → l.length - i = d → d < k → transeptplain_SameOps.l0 k l l (i : Int) = some true := by
  induction d with
  | zero =>
    intro k i h1 h2 h3
    obtain ⟨k, rfl⟩ : ∃ m, k = m + 1 := ⟨k - 1, by omega⟩
    obtain rfl : i = l.length := by omega
    simp only [transeptplain_SameOps.l0]
    rw [if_neg (by omega)]
  | succ d ih =>
    intro k i h1 h2 h3
    obtain ⟨k, rfl⟩ : ∃ m, k = m + 1 := ⟨k - 1, by omega⟩
    have hlt : i < l.length := by omega
    simp only [transeptplain_SameOps.l0]
    rw [if_pos (by omega), if_pos (by omega), if_pos (by omega), if_neg (by simp), wrap_next hlt hl, ih k (i + 1) (by omega) (by omega) (by omega)]
theorem same_cmd (a b c d : Int) (l : List ScOp) (k : Nat) (hl : l.length ≤ 140737488355328) (hk : l.length < k) : transeptplain_SameCommand.f k a b c d l a b c d l = some true := by
  unfold transeptplain_SameCommand.f transeptplain_SameOps.f
  rw [if_pos rfl, if_pos rfl, if_pos rfl, if_pos rfl, if_pos rfl]
  have := same_ops_l0 l hl l.length k 0 (by omega) (by omega) hk
  rw [show ((0 : Nat) : Int) = 0 from rfl] at this
  rw [this]
  rfl
end Go.Proofs.Ytpjaebbgbmhneaa.Pure
