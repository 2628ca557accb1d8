/- QuorumTells: the program's answers are the page's. -/
import Derived.Test.YtgoiojfdphfelaaStmQuorumTells
import Derived.Test.YtgoiojfdphfelaaQuorumLib
namespace Go.Proofs.Ytgoiojfdphfelaa.Pure
open Go.RowKit Go.Proofs.YtgoiojfdphfelaaW.PrintWords Go.Proofs.YtgoiojfdphfelaaW.PrintLast Go.Proofs.Ytgoiojfdphfelaa.Print
theorem QuorumTells : transeptlaw14_QuorumTells.Pure := by
  intro a0 l1 a2 a3 l4 _ h1 _ _ h4
  refine ⟨l1.length + l4.length + 100, ?_⟩
  unfold transeptlaw14_QuorumTells.f
  obtain ⟨p, hp⟩ : ∃ p, quorum_Majority.f a0 = some p := by
    unfold quorum_Majority.f
    split
    · exact ⟨_, rfl⟩
    · split
      · exact ⟨_, rfl⟩
      · exact ⟨_, rfl⟩
  rw [copy_f l1 h1.1, Option.bind_some, copyb_f l4 (by have := h4.1; omega), Option.bind_some, ref_maj_f, hp, Option.bind_some, Option.bind_some, agreed_f, Option.bind_some, ref_agreed_f l1 _ (by omega), Option.bind_some, commit_f, Option.bind_some, ref_commit_f l1 a2 a3 _ (by omega), Option.bind_some, wins_f l4 _ (by omega), Option.bind_some, ref_wins_f l4 _ (by omega), Option.bind_some]
  simp only [num_f, Option.bind_some, if_pos, beq_self_eq_true, same_f l1 _ (show l1.length ≤ 140737488355328 by have := h1.1; omega) (show l1.length < l1.length + l4.length + 100 by omega), sameb_f l4 _ (show l4.length ≤ 140737488355328 by have := h4.1; omega) (show l4.length < l1.length + l4.length + 100 by omega), alive_f]
end Go.Proofs.Ytgoiojfdphfelaa.Pure
