/- What version 1 takes version 2 takes, too; never more octets: CommandBoth answers true at every command.
   No condition. -/
import Derived.Test.YtpjaebbgbmhneaaStmCommandBoth
namespace Go.Proofs.Ytpjaebbgbmhneaa.Pure
open Go.RowKit Go.Proofs.YtpjaebbgbmhneaaW.PrintWords Go.Proofs.YtpjaebbgbmhneaaW.PrintLast Go.Proofs.Ytpjaebbgbmhneaa.Print

theorem alive_f : transeptlaw13_alive.f 100 = some true := by decide +kernel

theorem op_length (o : S48) : (cmd_op 2 o).length + 1 = (cmd_op 1 o).length := by
  simp [cmd_op]
  omega
theorem ops_length (l : List S48) : (l.flatMap (cmd_op 2)).length ≤ (l.flatMap (cmd_op 1)).length := by
  induction l with
  | nil => simp
  | cons o l ih =>
    have := op_length o
    simp only [List.flatMap_cons, List.length_append]
    omega
theorem octets_length (a b c d : Int) (l : List S48) : (cmd_octets 2 a b c d l).length ≤ (cmd_octets 1 a b c d l).length := by
  have h1 := ops_length l
  have h2 := cmd_vi_length 6 b
  have h3 : (oct_put b (oct_sh 8)).length = 8 := by simp [oct_put, oct_sh]
  unfold cmd_octets cmd_head
  rw [if_neg (by decide), if_pos rfl]
  simp only [List.length_append, List.length_cons, List.length_nil]
  rw [h3]
  omega
theorem enc_bad (v a b c d : Int) (l : List S48) (h : cmd_check a b c d l ≠ 0) : cmd_encode v a b c d l = ([], cmd_check a b c d l) := by unfold cmd_encode; rw [if_pos h]
theorem enc_two (a b c d : Int) (l : List S48) (h : cmd_check a b c d l = 0) : cmd_encode 2 a b c d l = (cmd_octets 2 a b c d l, 0) := by
  unfold cmd_encode
  rw [if_neg (not_not_intro h), if_neg (by omega), if_pos rfl]
theorem enc_one (a b c d : Int) (l : List S48) (h : cmd_check a b c d l = 0) (h1 : a ≠ 5 ∧ l.length ≤ 4) : cmd_encode 1 a b c d l = (cmd_octets 1 a b c d l, 0) := by
  unfold cmd_encode
  rw [if_neg (not_not_intro h), if_pos ⟨rfl, h1⟩]
theorem enc_none (a b c d : Int) (l : List S48) (h : cmd_check a b c d l = 0) (h1 : ¬ (a ≠ 5 ∧ l.length ≤ 4)) : cmd_encode 1 a b c d l = ([], 131) := by
  unfold cmd_encode
  rw [if_neg (not_not_intro h), if_neg (fun x => h1 x.2), if_neg (by decide)]
theorem CommandBoth : transeptlaw13_CommandBoth.Pure := by
  intro c hc
  refine ⟨100, ?_⟩
  unfold transeptlaw13_CommandBoth.f
  rw [alive_f]
  simp only [Option.bind_some, if_true, command_Encode.f, transeptlaw13_num.f]
  by_cases h0 : cmd_check c.f0 c.f1 c.f2 c.f3 c.f4 = 0
  · rw [enc_two _ _ _ _ _ h0]
    simp only [if_true]
    by_cases h1 : c.f0 ≠ 5 ∧ c.f4.length ≤ 4
    · rw [enc_one _ _ _ _ _ h0 h1]
      simp only [if_true]
      have := octets_length c.f0 c.f1 c.f2 c.f3 c.f4
      simp only [Option.some.injEq, decide_eq_true_eq]
      omega
    · rw [enc_none _ _ _ _ _ h0 h1]
      simp only [if_neg (show ¬ (131 : Int) = 0 by decide), if_true]
      by_cases h5 : c.f0 = 5
      · rw [if_pos h5]
      · rw [if_neg h5]
        have : c.f4.length > 4 := by
          rcases Nat.lt_or_ge 4 c.f4.length with h | h
          · exact h
          · exact absurd ⟨h5, h⟩ h1
        simp only [Option.some.injEq, decide_eq_true_eq]
        omega
  · rw [enc_bad _ _ _ _ _ _ h0, enc_bad _ _ _ _ _ _ h0]
    simp only
    rw [if_neg h0, if_pos trivial]
    simp [wrap64]
end Go.Proofs.Ytpjaebbgbmhneaa.Pure
