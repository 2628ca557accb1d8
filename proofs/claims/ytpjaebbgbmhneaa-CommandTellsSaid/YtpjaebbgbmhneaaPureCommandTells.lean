/- Any command as octets, in any version, and any octets read as one, are as the page says; what is handed in stays: CommandTells answers true at every command, version and octets.
   No condition. -/
import Derived.Test.YtpjaebbgbmhneaaScanRef
import Derived.Test.YtpjaebbgbmhneaaScanSame
import Derived.Test.YtpjaebbgbmhneaaStmCommandTells
namespace Go.Proofs.Ytpjaebbgbmhneaa.Pure
open Go.RowKit Go.Proofs.YtpjaebbgbmhneaaW.PrintWords Go.Proofs.YtpjaebbgbmhneaaW.PrintLast Go.Proofs.Ytpjaebbgbmhneaa.Print
theorem copy_bytes (l : List Int) (h : l.length < 140737488355328) : transeptplain_CopyBytes.f l = some l := by
  unfold transeptplain_CopyBytes.f
  rw [if_pos (by simpa using h), List.nil_append]
theorem copy_ops (l : List ScOp) (h : l.length < 3518437208883) : transeptplain_CopyOps.f l = some l := by
  unfold transeptplain_CopyOps.f
  rw [if_pos (by simpa using h), List.nil_append]
theorem dec_len (l : List Int) : (sc_dec l).2.2.2.2.1.length ≤ 16 := by
  unfold sc_dec
  split
  · simp
  · rename_i a b c d os v _
    split
    · simp
    · rename_i h
      have h0 : (cmd_encode v a b c d os).2 = 0 := by simpa using h
      exact (check_more (enc_octets v a b c d os h0).2.1).2.2.2.2.2.2.2.2.1
theorem CommandTells : transeptlaw13_CommandTells.Pure := by
  intro s v l hs _ hl
  have ho := hs.2.2.2.2.1
  have hb : sc_bytes l := by
    intro x hx
    have := hl.2 x hx
    unfold Lit.wf at this
    rw [Bool.and_eq_true, decide_eq_true_eq, decide_eq_true_eq] at this
    have h1 := this.1
    have h2 := this.2
    simp [IntKind.min, IntKind.max, IntKind.signed, IntKind.bits] at h1 h2
    omega
  obtain ⟨q, hq⟩ : ∃ q, q = l.length + 3 * s.f4.length + 5000 := ⟨_, rfl⟩
  refine ⟨q + 1, ?_⟩
  have hel := encode_len v s.f0 s.f1 s.f2 s.f3 s.f4
  have hdl := dec_len l
  unfold transeptlaw13_CommandTells.f
  rw [copy_bytes l (by omega), Option.bind_some, copy_ops s.f4 (by omega), Option.bind_some, encode_f, Option.bind_some, ref_encode_f _ _ _ _ _ _ (by omega) _ (by omega), Option.bind_some, decode_f l hb, Option.bind_some, ref_decode_f _ (by omega) l hb, Option.bind_some]
  rw [same_bytes _ _ (by omega) (by omega), Option.bind_some, if_pos rfl, num_f, Option.bind_some, if_pos rfl]
  rw [same_cmd _ _ _ _ _ _ (by omega) (by omega), Option.bind_some, if_pos rfl, if_pos rfl, num_f, Option.bind_some]
  simp only [transeptlaw13_CommandTells.j0]
  rw [if_neg (by simp), show command_Check.f s.f0 s.f1 s.f2 s.f3 s.f4 = some (cmd_check s.f0 s.f1 s.f2 s.f3 s.f4) from rfl, Option.bind_some, num_f, Option.bind_some, ref_cmd_check_f _ _ _ _ _ (by omega) _ (by omega), Option.bind_some, if_pos rfl]
  rw [same_cmd _ _ _ _ _ _ (by omega) (by omega), Option.bind_some, if_pos rfl, same_bytes _ _ (by omega) (by omega), Option.bind_some, if_pos rfl]
  rw [at_rounds transeptlaw13_alive.mono (show 100 ≤ q by omega) alive_f]
  rfl
end Go.Proofs.Ytpjaebbgbmhneaa.Pure
