/- Commands are read back from their octets, in both versions; what is read is built again of what was read: CommandBack answers true at every command and octets.
   No condition. -/
import Derived.Test.YtpjaebbgbmhneaaScanLib
import Derived.Test.YtpjaebbgbmhneaaStmCommandBack
namespace Go.Proofs.Ytpjaebbgbmhneaa.Pure
open Go.RowKit Go.Proofs.YtpjaebbgbmhneaaW.PrintWords Go.Proofs.YtpjaebbgbmhneaaW.PrintLast Go.Proofs.Ytpjaebbgbmhneaa.Print
theorem enc_fail (v a b c d : Int) (os : List ScOp) (h0 : (cmd_encode v a b c d os).2 ≠ 0) : (cmd_encode v a b c d os).1 = [] := by
  unfold cmd_encode at h0 ⊢
  split
  · rfl
  · rename_i h1
    rw [if_neg h1] at h0
    split at h0
    · exact absurd rfl h0
    · rename_i h2
      rw [if_neg h2]
      split at h0
      · exact absurd rfl h0
      · rename_i h3
        rw [if_neg h3]
theorem back_end (q : Nat) (l : List Int) (hb : sc_bytes l) (hl : l.length ≤ 140737488355328) (hq : l.length + 2 < q) (a b c d : Int) (os : List ScOp) : transeptlaw13_CommandBack.l0 q l 3 a b c d os = some true := by
  obtain ⟨q, rfl⟩ : ∃ m, q = m + 1 := ⟨q - 1, by omega⟩
  simp only [transeptlaw13_CommandBack.l0]
  rw [if_neg (by decide), decode_f l hb, Option.bind_some]
  obtain ⟨a1, b1, c1, d1, os1, v1, e1, hd⟩ : ∃ a1 b1 c1 d1 os1 v1 e1, sc_dec l = (a1, b1, c1, d1, os1, v1, e1) := ⟨_, _, _, _, _, _, _, rfl⟩
  rw [hd]
  dsimp only
  rw [num_f, Option.bind_some]
  by_cases h0 : e1 = 0
  · subst h0
    rw [if_pos rfl, encode_f, Option.bind_some]
    rcases enc_dec l a1 b1 c1 d1 v1 os1 hb hd with h1 | h1
    · rw [h1]
      dsimp only
      rw [num_f, Option.bind_some, if_pos rfl, same_bytes l q hl (by omega)]
      rfl
    · exfalso
      unfold sc_dec at hd
      split at hd
      · rename_i x hx
        have hx0 : x = 0 := by cases hd; rfl
        exact sc_cmd_err l x hx hx0
      · rename_i a2 b2 c2 d2 os2 v2 hcmd
        have hv2 := sc_cmd_ver l _ _ _ _ _ _ hcmd
        split at hd
        · rename_i h2
          have : (cmd_encode v2 a2 b2 c2 d2 os2).2 = 0 := congrArg (fun p => p.2.2.2.2.2.2) hd
          exact h2 this
        · have : v2 = v1 := by cases hd; rfl
          omega
  · rw [if_neg h0]
    have hz : v1 = 0 ∧ a1 = 0 := by
      unfold sc_dec at hd
      split at hd
      · cases hd; exact ⟨rfl, rfl⟩
      · split at hd
        · cases hd; exact ⟨rfl, rfl⟩
        · cases hd; exact absurd rfl h0
    rw [if_pos hz.1, hz.2]
    rfl
theorem back_step (q : Nat) (l : List Int) (v : Int) (hv : v = 1 ∨ v = 2) (a b c d : Int) (os : List ScOp) (ho : os.length ≤ 140737488355328) (hq : os.length + 1 < q) :
    transeptlaw13_CommandBack.l0 (q + 1) l v a b c d os = transeptlaw13_CommandBack.l0 q l (v + 1) a b c d os := by
  have hw : wrap64 (v + 1) = v + 1 := wrap_add (by omega) (by omega)
  conv => lhs; unfold transeptlaw13_CommandBack.l0
  rw [if_pos (by omega), encode_f, Option.bind_some, num_f, Option.bind_some, hw]
  by_cases h0 : (cmd_encode v a b c d os).2 = 0
  · rw [if_pos h0, decode_f _ (encode_bytes v a b c d os), Option.bind_some, dec_enc v a b c d os h0]
    dsimp only
    rw [num_f, Option.bind_some, if_pos rfl, if_pos rfl, same_cmd a b c d os q ho (by omega), Option.bind_some, if_pos rfl]
  · rw [if_neg h0, enc_fail v a b c d os h0, if_neg (by simp)]
theorem CommandBack : transeptlaw13_CommandBack.Pure := by
  intro s l hs hl
  have ho := hs.2.2.2.2.1
  have hb : sc_bytes l := by
    intro x hx
    have := hl.2 x hx
    unfold Lit.wf at this
    rw [Bool.and_eq_true, decide_eq_true_eq, decide_eq_true_eq] at this
    have h1 := this.1
    have h2 := this.2
    simp [IntKind.min, IntKind.max, IntKind.signed, IntKind.bits] at h1 h2
    omega
  obtain ⟨q, hq⟩ : ∃ q, q = l.length + s.f4.length + 500 := ⟨_, rfl⟩
  refine ⟨q + 1 + 1, ?_⟩
  unfold transeptlaw13_CommandBack.f
  rw [at_rounds transeptlaw13_alive.mono (show 100 ≤ q + 1 + 1 by omega) alive_f, Option.bind_some, if_pos rfl]
  rw [back_step (q + 1) l 1 (.inl rfl) _ _ _ _ _ (by omega) (by omega), show (1 : Int) + 1 = 2 by omega, back_step q l 2 (.inr rfl) _ _ _ _ _ (by omega) (by omega), show (2 : Int) + 1 = 3 by omega]
  exact back_end q l hb (by have := hl.1; omega) (by omega) _ _ _ _ _
end Go.Proofs.Ytpjaebbgbmhneaa.Pure
