/- What is answered is its holder's: CommandOwn answers true at every command.
   No condition. -/
import Derived.Test.YtpjaebbgbmhneaaScanLib
import Derived.Test.YtpjaebbgbmhneaaStmCommandOwn
namespace Go.Proofs.Ytpjaebbgbmhneaa.Pure
open Go.RowKit Go.Proofs.YtpjaebbgbmhneaaW.PrintWords Go.Proofs.YtpjaebbgbmhneaaW.PrintLast Go.Proofs.Ytpjaebbgbmhneaa.Print
theorem spoil_l0 (n : Nat) (hn : n ≤ 140737488355328) (d : Nat) : ∀ (k i : Nat) (x : List Int), x.length = n → i ≤ n → n - i = d → d < k → ∃ y, transeptplain_Spoil.l0 k x (i : Int) = some y := by
  induction d with
  | zero =>
    intro k i x hx h1 h2 h3
    obtain ⟨k, rfl⟩ : ∃ m, k = m + 1 := ⟨k - 1, by omega⟩
    simp only [transeptplain_Spoil.l0]
    rw [if_neg (by omega)]
    exact ⟨_, rfl⟩
  | succ d ih =>
    intro k i x hx h1 h2 h3
    obtain ⟨k, rfl⟩ : ∃ m, k = m + 1 := ⟨k - 1, by omega⟩
    simp only [transeptplain_Spoil.l0]
    rw [if_pos (by omega), if_pos (by omega), wrap_next (n := n) (by omega) hn]
    exact ih k (i + 1) _ (by rw [List.length_set]; exact hx) (by omega) (by omega) (by omega)
theorem own_end (k : Nat) (hk : 3000 < k) (a b c d : Int) (os : List ScOp) (ho : os.length ≤ 140737488355328) (hko : os.length < k) (n : Nat) (hn : n ≤ 140737488355328) (m : Nat) : ∀ (q i : Nat) (x : List ScOp), x.length = n → i ≤ n → n - i = m → m + k < q →
    transeptlaw13_CommandOwn.l0 q (cmd_encode 2 a b c d os).1 (cmd_encode 2 a b c d os).2 (cmd_encode 2 a b c d os).1 (i : Int) a b c d os a b c d x = some true := by
  induction m with
  | zero =>
    intro q i x hx h1 h2 h3
    obtain ⟨q, rfl⟩ : ∃ m, q = m + 1 := ⟨q - 1, by omega⟩
    have hlen := encode_len 2 a b c d os
    simp only [transeptlaw13_CommandOwn.l0]
    rw [if_neg (by omega), num_f, Option.bind_some]
    by_cases h0 : (cmd_encode 2 a b c d os).2 = 0
    · rw [if_pos h0, decode_f _ (encode_bytes 2 a b c d os), Option.bind_some, same_bytes _ q (by omega) (by omega), Option.bind_some, dec_enc 2 a b c d os h0]
      obtain ⟨y, hy⟩ := spoil_l0 (cmd_encode 2 a b c d os).1.length (by omega) (cmd_encode 2 a b c d os).1.length q 0 _ rfl (by omega) (by omega) (by omega)
      unfold transeptplain_Spoil.f
      rw [show ((0 : Nat) : Int) = 0 from rfl] at hy
      rw [hy, Option.bind_some, num_f, Option.bind_some, if_pos rfl, if_pos rfl, same_cmd a b c d os q ho (by omega)]
      rfl
    · rw [if_neg h0]
      have : (cmd_encode 2 a b c d os).1 = [] := by
        unfold cmd_encode at h0 ⊢
        split
        · rfl
        · rename_i h1
          rw [if_neg h1] at h0
          split at h0
          · exact absurd rfl h0
          · rename_i h2
            rw [if_pos rfl] at h0
            exact absurd rfl h0
      rw [this]
      rfl
  | succ m ih =>
    intro q i x hx h1 h2 h3
    obtain ⟨q, rfl⟩ : ∃ m, q = m + 1 := ⟨q - 1, by omega⟩
    simp only [transeptlaw13_CommandOwn.l0]
    rw [if_pos (by omega), if_pos (by omega), wrap_next (n := n) (by omega) hn]
    exact ih q (i + 1) _ (by rw [List.length_set]; exact hx) (by omega) (by omega) (by omega)
theorem CommandOwn : transeptlaw13_CommandOwn.Pure := by
  intro s hs
  have ho := hs.2.2.2.2.1
  refine ⟨2 * s.f4.length + 5000, ?_⟩
  have hlen := encode_len 2 s.f0 s.f1 s.f2 s.f3 s.f4
  unfold transeptlaw13_CommandOwn.f transeptplain_CopyOps.f transeptplain_CopyBytes.f
  rw [at_rounds transeptlaw13_alive.mono (show 100 ≤ 2 * s.f4.length + 5000 by omega) alive_f, Option.bind_some, if_pos rfl, if_pos (by simp; omega), Option.bind_some, List.nil_append, encode_f, Option.bind_some, if_pos (by simp; omega), Option.bind_some, List.nil_append]
  exact own_end (s.f4.length + 4000) (by omega) s.f0 s.f1 s.f2 s.f3 s.f4 (by omega) (by omega) s.f4.length (by omega) s.f4.length _ 0 s.f4 rfl (by omega) (by omega) (by omega)
end Go.Proofs.Ytpjaebbgbmhneaa.Pure
