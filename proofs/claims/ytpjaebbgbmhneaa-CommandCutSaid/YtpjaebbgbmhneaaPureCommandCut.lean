/- Octets of a command that are cut off are no command, nor are they with one more behind them: CommandCut answers true at every command, version and cut.
   No condition. -/
import Derived.Test.YtpjaebbgbmhneaaScanCore
import Derived.Test.YtpjaebbgbmhneaaStmCommandCut
namespace Go.Proofs.Ytpjaebbgbmhneaa.Pure
open Go.RowKit Go.Proofs.YtpjaebbgbmhneaaW.PrintWords Go.Proofs.YtpjaebbgbmhneaaW.PrintLast Go.Proofs.Ytpjaebbgbmhneaa.Print
theorem op_cut (v : Int) (hv : v = 1 ∨ v = 2) (o : ScOp) (h : okop o) (j : Nat) (hj : j < (cmd_op v o).length) : sc_op v ((cmd_op v o).take j) = .error 8 := by
  obtain ⟨h1, h2, h3, h4⟩ := h
  have e0 : o.f0 % 256 = o.f0 := by omega
  have e1 : (o.f1.size : Int) % 256 = (o.f1.size : Int) := by omega
  have e2 : (o.f2.size : Int) % 256 = (o.f2.size : Int) := by omega
  have l1 := bytesOf_length o.f1
  have l2 := bytesOf_length o.f2
  rcases hv with rfl | rfl
  · have e : cmd_op 1 o = o.f0 :: (o.f1.size : Int) :: (bytesOf o.f1 ++ (0 :: (o.f2.size : Int) :: bytesOf o.f2)) := by
      unfold cmd_op
      rw [if_pos rfl, e0, e1, e2]
      simp
    rw [e] at hj ⊢
    simp only [List.length_cons, List.length_append] at hj
    match j with
    | 0 => simp [sc_op]
    | 1 => simp [sc_op]
    | j + 2 =>
      simp only [List.take_succ_cons, sc_op, Int.toNat_natCast]
      rw [if_pos trivial]
      by_cases c1 : ((bytesOf o.f1 ++ 0 :: (o.f2.size : Int) :: bytesOf o.f2).take j).length < o.f1.size
      · rw [if_pos c1]
      · rw [if_neg c1, List.drop_take, List.drop_left' l1]
        have hm : j - o.f1.size < o.f2.size + 2 := by omega
        generalize j - o.f1.size = m at hm
        match m with
        | 0 => simp
        | 1 => simp
        | m + 2 =>
          simp only [List.take_succ_cons]
          rw [if_pos (by rw [List.length_take]; omega)]
  · have e : cmd_op 2 o = o.f0 :: (o.f1.size : Int) :: (o.f2.size : Int) :: (bytesOf o.f1 ++ bytesOf o.f2) := by
      unfold cmd_op
      rw [if_neg (by decide), e0, e1, e2]
      simp
    rw [e] at hj ⊢
    simp only [List.length_cons, List.length_append] at hj
    match j with
    | 0 => simp [sc_op]
    | 1 => simp [sc_op]
    | 2 => simp [sc_op]
    | j + 3 =>
      simp only [List.take_succ_cons, sc_op, Int.toNat_natCast]
      rw [if_neg (by decide)]
      by_cases c1 : ((bytesOf o.f1 ++ bytesOf o.f2).take j).length < o.f1.size
      · rw [if_pos c1]
      · rw [if_neg c1, List.drop_take, List.drop_left' l1, if_pos (by
          rw [List.length_take] at c1 ⊢
          rw [List.length_append] at c1
          omega)]
theorem ops_cut (v : Int) (hv : v = 1 ∨ v = 2) : ∀ (l : List ScOp) (j : Nat), (∀ o ∈ l, okop o) → j < (l.flatMap (cmd_op v)).length → sc_ops l.length v ((l.flatMap (cmd_op v)).take j) = .error 8 := by
  intro l
  induction l with
  | nil => intro j _ h; simp at h
  | cons o l ih =>
    intro j h hj
    simp only [List.length_cons, List.flatMap_cons, sc_ops, List.length_append] at hj ⊢
    by_cases c1 : j < (cmd_op v o).length
    · rw [List.take_append_of_le_length (by omega), op_cut v hv o (h o (by simp)) j c1]
    · rw [List.take_append, List.take_of_length_le (by omega), op_enc v hv o (h o (by simp))]
      dsimp only
      rw [ih _ (fun x hx => h x (by simp [hx])) (by omega)]
theorem var_cut : ∀ (f i : Nat) (n m : Int) (j : Nat), 0 ≤ m → m < 128 ^ f → (0 < i → 0 < m) → 0 < f → j < (cmd_vi f m).length → sc_var f i n ((cmd_vi f m).take j) = .error 8 := by
  intro f
  induction f with
  | zero => intro i n m j h0 h1 h2 hf; omega
  | succ f ih =>
    intro i n m j h0 h1 h2 _ hj
    simp only [cmd_vi] at hj ⊢
    by_cases h : m < 128
    · rw [if_pos h] at hj ⊢
      have : j = 0 := by simpa using hj
      subst this
      rfl
    · rw [if_neg h] at hj ⊢
      match j with
      | 0 => rfl
      | j + 1 =>
        simp only [List.take_succ_cons, sc_var]
        rw [if_neg (by intro hx; omega), if_neg (by omega)]
        have hf0 : 0 < f := by
          rcases Nat.eq_zero_or_pos f with rfl | hf
          · simp at h1; omega
          · exact hf
        exact ih (i + 1) _ (m / 128) j (by omega) (by rw [Int.pow_succ] at h1; omega) (by intro _; omega) hf0 (by simpa using hj)
def mid (v b : Int) : List Int := if v = 1 then oct_put b (oct_sh 8) else cmd_vi 6 b
theorem mid_enc (v b : Int) (hv : v = 1 ∨ v = 2) (h0 : 0 ≤ b) (h1 : b ≤ 1099511627776) (t : List Int) : (if v = 1 then sc_fix (mid v b ++ t) else sc_var 6 0 0 (mid v b ++ t)) = .ok (b, t) := by
  unfold mid
  rcases hv with rfl | rfl
  · rw [if_pos rfl, if_pos rfl]
    have hl8 : (oct_put b (oct_sh 8)).length = 8 := by rw [put_eq]; rfl
    unfold sc_fix
    rw [if_neg (by rw [List.length_append, hl8]; omega), List.take_left' hl8, List.drop_left' hl8, be_put b h0 (by omega), Int.min_def, if_pos (by omega)]
  · rw [if_neg (by decide), if_neg (by decide), var_enc 6 0 0 b t h0 (by omega) (by omega) (by omega)]
    simp
theorem mid_cut (v b : Int) (hv : v = 1 ∨ v = 2) (h0 : 0 ≤ b) (h1 : b ≤ 1099511627776) (j : Nat) (hj : j < (mid v b).length) : (if v = 1 then sc_fix ((mid v b).take j) else sc_var 6 0 0 ((mid v b).take j)) = .error 8 := by
  unfold mid at hj ⊢
  rcases hv with rfl | rfl
  · rw [if_pos rfl] at hj
    rw [if_pos rfl, if_pos rfl]
    have hl8 : (oct_put b (oct_sh 8)).length = 8 := by rw [put_eq]; rfl
    unfold sc_fix
    rw [if_pos (by rw [List.length_take]; omega)]
  · rw [if_neg (by decide)] at hj
    rw [if_neg (by decide), if_neg (by decide)]
    exact var_cut 6 0 0 b j h0 (by omega) (by omega) (by omega) hj
theorem octets_eq (v a b c d : Int) (l : List ScOp) (hv : v = 1 ∨ v = 2) (h : cmd_check a b c d l = 0) : cmd_octets v a b c d l = v :: a :: (mid v b ++ (c :: d :: (l.length : Int) :: l.flatMap (cmd_op v))) := by
  obtain ⟨h1, h2, h3, h4, h5, h6, h7, h8, h9, h10⟩ := check_more h
  unfold cmd_octets cmd_head mid
  rw [show v % 256 = v by omega, show a % 256 = a by omega, show c % 256 = c by omega, show d % 256 = d by omega, show ((l.length : Nat) : Int) % 256 = (l.length : Int) by omega]
  simp
theorem cmd_tail (v a b c d : Int) (l : List ScOp) (hv : v = 1 ∨ v = 2) (h : cmd_check a b c d l = 0) (x : Int) : sc_cmd (cmd_octets v a b c d l ++ [x]) = .error 23 := by
  obtain ⟨h1, h2, h3, h4, h5, h6, h7, h8, h9, h10⟩ := check_more h
  rw [octets_eq v a b c d l hv h]
  have e : v :: a :: (mid v b ++ (c :: d :: (l.length : Int) :: l.flatMap (cmd_op v))) ++ [x] = v :: a :: (mid v b ++ (c :: d :: (l.length : Int) :: (l.flatMap (cmd_op v) ++ [x]))) := by simp
  rw [e]
  simp only [sc_cmd]
  rw [if_neg (by omega), mid_enc v b hv h3 h4]
  dsimp only
  rw [Int.toNat_natCast, ops_enc v hv l [x] h10]
  dsimp only
  rw [if_pos (by simp)]
theorem cmd_cut (v a b c d : Int) (l : List ScOp) (hv : v = 1 ∨ v = 2) (h : cmd_check a b c d l = 0) (j : Nat) (hj : j < (cmd_octets v a b c d l).length) : sc_cmd ((cmd_octets v a b c d l).take j) = .error 8 := by
  obtain ⟨h1, h2, h3, h4, h5, h6, h7, h8, h9, h10⟩ := check_more h
  rw [octets_eq v a b c d l hv h] at hj ⊢
  match j with
  | 0 => rfl
  | 1 =>
    simp only [List.take_succ_cons, List.take_zero, sc_cmd]
    rw [if_neg (by omega)]
  | j + 2 =>
    simp only [List.length_cons, List.length_append] at hj
    simp only [List.take_succ_cons, sc_cmd]
    rw [if_neg (by omega)]
    by_cases c1 : j < (mid v b).length
    · rw [List.take_append_of_le_length (by omega), mid_cut v b hv h3 h4 j c1]
    · rw [List.take_append, List.take_of_length_le (by omega), mid_enc v b hv h3 h4]
      dsimp only
      have hm : j - (mid v b).length < (l.flatMap (cmd_op v)).length + 3 := by omega
      generalize j - (mid v b).length = m at hm
      match m with
      | 0 => simp
      | 1 => simp
      | 2 => simp
      | m + 3 =>
        simp only [List.take_succ_cons]
        rw [Int.toNat_natCast, ops_cut v hv l m h10 (by omega)]
theorem enc_fail2 (v a b c d : Int) (os : List ScOp) (h0 : (cmd_encode v a b c d os).2 ≠ 0) : (cmd_encode v a b c d os).1 = [] := by
  unfold cmd_encode at h0 ⊢
  split
  · rfl
  · rename_i h1
    rw [if_neg h1] at h0
    split at h0
    · exact absurd rfl h0
    · rename_i h2
      rw [if_neg h2]
      split at h0
      · exact absurd rfl h0
      · rename_i h3
        rw [if_neg h3]
theorem CommandCut : transeptlaw13_CommandCut.Pure := by
  intro s v x hs hv hx
  refine ⟨100, ?_⟩
  have wx := wf64 hx
  unfold transeptlaw13_CommandCut.f
  rw [alive_f, Option.bind_some, if_pos rfl, encode_f, Option.bind_some, num_f, Option.bind_some]
  by_cases h0 : (cmd_encode v s.f0 s.f1 s.f2 s.f3 s.f4).2 = 0
  · rw [if_pos h0]
    obtain ⟨e1, e2, e3⟩ := enc_octets v s.f0 s.f1 s.f2 s.f3 s.f4 h0
    have hlen := encode_len v s.f0 s.f1 s.f2 s.f3 s.f4
    have hby := encode_bytes v s.f0 s.f1 s.f2 s.f3 s.f4
    rw [e1] at hlen hby ⊢
    have hpos : 0 < (cmd_octets v s.f0 s.f1 s.f2 s.f3 s.f4).length := by rw [octets_eq v _ _ _ _ _ e3 e2]; simp
    have hcut := fun j hj => cmd_cut v s.f0 s.f1 s.f2 s.f3 s.f4 e3 e2 j hj
    have htail := cmd_tail v s.f0 s.f1 s.f2 s.f3 s.f4 e3 e2 0
    generalize cmd_octets v s.f0 s.f1 s.f2 s.f3 s.f4 = l at hlen hby hpos hcut htail ⊢
    have t1 := Int.tmod_lt_of_pos x (show (0 : Int) < (l.length : Int) by omega)
    have t2 : -(l.length : Int) < Int.tmod x (l.length : Int) := Int.lt_tmod_of_pos x (show (0 : Int) < (l.length : Int) by omega)
    rw [wrap_add (i := Int.tmod x (l.length : Int) + (l.length : Int)) (by omega) (by omega)]
    have t3 := Int.tmod_lt_of_pos (Int.tmod x (l.length : Int) + (l.length : Int)) (show (0 : Int) < (l.length : Int) by omega)
    have t4 := Int.tmod_nonneg (l.length : Int) (show 0 ≤ Int.tmod x (l.length : Int) + (l.length : Int) by omega)
    obtain ⟨j, hj⟩ := Int.eq_ofNat_of_zero_le t4
    rw [hj] at t3 ⊢
    rw [if_neg (by omega), if_pos (by omega), if_pos (by omega), Int.toNat_natCast, decode_f _ (sc_bytes_take hby j), Option.bind_some]
    unfold transeptplain_CopyBytes.f
    rw [if_pos (by simp; omega), Option.bind_some, List.nil_append, if_pos (by omega), decode_f _ (by
      intro y hy
      rcases List.mem_append.1 hy with hy | hy
      · exact hby y hy
      · have := List.mem_singleton.1 hy; omega), Option.bind_some]
    unfold sc_dec
    rw [hcut j (by omega), htail]
    dsimp only
    rw [num_f, Option.bind_some, if_pos rfl, if_pos rfl, if_pos rfl, num_f, Option.bind_some]
    rfl
  · rw [if_neg h0, enc_fail2 _ _ _ _ _ _ h0]
    rfl
end Go.Proofs.Ytpjaebbgbmhneaa.Pure
