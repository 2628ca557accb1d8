/- What the page's reader makes of octets is what the program's scanner makes of them. -/
import Derived.Test.YtpjaebbgbmhneaaScanCore
import Derived.Test.YtpjaebbgbmhneaaCommandLib
namespace Go.Proofs.Ytpjaebbgbmhneaa.Pure
open Go.RowKit Go.Proofs.YtpjaebbgbmhneaaW.PrintWords Go.Proofs.YtpjaebbgbmhneaaW.PrintLast Go.Proofs.Ytpjaebbgbmhneaa.Print
theorem rd_take_err (l : List Int) (p : Nat) {e : Int} (n : Nat) (h : e ≠ 0) : rd_take l p e n = ([], p, e) := by unfold rd_take; rw [if_pos h]
theorem rd_num_err (l : List Int) (p : Nat) {e : Int} (n : Nat) (h : e ≠ 0) : rd_num l p e n = (0, p, e) := by unfold rd_num; rw [rd_take_err _ _ _ h]; rfl
theorem rd_take_ok (l : List Int) (p n : Nat) {t : List Int} (h : l.drop p = t) (hn : n ≤ t.length) : rd_take l p 0 n = (t.take n, p + n, 0) ∧ l.drop (p + n) = t.drop n := by
  subst h
  rw [List.length_drop] at hn
  constructor
  · unfold rd_take; rw [if_neg (by decide), if_neg (by omega)]
  · rw [List.drop_drop]
theorem rd_take_no (l : List Int) (p n : Nat) {t : List Int} (h : l.drop p = t) (hn : t.length < n) : rd_take l p 0 n = ([], p, 8) := by
  subst h
  rw [List.length_drop] at hn
  unfold rd_take; rw [if_neg (by decide), if_pos hn]
theorem rd_oct_ok (l : List Int) (p : Nat) (x : Int) (t : List Int) (h : l.drop p = x :: t) : rd_num l p 0 1 = (x, p + 1, 0) ∧ l.drop (p + 1) = t := by
  obtain ⟨h1, h2⟩ := rd_take_ok l p 1 h (by simp)
  unfold rd_num
  rw [h1]
  refine ⟨?_, h2⟩
  show (sc_be [x], _) = _
  simp [sc_be]
theorem rd_oct_no (l : List Int) (p : Nat) (h : l.drop p = []) : rd_num l p 0 1 = (0, p, 8) := by
  unfold rd_num
  rw [rd_take_no l p 1 h (by simp)]
  rfl
theorem e8 : (8 : Int) ≠ 0 := by decide
theorem z00 : ¬ ((0 : Int) ≠ 0) := by decide
def SameR {α : Type} (r : Except Int (α × List Int)) (l : List Int) (q : α × Nat × Int) : Prop := match r with
  | .error x => x ≠ 0 ∧ q.2.2 = x
  | .ok (a, t) => q.1 = a ∧ l.drop q.2.1 = t ∧ q.2.2 = 0
theorem op_same (v : Int) (l : List Int) (p : Nat) : SameR (sc_op v (l.drop p)) l (rd_op v l p 0) := by
  generalize ht : l.drop p = t
  unfold rd_op
  cases t with
  | nil =>
    simp only [rd_oct_no l p ht, rd_num_err _ _ _ e8, rd_take_err _ _ _ e8]
    rw [show sc_op v [] = .error 8 from rfl]
    refine ⟨e8, ?_⟩
    split <;> rfl
  | cons kind t =>
    obtain ⟨h1, h2⟩ := rd_oct_ok l p kind t ht
    simp only [h1]
    cases t with
    | nil =>
      simp only [rd_oct_no l _ h2, rd_num_err _ _ _ e8, rd_take_err _ _ _ e8]
      rw [show sc_op v [kind] = .error 8 from rfl]
      refine ⟨e8, ?_⟩
      split <;> rfl
    | cons kk t =>
      obtain ⟨h3, h4⟩ := rd_oct_ok l _ kk t h2
      simp only [h3]
      unfold sc_op
      dsimp only
      by_cases hv : v = 1
      · rw [if_pos hv, if_pos hv]
        by_cases hk : t.length < kk.toNat
        · rw [if_pos hk]
          simp only [rd_take_no l _ _ h4 hk, rd_num_err _ _ _ e8, rd_take_err _ _ _ e8]
          exact ⟨e8, rfl⟩
        · rw [if_neg hk]
          obtain ⟨h5, h6⟩ := rd_take_ok l _ kk.toNat h4 (by omega)
          simp only [h5]
          generalize hu : t.drop kk.toNat = u at h6 ⊢
          have hno : u.length < 2 → SameR (Except.error 8 : Except Int (ScOp × List Int)) l (match rd_num l (p + 1 + 1 + kk.toNat) 0 2 with
              | (n, p4, e4) => match rd_take l p4 e4 n.toNat with
                | (val, p5, e5) => (⟨kind, strOfNums (t.take kk.toNat), strOfNums val⟩, p5, e5)) := by
            intro hlt
            have h7 : rd_num l (p + 1 + 1 + kk.toNat) 0 2 = (0, p + 1 + 1 + kk.toNat, 8) := by
              unfold rd_num; rw [rd_take_no l _ 2 h6 hlt]; rfl
            simp only [h7, rd_take_err _ _ _ e8]
            exact ⟨e8, rfl⟩
          match u, hno with
          | [], hno => exact hno (by simp)
          | [_], hno => exact hno (by simp)
          | a :: b :: u, _ =>
            obtain ⟨h7, h8⟩ := rd_take_ok l _ 2 h6 (by simp)
            have h9 : rd_num l (p + 1 + 1 + kk.toNat) 0 2 = (a * 256 + b, p + 1 + 1 + kk.toNat + 2, 0) := by
              unfold rd_num; rw [h7]; simp [sc_be]
            simp only [h9]
            have h10 : l.drop (p + 1 + 1 + kk.toNat + 2) = u := by rw [h8]; rfl
            by_cases hn : u.length < (a * 256 + b).toNat
            · rw [if_pos hn]
              simp only [rd_take_no l _ _ h10 hn]
              exact ⟨e8, rfl⟩
            · rw [if_neg hn]
              obtain ⟨h11, h12⟩ := rd_take_ok l _ (a * 256 + b).toNat h10 (by omega)
              simp only [h11]
              exact ⟨rfl, h12, rfl⟩
      · rw [if_neg hv, if_neg hv]
        cases t with
        | nil =>
          simp only [rd_oct_no l _ h4, rd_take_err _ _ _ e8]
          exact ⟨e8, rfl⟩
        | cons n u =>
          obtain ⟨h5, h6⟩ := rd_oct_ok l _ n u h4
          simp only [h5]
          by_cases hk : u.length < kk.toNat
          · rw [if_pos hk]
            simp only [rd_take_no l _ _ h6 hk, rd_take_err _ _ _ e8]
            exact ⟨e8, rfl⟩
          · rw [if_neg hk]
            obtain ⟨h7, h8⟩ := rd_take_ok l _ kk.toNat h6 (by omega)
            simp only [h7]
            by_cases hn : (u.drop kk.toNat).length < n.toNat
            · rw [if_pos hn]
              simp only [rd_take_no l _ _ h8 hn]
              exact ⟨e8, rfl⟩
            · rw [if_neg hn]
              obtain ⟨h9, h10⟩ := rd_take_ok l _ n.toNat h8 (by omega)
              simp only [h9]
              exact ⟨rfl, h10, rfl⟩
theorem rd_ops_err (n : Nat) (v : Int) (l : List Int) (p : Nat) {e : Int} (h : e ≠ 0) : rd_ops n v l p e = ([], p, e) := by
  cases n with
  | zero => rfl
  | succ n => simp only [rd_ops]; rw [if_pos h]
theorem ops_same (v : Int) (l : List Int) : ∀ (n p : Nat), SameR (sc_ops n v (l.drop p)) l (rd_ops n v l p 0)
  | 0, p => ⟨rfl, rfl, rfl⟩
  | n + 1, p => by
    have h := op_same v l p
    simp only [rd_ops, sc_ops]
    rw [if_neg (by decide)]
    generalize rd_op v l p 0 = q at h
    obtain ⟨o, p1, e1⟩ := q
    generalize sc_op v (l.drop p) = r at h
    match r, h with
    | .error x, h =>
      have h2 : e1 = x := h.2
      subst h2
      simp only [rd_ops_err n v l p1 h.1]
      exact ⟨h.1, rfl⟩
    | .ok (o', t), h =>
      obtain ⟨h1, h2, h3⟩ := h
      dsimp only at h1 h2 h3
      subst h1 h2 h3
      have ih := ops_same v l n p1
      dsimp only
      generalize sc_ops n v (l.drop p1) = r2 at ih
      generalize rd_ops n v l p1 0 = q2 at ih
      obtain ⟨os, p2, e2⟩ := q2
      match r2, ih with
      | .error x, ih => exact ih
      | .ok (os', t), ih =>
        obtain ⟨h1, h2, h3⟩ := ih
        dsimp only at h1 h2 h3
        subst h1 h2 h3
        exact ⟨rfl, rfl, rfl⟩
theorem var_same (l : List Int) : ∀ (f i : Nat) (n : Int) (p : Nat), SameR (sc_var f i n (l.drop p)) l (rd_groups f i n l p 0)
  | 0, i, n, p => ⟨by decide, rfl⟩
  | f + 1, i, n, p => by
    generalize ht : l.drop p = t
    simp only [rd_groups]
    cases t with
    | nil =>
      simp only [rd_oct_no l p ht, sc_var]
      rw [if_pos e8]
      exact ⟨e8, rfl⟩
    | cons c t =>
      obtain ⟨h1, h2⟩ := rd_oct_ok l p c t ht
      simp only [h1, sc_var]
      rw [if_neg z00]
      by_cases h0 : c = 0 ∧ 0 < i
      · rw [if_pos h0, if_pos (by omega), if_pos h0]
        exact ⟨by decide, rfl⟩
      · rw [if_neg h0, if_neg h0]
        by_cases hc : c < 128
        · rw [if_pos hc, if_pos hc]
          exact ⟨rfl, h2, rfl⟩
        · rw [if_neg hc, if_neg hc, ← h2]
          exact var_same l f (i + 1) _ (p + 1)
theorem rd_groups_err (f i : Nat) (n : Int) (l : List Int) (p : Nat) {e : Int} (h : e ≠ 0) : rd_groups (f + 1) i n l p e = (0, p, e) := by
  simp only [rd_groups, rd_num_err _ _ _ h]
  rw [if_pos h]
def txnOf (q : Int × Bool × Nat × Int) : Int × Nat × Int := (if q.2.1 = true then 1099511627777 else q.1, q.2.2)
theorem rd_txn_err (v : Int) (l : List Int) (p : Nat) {e : Int} (h : e ≠ 0) : (txnOf (rd_txn v l p e)).2 = (p, e) := by
  unfold rd_txn
  split
  · rw [rd_num_err _ _ _ h]; rfl
  · rw [rd_groups_err _ _ _ _ _ h]; rfl
theorem txn_same (v : Int) (l : List Int) (hb : sc_bytes l) (p : Nat) : SameR (if v = 1 then sc_fix (l.drop p) else sc_var 6 0 0 (l.drop p)) l (txnOf (rd_txn v l p 0)) := by
  unfold rd_txn
  by_cases hv : v = 1
  · rw [if_pos hv, if_pos hv]
    have hlt := rd_num_lt hb p 0 8
    by_cases h8 : (l.drop p).length < 8
    · unfold sc_fix rd_num
      rw [if_pos h8, rd_take_no l p 8 rfl h8]
      exact ⟨e8, rfl⟩
    · obtain ⟨h1, h2⟩ := rd_take_ok l p 8 rfl (by omega)
      unfold rd_num at hlt ⊢
      unfold sc_fix
      rw [if_neg h8]
      rw [h1] at hlt ⊢
      dsimp only at hlt ⊢
      generalize sc_be ((l.drop p).take 8) = m at hlt
      have hl2 : m < 18446744073709551616 := by simpa using hlt.2
      refine ⟨?_, h2, rfl⟩
      show (if decide (m > 1099511627776) = true then (1099511627777 : Int) else m % 4611686018427387904) = min m 1099511627777
      have := hlt.1
      by_cases hm : m > 1099511627776
      · rw [if_pos (decide_eq_true hm)]; omega
      · rw [if_neg (by simpa using hm)]; omega
  · rw [if_neg hv, if_neg hv]
    have h := var_same l 6 0 0 p
    generalize rd_groups 6 0 0 l p 0 = q at h
    obtain ⟨n, p1, e1⟩ := q
    exact h
def rd_st (k : Nat) (kind txn v : Int) (l : List Int) (p3 : Nat) (e3 : Int) : Option RdRes :=
  match rd_num l p3 e3 1 with
  | (home, p4, e4) => match rd_num l p4 e4 1 with
    | (verd, p5, e5) => match rd_num l p5 e5 1 with
      | (cnt, p6, e6) => match rd_ops cnt.toNat v l p6 e6 with
        | (ops, p7, e7) => rd_end k kind txn home verd ops v p7 e7 l.length
theorem rd_rest_eq (k : Nat) (v : Int) (l : List Int) (p1 : Nat) (e1 : Int) : rd_rest k v l p1 e1 = match rd_num l p1 e1 1 with
    | (kind, p2, e2) => match txnOf (rd_txn v l p2 e2) with
      | (txn, p3, e3) => rd_st k kind txn v l p3 e3 := rfl
theorem rd_end_err (k : Nat) (a b c d : Int) (os : List ScOp) (v : Int) (p n : Nat) {e : Int} (h : e ≠ 0) : rd_end k a b c d os v p e n = some (0, 0, 0, 0, [], 0, e) := by unfold rd_end; rw [if_pos h]
theorem rd_st_err (k : Nat) (a b v : Int) (l : List Int) (p : Nat) {e : Int} (h : e ≠ 0) : rd_st k a b v l p e = some (0, 0, 0, 0, [], 0, e) := by
  unfold rd_st
  simp only [rd_num_err _ _ _ h, rd_ops_err _ _ _ _ h, rd_end_err _ _ _ _ _ _ _ _ _ h]
theorem rd_rest_err (k : Nat) (v : Int) (l : List Int) (p : Nat) {e : Int} (h : e ≠ 0) : rd_rest k v l p e = some (0, 0, 0, 0, [], 0, e) := by
  rw [rd_rest_eq]
  simp only [rd_num_err _ _ _ h]
  have h2 := rd_txn_err v l p h
  generalize txnOf (rd_txn v l p e) = q at h2 ⊢
  obtain ⟨t, p3, e3⟩ := q
  cases h2
  exact rd_st_err _ _ _ _ _ _ h
theorem sc_ops_len : ∀ (n : Nat) (v : Int) (t t' : List Int) (os : List ScOp), sc_ops n v t = .ok (os, t') → os.length = n
  | 0, v, t, t', os, h => by cases h; rfl
  | n + 1, v, t, t', os, h => by
    simp only [sc_ops] at h
    split at h
    · cases h
    · split at h
      · cases h
      · rename_i h2
        cases h
        rw [List.length_cons, sc_ops_len n _ _ _ _ h2]
theorem rd_end_ok (k : Nat) (hk : 1000 ≤ k) (a b c d : Int) (os : List ScOp) (v : Int) (ho : os.length ≤ 255) (n : Nat) :
    rd_end k a b c d os v n 0 n = some (if (cmd_encode v a b c d os).2 ≠ 0 then (0, 0, 0, 0, [], 0, (cmd_encode v a b c d os).2) else (a, b, c, d, os, v, 0)) := by
  unfold rd_end
  rw [if_neg (by decide), if_neg (by omega), ref_cmd_check_f a b c d os (by omega) k (by omega), Option.bind_some, ref_encode_f v a b c d os (by omega) k (by omega)]
  by_cases h : cmd_check a b c d os = 0
  · rw [if_neg (fun q => q h), Option.bind_some]
    split <;> rfl
  · have h2 : (cmd_encode v a b c d os).2 = cmd_check a b c d os := by unfold cmd_encode; rw [if_pos h]
    rw [if_pos h, h2, if_pos h]
theorem st_same (k : Nat) (hk : 1000 ≤ k) (a b v : Int) (l : List Int) (hb : sc_bytes l) (p : Nat) : rd_st k a b v l p 0 = some (match (match l.drop p with
    | home :: verd :: cnt :: t3 => match sc_ops cnt.toNat v t3 with
      | .error x => .error x
      | .ok (ops, t4) => if 0 < t4.length then .error 23 else .ok (a, b, home, verd, ops, v)
    | _ => .error 8 : Except Int (Int × Int × Int × Int × List ScOp × Int)) with
  | .error x => (0, 0, 0, 0, [], 0, x)
  | .ok (a, b, c, d, os, v) => if (cmd_encode v a b c d os).2 ≠ 0 then (0, 0, 0, 0, [], 0, (cmd_encode v a b c d os).2) else (a, b, c, d, os, v, 0)) := by
  unfold rd_st
  generalize ht : l.drop p = t
  match t, ht with
  | [], ht => simp only [rd_oct_no l p ht, rd_num_err _ _ _ e8, rd_ops_err _ _ _ _ e8, rd_end_err _ _ _ _ _ _ _ _ _ e8]
  | [x], ht =>
    obtain ⟨h1, h2⟩ := rd_oct_ok l p _ _ ht
    simp only [h1, rd_oct_no l _ h2, rd_num_err _ _ _ e8, rd_ops_err _ _ _ _ e8, rd_end_err _ _ _ _ _ _ _ _ _ e8]
  | [x, y], ht =>
    obtain ⟨h1, h2⟩ := rd_oct_ok l p _ _ ht
    obtain ⟨h3, h4⟩ := rd_oct_ok l _ _ _ h2
    simp only [h1, h3, rd_oct_no l _ h4, rd_ops_err _ _ _ _ e8, rd_end_err _ _ _ _ _ _ _ _ _ e8]
  | home :: verd :: cnt :: t, ht =>
    obtain ⟨h1, h2⟩ := rd_oct_ok l p _ _ ht
    obtain ⟨h3, h4⟩ := rd_oct_ok l _ _ _ h2
    obtain ⟨h5, h6⟩ := rd_oct_ok l _ _ _ h4
    have hcnt : cnt < 256 := by
      refine (hb cnt ?_).2
      have : cnt ∈ l.drop p := by rw [ht]; simp
      exact List.mem_of_mem_drop this
    simp only [h1, h3, h5]
    have h := ops_same v l cnt.toNat (p + 1 + 1 + 1)
    rw [h6] at h
    have hlen := sc_ops_len cnt.toNat v t
    generalize sc_ops cnt.toNat v t = r at h hlen
    generalize rd_ops cnt.toNat v l (p + 1 + 1 + 1) 0 = q at h
    obtain ⟨os, p7, e7⟩ := q
    match r, h, hlen with
    | .error x, h, _ =>
      have h2 : e7 = x := h.2
      subst h2
      exact rd_end_err _ _ _ _ _ _ _ _ _ h.1
    | .ok (os', t4), h, hlen =>
      obtain ⟨q1, q2, q3⟩ := h
      dsimp only at q1 q2 q3
      subst q1 q2 q3
      have hl := hlen _ _ rfl
      dsimp only
      rw [List.length_drop]
      by_cases hp : p7 < l.length
      · rw [if_pos (by omega)]
        unfold rd_end
        rw [if_neg (by decide), if_pos hp]
      · rw [if_neg (by omega)]
        dsimp only
        have := rd_end_ok k hk a b home verd os v (by omega) p7
        rw [← this]
        unfold rd_end
        rw [if_neg z00, if_neg hp, if_neg z00, if_neg (Nat.lt_irrefl p7)]
theorem rd_dec_eq (k : Nat) (hk : 1000 ≤ k) (l : List Int) (hb : sc_bytes l) : rd_dec k l = some (sc_dec l) := by
  unfold rd_dec sc_dec
  cases l with
  | nil =>
    rw [rd_oct_no [] 0 rfl]
    dsimp only
    rw [if_neg (by decide), rd_rest_err _ _ _ _ e8]
    rfl
  | cons v t =>
    obtain ⟨h1, h2⟩ := rd_oct_ok (v :: t) 0 v t rfl
    rw [h1]
    dsimp only
    unfold sc_cmd
    dsimp only
    by_cases hv : v ≠ 1 ∧ v ≠ 2
    · rw [if_pos ⟨rfl, hv⟩, if_pos hv]
    · rw [if_neg (fun h => hv h.2), if_neg hv, rd_rest_eq]
      cases t with
      | nil =>
        rw [rd_oct_no _ _ h2]
        dsimp only
        have h3 := rd_txn_err v [v] (0 + 1) e8
        generalize txnOf (rd_txn v [v] (0 + 1) 8) = q at h3 ⊢
        obtain ⟨a, p3, e3⟩ := q
        cases h3
        exact rd_st_err _ _ _ _ _ _ e8
      | cons kind t1 =>
        obtain ⟨h3, h4⟩ := rd_oct_ok _ _ kind t1 h2
        rw [h3]
        dsimp only
        have h5 := txn_same v (v :: kind :: t1) hb (0 + 1 + 1)
        rw [h4] at h5
        generalize (if v = 1 then sc_fix t1 else sc_var 6 0 0 t1) = r at h5 ⊢
        generalize txnOf (rd_txn v (v :: kind :: t1) (0 + 1 + 1) 0) = q at h5 ⊢
        obtain ⟨txn, p3, e3⟩ := q
        match r, h5 with
        | .error x, h5 =>
          have h6 : e3 = x := h5.2
          subst h6
          exact rd_st_err _ _ _ _ _ _ h5.1
        | .ok (txn', t2), h5 =>
          obtain ⟨q1, q2, q3⟩ := h5
          dsimp only at q1 q2 q3
          subst q1 q2 q3
          dsimp only
          exact st_same k hk kind txn v _ hb p3
theorem ref_decode_f (k : Nat) (hk : 1000 ≤ k) (l : List Int) (hb : sc_bytes l) : transeptref13_Decode.f k l = some (sc_dec l) := by
  unfold transeptref13_Decode.f
  rw [if_pos (all_bytes l hb), rd_dec_eq k hk l hb]
end Go.Proofs.Ytpjaebbgbmhneaa.Pure
