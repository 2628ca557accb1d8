/- Octets read as a command and a command as octets: each is the other's way back. -/
import Derived.Test.YtpjaebbgbmhneaaPrint
namespace Go.Proofs.Ytpjaebbgbmhneaa.Pure
open Go.RowKit Go.Proofs.YtpjaebbgbmhneaaW.PrintWords Go.Proofs.YtpjaebbgbmhneaaW.PrintLast Go.Proofs.Ytpjaebbgbmhneaa.Print
theorem str_bytes (s : ByteArray) : strOfNums (bytesOf s) = s := by
  cases s
  have e : ((fun n : Int => UInt8.ofNat n.toNat) ∘ fun (b : UInt8) => (b.toNat : Int)) = id := by funext b; simp
  simp [strOfNums, bytesOf, e]
theorem bytes_str (l : List Int) (h : sc_bytes l) : bytesOf (strOfNums l) = l := by
  unfold bytesOf strOfNums
  simp only [List.map_map]
  conv => rhs; rw [← List.map_id l]
  apply List.map_congr_left
  intro x hx
  have := h x hx
  simp only [Function.comp, id]
  rw [UInt8.toNat_ofNat']
  omega
theorem bytesOf_ok (s : ByteArray) : sc_bytes (bytesOf s) := by
  intro x hx
  simp only [bytesOf, List.mem_map] at hx
  obtain ⟨b, _, rfl⟩ := hx
  have := b.toNat_lt
  omega
/-- What a command that may be has. -/
def okop (o : ScOp) : Prop := 1 ≤ o.f0 ∧ o.f0 ≤ 3 ∧ o.f1.size ≤ 32 ∧ o.f2.size ≤ 64
theorem check_more {a b c d : Int} {l : List ScOp} (h : cmd_check a b c d l = 0) : 1 ≤ a ∧ a ≤ 6 ∧ 0 ≤ b ∧ b ≤ 1099511627776 ∧ 0 ≤ c ∧ c < 4 ∧ 0 ≤ d ∧ d ≤ 2 ∧ l.length ≤ 16 ∧ ∀ o ∈ l, okop o := by
  have h0 := cmd_check_zero h
  unfold cmd_check at h
  split at h
  · cases h
  · rename_i h1
    split at h
    · cases h
    · rename_i h2
      have h2' : cmd_numbers a b c d = true := by simpa using h2
      simp only [cmd_numbers, Bool.and_eq_true] at h2'
      have h3 := h2'.1.2
      have h4 := h2'.2
      simp only [decide_eq_true_eq] at h3
      have h5 : 0 ≤ d ∧ d ≤ 2 := by
        split at h4
        · simp only [decide_eq_true_eq] at h4; omega
        · simp only [decide_eq_true_eq] at h4; omega
      refine ⟨by omega, by omega, h0.1, h0.2.1, h3.1, h3.2, h5.1, h5.2, h0.2.2.1, ?_⟩
      intro o ho
      have hk : cmd_kindBad o = false := by
        have : ¬ l.any cmd_kindBad = true := fun x => h1 (.inr x)
        rw [List.any_eq_true] at this
        simpa using fun x => this ⟨o, ho, x⟩
      simp only [cmd_kindBad, Bool.or_eq_false_iff, decide_eq_false_iff_not] at hk
      exact ⟨by omega, by omega, (h0.2.2.2 o ho).1, (h0.2.2.2 o ho).2⟩
theorem op_enc (v : Int) (hv : v = 1 ∨ v = 2) (o : ScOp) (h : okop o) (t : List Int) : sc_op v (cmd_op v o ++ t) = .ok (o, t) := by
  obtain ⟨h1, h2, h3, h4⟩ := h
  have e0 : o.f0 % 256 = o.f0 := by omega
  have e1 : (o.f1.size : Int) % 256 = (o.f1.size : Int) := by omega
  have e2 : (o.f2.size : Int) % 256 = (o.f2.size : Int) := by omega
  have l1 := bytesOf_length o.f1
  have l2 := bytesOf_length o.f2
  rcases hv with rfl | rfl
  · have e : cmd_op 1 o ++ t = o.f0 :: (o.f1.size : Int) :: (bytesOf o.f1 ++ (0 :: (o.f2.size : Int) :: (bytesOf o.f2 ++ t))) := by
      unfold cmd_op
      rw [if_pos rfl, e0, e1, e2]
      simp
    rw [e]
    simp only [sc_op, Int.toNat_natCast]
    rw [if_pos trivial, if_neg (by simp [l1]), List.drop_left' l1, List.take_left' l1]
    simp only [Int.zero_mul, Int.zero_add, Int.toNat_natCast]
    rw [if_neg (by simp [l2]), List.drop_left' l2, List.take_left' l2, str_bytes, str_bytes]
  · have e : cmd_op 2 o ++ t = o.f0 :: (o.f1.size : Int) :: (o.f2.size : Int) :: (bytesOf o.f1 ++ (bytesOf o.f2 ++ t)) := by
      unfold cmd_op
      rw [if_neg (by decide), e0, e1, e2]
      simp
    rw [e]
    simp only [sc_op, Int.toNat_natCast]
    rw [if_neg (by decide), if_neg (by simp [l1]), List.drop_left' l1, List.take_left' l1, if_neg (by simp [l2]), List.drop_left' l2, List.take_left' l2, str_bytes, str_bytes]
theorem ops_enc (v : Int) (hv : v = 1 ∨ v = 2) : ∀ (l : List ScOp) (t : List Int), (∀ o ∈ l, okop o) → sc_ops l.length v (l.flatMap (cmd_op v) ++ t) = .ok (l, t) := by
  intro l
  induction l with
  | nil => intro t _; rfl
  | cons o l ih =>
    intro t h
    simp only [List.length_cons, List.flatMap_cons, List.append_assoc, sc_ops]
    rw [op_enc v hv o (h o (by simp))]
    dsimp only
    rw [ih t (fun x hx => h x (by simp [hx]))]
theorem sh8 : oct_sh 8 = [7, 6, 5, 4, 3, 2, 1, 0] := by decide
theorem put_eq (b : Int) : oct_put b (oct_sh 8) = [b / 72057594037927936 % 256, b / 281474976710656 % 256, b / 1099511627776 % 256, b / 4294967296 % 256, b / 16777216 % 256, b / 65536 % 256, b / 256 % 256, b % 256] := by
  rw [sh8]
  simp [oct_put, shr, IntKind.bits]
theorem be_put (b : Int) (h0 : 0 ≤ b) (h1 : b < 18446744073709551616) : sc_be (oct_put b (oct_sh 8)) = b := by
  rw [put_eq]
  simp only [sc_be, List.foldl_cons, List.foldl_nil]
  omega
theorem put_be (l : List Int) (h : sc_bytes l) (h8 : l.length = 8) : oct_put (sc_be l) (oct_sh 8) = l := by
  match l, h8 with
  | [x0, x1, x2, x3, x4, x5, x6, x7], _ =>
    have b0 := h x0 (by simp)
    have b1 := h x1 (by simp)
    have b2 := h x2 (by simp)
    have b3 := h x3 (by simp)
    have b4 := h x4 (by simp)
    have b5 := h x5 (by simp)
    have b6 := h x6 (by simp)
    have b7 := h x7 (by simp)
    rw [put_eq]
    simp only [sc_be, List.foldl_cons, List.foldl_nil, List.cons.injEq, and_true]
    refine ⟨?_, ?_, ?_, ?_, ?_, ?_, ?_, ?_⟩ <;> omega
theorem mul_step (m P : Int) : m % 128 * P + m / 128 * (P * 128) = m * P := by
  have h : m = 128 * (m / 128) + m % 128 := by omega
  have e : m / 128 * (P * 128) = 128 * (m / 128) * P := by rw [Int.mul_comm P 128, ← Int.mul_assoc, Int.mul_comm (m / 128) 128]
  rw [e]
  conv => rhs; rw [h, Int.add_mul]
  omega
theorem var_enc : ∀ (f i : Nat) (n m : Int) (t : List Int), 0 ≤ m → m < 128 ^ f → (0 < i → 0 < m) → 0 < f → sc_var f i n (cmd_vi f m ++ t) = .ok (n + m * 128 ^ i, t) := by
  intro f
  induction f with
  | zero => intro i n m t h0 h1 h2 hf; omega
  | succ f ih =>
    intro i n m t h0 h1 h2 _
    simp only [cmd_vi]
    by_cases h : m < 128
    · rw [if_pos h, show m % 256 = m by omega]
      simp only [List.cons_append, List.nil_append, sc_var]
      rw [if_neg (by intro hx; have := h2 hx.2; omega), if_pos h, show m % 128 = m by omega]
    · rw [if_neg h]
      simp only [List.cons_append, sc_var]
      rw [if_neg (by intro hx; omega), if_neg (by omega), show (m % 128 + 128) % 128 = m % 128 by omega]
      have hf0 : 0 < f := by
        rcases Nat.eq_zero_or_pos f with rfl | hf
        · simp at h1; omega
        · exact hf
      rw [ih (i + 1) _ (m / 128) t (by omega) (by rw [Int.pow_succ] at h1; omega) (by intro _; omega) hf0, Int.pow_succ, Int.add_assoc, mul_step]
theorem var_dec : ∀ (f i : Nat) (n x : Int) (t t' : List Int), sc_bytes t → sc_var f i n t = .ok (x, t') → ∃ m, 0 ≤ m ∧ x = n + m * 128 ^ i ∧ t = cmd_vi f m ++ t' ∧ (0 < i → 0 < m) := by
  intro f
  induction f with
  | zero => intro i n x t t' _ h; simp [sc_var] at h
  | succ f ih =>
    intro i n x t t' hb h
    cases t with
    | nil => simp [sc_var] at h
    | cons c t =>
      have hc := hb c (by simp)
      simp only [sc_var] at h
      split at h
      · cases h
      · rename_i h1
        split at h
        · rename_i h2
          cases h
          refine ⟨c, hc.1, by rw [show c % 128 = c by omega], ?_, ?_⟩
          · simp only [cmd_vi]
            rw [if_pos h2, show c % 256 = c by omega]
            rfl
          · intro hi
            have : ¬ c = 0 := fun h0 => h1 ⟨h0, hi⟩
            omega
        · rename_i h2
          obtain ⟨m, m0, mx, mt, mi⟩ := ih (i + 1) _ x t t' (fun y hy => hb y (by simp [hy])) h
          have hm := mi (by omega)
          refine ⟨c % 128 + 128 * m, by omega, ?_, ?_, fun _ => by omega⟩
          · rw [mx, Int.pow_succ]
            have := mul_step (c % 128 + 128 * m) (128 ^ i)
            rw [show (c % 128 + 128 * m) % 128 = c % 128 by omega, show (c % 128 + 128 * m) / 128 = m by omega] at this
            omega
          · simp only [cmd_vi]
            rw [if_neg (by omega), show (c % 128 + 128 * m) / 128 = m by omega, show (c % 128 + 128 * m) % 128 + 128 = c by omega, mt]
            rfl
theorem op_dec (v : Int) (hv : v = 1 ∨ v = 2) (t t' : List Int) (o : ScOp) (hb : sc_bytes t) (h : sc_op v t = .ok (o, t')) (ho : o.f2.size ≤ 64) : t = cmd_op v o ++ t' := by
  unfold sc_op at h
  split at h
  · rename_i kind k t
    have hk := hb kind (by simp)
    have hk2 := hb k (by simp)
    obtain ⟨kn, rfl⟩ := Int.eq_ofNat_of_zero_le hk2.1
    have hbt : sc_bytes t := fun y hy => hb y (by simp [hy])
    simp only [Int.toNat_natCast] at h
    rcases hv with rfl | rfl
    · rw [if_pos rfl] at h
      split at h
      · cases h
      · rename_i h1
        split at h
        · rename_i a b u hd
          have hbu : sc_bytes (a :: b :: u) := by rw [← hd]; exact sc_bytes_drop hbt _
          have ha := hbu a (by simp)
          have hb' := hbu b (by simp)
          split at h
          · cases h
          · rename_i h2
            cases h
            have hs : (strOfNums (u.take (a * 256 + b).toNat)).size = (a * 256 + b).toNat := by rw [strOfNums_size, List.length_take]; omega
            rw [hs] at ho
            obtain rfl : a = 0 := by omega
            have hs1 : (strOfNums (t.take kn)).size = kn := by rw [strOfNums_size, List.length_take]; omega
            unfold cmd_op
            rw [if_pos rfl, hs, hs1, bytes_str _ (sc_bytes_take hbt _), bytes_str _ (sc_bytes_take (fun y hy => hbu y (by simp [hy])) _)]
            have e1 : t = t.take kn ++ (0 :: b :: (u.take (0 * 256 + b).toNat ++ u.drop (0 * 256 + b).toNat)) := by rw [List.take_append_drop, ← hd, List.take_append_drop]
            conv => lhs; rw [e1]
            rw [show kind % 256 = kind by omega, show ((kn : Nat) : Int) % 256 = kn by omega, show (((0 * 256 + b).toNat : Nat) : Int) % 256 = b by omega]
            simp
        · cases h
    · rw [if_neg (by decide)] at h
      split at h
      · rename_i n u
        have hn := hbt n (by simp)
        have hbu : sc_bytes u := fun y hy => hbt y (by simp [hy])
        split at h
        · cases h
        · rename_i h1
          split at h
          · cases h
          · rename_i h2
            cases h
            have hs1 : (strOfNums (u.take kn)).size = kn := by rw [strOfNums_size, List.length_take]; omega
            have hs2 : (strOfNums ((u.drop kn).take n.toNat)).size = n.toNat := by rw [strOfNums_size, List.length_take]; omega
            unfold cmd_op
            rw [if_neg (by decide), hs1, hs2, bytes_str _ (sc_bytes_take hbu _), bytes_str _ (sc_bytes_take (sc_bytes_drop hbu _) _)]
            have e1 : u = u.take kn ++ ((u.drop kn).take n.toNat ++ (u.drop kn).drop n.toNat) := by rw [List.take_append_drop, List.take_append_drop]
            conv => lhs; rw [e1]
            rw [show kind % 256 = kind by omega, show ((kn : Nat) : Int) % 256 = kn by omega, show ((n.toNat : Nat) : Int) % 256 = n by omega]
            simp
      · cases h
  · cases h
theorem ops_dec (v : Int) (hv : v = 1 ∨ v = 2) : ∀ (n : Nat) (t t' : List Int) (os : List ScOp), sc_bytes t → sc_ops n v t = .ok (os, t') → (∀ o ∈ os, o.f2.size ≤ 64) → t = os.flatMap (cmd_op v) ++ t' ∧ os.length = n := by
  intro n
  induction n with
  | zero =>
    intro t t' os _ h _
    simp only [sc_ops] at h
    cases h
    exact ⟨rfl, rfl⟩
  | succ n ih =>
    intro t t' os hb h ho
    simp only [sc_ops] at h
    split at h
    · cases h
    · rename_i o t1 h1
      split at h
      · cases h
      · rename_i os1 u h2
        cases h
        have e1 := op_dec v hv t t1 o hb h1 (ho o (by simp))
        obtain ⟨e2, e3⟩ := ih t1 t' os1 (sc_op_bytes v t o t1 hb h1) h2 (fun x hx => ho x (by simp [hx]))
        refine ⟨?_, by simp [e3]⟩
        rw [e1]
        conv => lhs; rw [e2]
        simp
theorem vi_ne (f : Nat) (m : Int) : cmd_vi (f + 1) m ≠ [] := by
  simp only [cmd_vi]
  split <;> simp
/-- A command as octets, in a version, and what is read of them and of more. -/
theorem cmd_enc (v a b c d : Int) (l : List ScOp) (hv : v = 1 ∨ v = 2) (h : cmd_check a b c d l = 0) : sc_cmd (cmd_octets v a b c d l) = .ok (a, b, c, d, l, v) := by
  obtain ⟨h1, h2, h3, h4, h5, h6, h7, h8, h9, h10⟩ := check_more h
  have e : cmd_octets v a b c d l = v :: a :: ((if v = 1 then oct_put b (oct_sh 8) else cmd_vi 6 b) ++ (c :: d :: (l.length : Int) :: (l.flatMap (cmd_op v) ++ []))) := by
    unfold cmd_octets cmd_head
    rw [show v % 256 = v by omega, show a % 256 = a by omega, show c % 256 = c by omega, show d % 256 = d by omega, show ((l.length : Nat) : Int) % 256 = (l.length : Int) by omega]
    simp
  rw [e]
  simp only [sc_cmd]
  rw [if_neg (by omega)]
  have hmid : ∀ t, (if v = 1 then sc_fix ((if v = 1 then oct_put b (oct_sh 8) else cmd_vi 6 b) ++ t) else sc_var 6 0 0 ((if v = 1 then oct_put b (oct_sh 8) else cmd_vi 6 b) ++ t)) = .ok (b, t) := by
    intro t
    rcases hv with rfl | rfl
    · rw [if_pos rfl, if_pos rfl]
      have hl8 : (oct_put b (oct_sh 8)).length = 8 := by rw [put_eq]; rfl
      unfold sc_fix
      rw [if_neg (by rw [List.length_append, hl8]; omega), List.take_left' hl8, List.drop_left' hl8, be_put b h3 (by omega), Int.min_def, if_pos (by omega)]
    · rw [if_neg (by decide), if_neg (by decide), var_enc 6 0 0 b t h3 (by omega) (by omega) (by omega)]
      simp
  rw [hmid]
  dsimp only
  rw [Int.toNat_natCast, ops_enc v hv l [] h10]
  rfl
theorem dec_enc (v a b c d : Int) (l : List ScOp) (h : (cmd_encode v a b c d l).2 = 0) : sc_dec (cmd_encode v a b c d l).1 = (a, b, c, d, l, v, 0) := by
  have h0 := h
  unfold cmd_encode at h
  split at h
  · rename_i h1; exact absurd h h1
  · rename_i h1
    have hc : cmd_check a b c d l = 0 := Decidable.not_not.1 h1
    have hv : v = 1 ∨ v = 2 := by
      split at h
      · rename_i h2; exact .inl h2.1
      · split at h
        · rename_i h3; exact .inr h3
        · cases h
    have e1 : (cmd_encode v a b c d l).1 = cmd_octets v a b c d l := by
      unfold cmd_encode
      rw [if_neg h1]
      split
      · rfl
      · rename_i h2
        split
        · rfl
        · rename_i h3
          rw [if_neg h2, if_neg h3] at h
          cases h
    rw [e1]
    unfold sc_dec
    rw [cmd_enc v a b c d l hv hc]
    dsimp only
    rw [if_neg (not_not_intro h0)]
theorem enc_octets (v a b c d : Int) (l : List ScOp) (h : (cmd_encode v a b c d l).2 = 0) : (cmd_encode v a b c d l).1 = cmd_octets v a b c d l ∧ cmd_check a b c d l = 0 ∧ (v = 1 ∨ v = 2) := by
  unfold cmd_encode at h ⊢
  split at h
  · rename_i h1; exact absurd h h1
  · rename_i h1
    rw [if_neg h1]
    refine ⟨?_, Decidable.not_not.1 h1, ?_⟩
    · split at h
      · rename_i h2; rw [if_pos h2]
      · rename_i h2
        rw [if_neg h2]
        split at h
        · rename_i h3; rw [if_pos h3]
        · cases h
    · split at h
      · rename_i h2; exact .inl h2.1
      · split at h
        · rename_i h3; exact .inr h3
        · cases h
/-- What was read is built again of what was read. -/
theorem cmd_dec (l : List Int) (v a b c d : Int) (os : List ScOp) (hb : sc_bytes l) (h : sc_cmd l = .ok (a, b, c, d, os, v)) (hc : cmd_check a b c d os = 0) : cmd_octets v a b c d os = l := by
  obtain ⟨h1, h2, h3, h4, h5, h6, h7, h8, h9, h10⟩ := check_more hc
  cases l with
  | nil => simp [sc_cmd] at h
  | cons v0 t =>
    have bt : sc_bytes t := fun y hy => hb y (by simp [hy])
    simp only [sc_cmd] at h
    split at h
    · cases h
    · rename_i hv
      split at h
      · cases h
      · rename_i kind t1
        have bt1 : sc_bytes t1 := fun y hy => bt y (by simp [hy])
        have bk := bt kind (by simp)
        split at h
        · cases h
        · rename_i txn t2 hmid
          split at h
          · rename_i home verd cnt t3
            split at h
            · cases h
            · rename_i ops t4 hops
              split at h
              · cases h
              · rename_i h0
                cases h
                obtain rfl : t4 = [] := List.eq_nil_of_length_eq_zero (by omega)
                have hv' : v = 1 ∨ v = 2 := by omega
                have hm : t1 = (if v = 1 then oct_put b (oct_sh 8) else cmd_vi 6 b) ++ (c :: d :: cnt :: t3) := by
                  rcases hv' with rfl | rfl
                  · rw [if_pos rfl] at hmid ⊢
                    unfold sc_fix at hmid
                    split at hmid
                    · cases hmid
                    · rename_i h8'
                      have hl8 : (t1.take 8).length = 8 := by rw [List.length_take]; omega
                      have e1 : min (sc_be (t1.take 8)) 1099511627777 = b := (Prod.mk.inj (Except.ok.inj hmid)).1
                      have e2 : t1.drop 8 = c :: d :: cnt :: t3 := (Prod.mk.inj (Except.ok.inj hmid)).2
                      have e3 : sc_be (t1.take 8) = b := by rw [Int.min_def] at e1; split at e1 <;> omega
                      rw [← e3, put_be _ (sc_bytes_take bt1 8) hl8, ← e2, List.take_append_drop]
                  · rw [if_neg (by decide)] at hmid ⊢
                    obtain ⟨m, m0, mx, mt, _⟩ := var_dec 6 0 0 b t1 _ bt1 hmid
                    rw [mt]
                    congr 2
                    rw [mx]
                    simp
                have bt2 : sc_bytes (c :: d :: cnt :: t3) := by
                  intro y hy
                  exact bt1 y (by rw [hm]; exact List.mem_append_right _ hy)
                have bcnt := bt2 cnt (by simp)
                obtain ⟨e1, e2⟩ := ops_dec v hv' cnt.toNat t3 [] os (fun y hy => bt2 y (by simp [hy])) hops (fun o ho => (h10 o ho).2.2.2)
                unfold cmd_octets cmd_head
                rw [show v % 256 = v by omega, show a % 256 = a by omega, show c % 256 = c by omega, show d % 256 = d by omega, hm, e1, show ((os.length : Nat) : Int) % 256 = cnt by omega]
                simp
          · cases h
theorem enc_dec (l : List Int) (a b c d v : Int) (os : List ScOp) (hb : sc_bytes l) (h : sc_dec l = (a, b, c, d, os, v, 0)) : cmd_encode v a b c d os = (l, 0) ∨ v = 0 := by
  unfold sc_dec at h
  split at h
  · cases h; exact .inr rfl
  · rename_i a1 b1 c1 d1 os1 v1 hcmd
    split at h
    · rename_i h1
      exact absurd (congrArg (fun p => p.2.2.2.2.2.2) h) h1
    · rename_i h1
      cases h
      left
      have h2 := Decidable.not_not.1 h1
      obtain ⟨e1, e2, e3⟩ := enc_octets v a b c d os h2
      have e4 := cmd_dec l v a b c d os hb hcmd e2
      rw [← e4, ← e1, ← h2]
theorem sc_op_err : ∀ (v : Int) (t : List Int) (x : Int), sc_op v t = .error x → x = 8 := by
  intro v t x h
  unfold sc_op at h
  repeat' (first | (split at h) | (cases h; rfl) | (cases h))
theorem sc_ops_err : ∀ (n : Nat) (v : Int) (t : List Int) (x : Int), sc_ops n v t = .error x → x = 8 := by
  intro n
  induction n with
  | zero => intro v t x h; simp [sc_ops] at h
  | succ n ih =>
    intro v t x h
    simp only [sc_ops] at h
    split at h
    · rename_i y hy
      cases h
      exact sc_op_err v t x hy
    · rename_i o t1 h1
      split at h
      · rename_i y hy
        cases h
        exact ih v t1 x hy
      · cases h
theorem sc_var_err : ∀ (f i : Nat) (n : Int) (t : List Int) (x : Int), sc_var f i n t = .error x → x = 4 ∨ x = 8 := by
  intro f
  induction f with
  | zero => intro i n t x h; simp only [sc_var] at h; cases h; exact .inl rfl
  | succ f ih =>
    intro i n t x h
    cases t with
    | nil => simp only [sc_var] at h; cases h; exact .inr rfl
    | cons c t =>
      simp only [sc_var] at h
      split at h
      · cases h; exact .inl rfl
      · split at h
        · cases h
        · exact ih _ _ _ _ h
theorem sc_cmd_err (l : List Int) (x : Int) (h : sc_cmd l = .error x) : x ≠ 0 := by
  cases l with
  | nil => simp only [sc_cmd] at h; cases h; decide
  | cons v t =>
    simp only [sc_cmd] at h
    split at h
    · cases h; decide
    · split at h
      · cases h; decide
      · rename_i kind t1
        split at h
        · rename_i y hy
          cases h
          split at hy
          · unfold sc_fix at hy
            split at hy
            · cases hy; decide
            · cases hy
          · rcases sc_var_err _ _ _ _ _ hy with rfl | rfl <;> decide
        · split at h
          · split at h
            · rename_i y hy
              cases h
              rw [sc_ops_err _ _ _ _ hy]
              decide
            · split at h
              · cases h; decide
              · cases h
          · cases h; decide
theorem sc_cmd_ver (l : List Int) (a b c d : Int) (os : List ScOp) (v : Int) (h : sc_cmd l = .ok (a, b, c, d, os, v)) : v = 1 ∨ v = 2 := by
  cases l with
  | nil => simp [sc_cmd] at h
  | cons v0 t =>
    simp only [sc_cmd] at h
    split at h
    · cases h
    · rename_i hv
      split at h
      · cases h
      · split at h
        · cases h
        · split at h
          · split at h
            · cases h
            · split at h
              · cases h
              · cases h; omega
          · cases h
theorem same_bytes_l0 (l : List Int) (hl : l.length ≤ 140737488355328) (d : Nat) : ∀ (k i : Nat), i ≤ l.length → l.length - i = d → d < k → transeptplain_SameBytes.l0 k l l (i : Int) = some true := by
  induction d with
  | zero =>
    intro k i h1 h2 h3
    obtain ⟨k, rfl⟩ : ∃ m, k = m + 1 := ⟨k - 1, by omega⟩
    obtain rfl : i = l.length := by omega
    simp only [transeptplain_SameBytes.l0]
    rw [if_neg (by omega)]
  | succ d ih =>
    intro k i h1 h2 h3
    obtain ⟨k, rfl⟩ : ∃ m, k = m + 1 := ⟨k - 1, by omega⟩
    have hlt : i < l.length := by omega
    simp only [transeptplain_SameBytes.l0]
    rw [if_pos (by omega), if_pos (by omega), if_pos (by omega), if_pos trivial, wrap_next hlt hl, ih k (i + 1) (by omega) (by omega) (by omega)]
theorem same_bytes (l : List Int) (k : Nat) (hl : l.length ≤ 140737488355328) (hk : l.length < k) : transeptplain_SameBytes.f k l l = some true := by
  unfold transeptplain_SameBytes.f
  rw [if_pos rfl]
  exact same_bytes_l0 l hl l.length k 0 (by omega) (by omega) hk
theorem op_bytes (v : Int) (o : ScOp) : sc_bytes (cmd_op v o) := by
  intro x hx
  unfold cmd_op at hx
  have b1 := bytesOf_ok o.f1
  have b2 := bytesOf_ok o.f2
  simp only [List.mem_append, List.mem_cons, List.not_mem_nil, or_false] at hx
  rcases hx with (hx | hx) | hx
  · rcases hx with rfl | rfl <;> omega
  · split at hx
    · simp only [List.mem_append, List.mem_cons, List.not_mem_nil, or_false] at hx
      rcases hx with hx | rfl | rfl
      · exact b1 x hx
      · omega
      · omega
    · simp only [List.mem_append, List.mem_cons, List.not_mem_nil, or_false] at hx
      rcases hx with rfl | hx
      · omega
      · exact b1 x hx
  · exact b2 x hx
theorem vi_bytes : ∀ (f : Nat) (m : Int), sc_bytes (cmd_vi f m) := by
  intro f
  induction f with
  | zero => intro m x hx; simp [cmd_vi] at hx
  | succ f ih =>
    intro m x hx
    simp only [cmd_vi] at hx
    split at hx
    · simp only [List.mem_cons, List.not_mem_nil, or_false] at hx; subst hx; omega
    · rcases List.mem_cons.1 hx with rfl | hx
      · omega
      · exact ih _ x hx
theorem octets_bytes (v a b c d : Int) (l : List ScOp) : sc_bytes (cmd_octets v a b c d l) := by
  intro x hx
  unfold cmd_octets cmd_head at hx
  simp only [List.mem_append, List.mem_cons, List.not_mem_nil, or_false, List.mem_flatMap] at hx
  rcases hx with ((hx | hx) | hx) | ⟨o, _, hx⟩
  · rcases hx with rfl | rfl <;> omega
  · split at hx
    · simp only [oct_put, List.mem_map] at hx
      obtain ⟨s, _, rfl⟩ := hx
      omega
    · exact vi_bytes 6 b x hx
  · rcases hx with rfl | rfl | rfl <;> omega
  · exact op_bytes v o x hx
theorem encode_bytes (v a b c d : Int) (l : List ScOp) : sc_bytes (cmd_encode v a b c d l).1 := by
  unfold cmd_encode
  split
  · intro x hx; cases hx
  · split
    · exact octets_bytes _ _ _ _ _ _
    · split
      · exact octets_bytes _ _ _ _ _ _
      · intro x hx; cases hx
theorem all_bytes (l : List Int) (h : sc_bytes l) : (l.all fun x => decide (0 ≤ x ∧ x < 256)) = true := by
  rw [List.all_eq_true]
  intro x hx
  exact decide_eq_true (h x hx)
theorem decode_f (l : List Int) (h : sc_bytes l) : command_Decode.f l = some (sc_dec l) := by
  unfold command_Decode.f
  rw [if_pos (all_bytes l h)]
theorem encode_f (v a b c d : Int) (l : List ScOp) : command_Encode.f a b c d l v = some (cmd_encode v a b c d l) := rfl
theorem alive_f : transeptlaw13_alive.f 100 = some true := by decide +kernel
theorem num_f (a : Int) : transeptlaw13_num.f a = some a := rfl
theorem op_len (v : Int) (o : ScOp) (h : okop o) : (cmd_op v o).length ≤ 100 := by
  unfold cmd_op
  have l1 := bytesOf_length o.f1
  have l2 := bytesOf_length o.f2
  obtain ⟨_, _, h3, h4⟩ := h
  split <;> simp [l1, l2] <;> omega
theorem ops_len (v : Int) : ∀ (l : List ScOp), (∀ o ∈ l, okop o) → (l.flatMap (cmd_op v)).length ≤ 100 * l.length := by
  intro l
  induction l with
  | nil => intro _; simp
  | cons o l ih =>
    intro h
    have h1 := op_len v o (h o (by simp))
    have h2 := ih (fun x hx => h x (by simp [hx]))
    simp only [List.flatMap_cons, List.length_append, List.length_cons]
    omega
theorem encode_len (v a b c d : Int) (l : List ScOp) : (cmd_encode v a b c d l).1.length ≤ 2000 := by
  by_cases h : (cmd_encode v a b c d l).2 = 0
  · obtain ⟨e1, e2, e3⟩ := enc_octets v a b c d l h
    obtain ⟨_, _, _, _, _, _, _, _, h9, h10⟩ := check_more e2
    have := ops_len v l h10
    have h6 := cmd_vi_length 6 b
    have h8 : (oct_put b (oct_sh 8)).length = 8 := by rw [put_eq]; rfl
    rw [e1]
    unfold cmd_octets cmd_head
    simp only [List.length_append, List.length_cons, List.length_nil]
    split
    · rw [h8]; omega
    · omega
  · unfold cmd_encode at h ⊢
    split
    · simp
    · rename_i h1
      rw [if_neg h1] at h
      split at h
      · exact absurd rfl h
      · rename_i h2
        split at h
        · exact absurd rfl h
        · rename_i h3
          rw [if_neg h2, if_neg h3]
          simp
end Go.Proofs.Ytpjaebbgbmhneaa.Pure
