/- Written by pp.py, a program of this project that runs the kit's print over the translation, with functions proved by hand put in. Lean checks it. -/
import Derived.Test.YtpjaebbgbmhneaaPrint0
import Derived.Test.YtpjaebbgbmhneaaPrint2
import Derived.Test.YtpjaebbgbmhneaaPrint3
namespace Go.Proofs.Ytpjaebbgbmhneaa.Print
open Go.RowKit Go.Proofs.YtpjaebbgbmhneaaW.PrintWords Go.Proofs.YtpjaebbgbmhneaaW.PrintLast Go.Proofs.YtpjaebbgbmhneaaW.PrintMore
attribute [local go_sem] max2_int min2_int max_two min_two max_three min_three max_four min_four   -- for this text's walks alone
set_option linter.unusedVariables false
set_option linter.unusedSimpArgs false

/-! ### command_Encode: function 9, by hand -/
def len8tab : ByteArray := ⟨#[0,1,2,2,3,3,3,3,4,4,4,4,4,4,4,4,5,5,5,5,5,5,5,5,5,5,5,5,5,5,5,5,6,6,6,6,6,6,6,6,6,6,6,6,6,6,6,6,6,6,6,6,6,6,6,6,6,6,6,6,6,6,6,6,7,7,7,7,7,7,7,7,7,7,7,7,7,7,7,7,7,7,7,7,7,7,7,7,7,7,7,7,7,7,7,7,7,7,7,7,7,7,7,7,7,7,7,7,7,7,7,7,7,7,7,7,7,7,7,7,7,7,7,7,7,7,7,7,8,8,8,8,8,8,8,8,8,8,8,8,8,8,8,8,8,8,8,8,8,8,8,8,8,8,8,8,8,8,8,8,8,8,8,8,8,8,8,8,8,8,8,8,8,8,8,8,8,8,8,8,8,8,8,8,8,8,8,8,8,8,8,8,8,8,8,8,8,8,8,8,8,8,8,8,8,8,8,8,8,8,8,8,8,8,8,8,8,8,8,8,8,8,8,8,8,8,8,8,8,8,8,8,8,8,8,8,8,8,8,8,8,8,8,8,8,8,8,8,8,8,8,8,8,8,8,8]⟩
set_option maxRecDepth 1000000 in
theorem len8_le (i : Int) : bt len8tab i ≤ 8 := by
  have key : ∀ m : Fin 256, bt len8tab ((m : Nat) : Int) ≤ 8 := by decide +kernel
  by_cases h : i.toNat < 256
  · have := key ⟨i.toNat, h⟩
    have e : ∀ s : ByteArray, bt s ((i.toNat : Nat) : Int) = bt s i := fun s => by simp only [bt, Int.toNat_natCast]
    rw [e] at this
    exact this
  · have : bt len8tab i = 0 := by
      unfold bt
      exact dif_neg h
    omega
theorem len64_j0 (x0 x2 : Int) (h2 : 0 ≤ x2) (h3 : x2 ≤ 32) : ∃ n, bits_Len64.j0 1 x0 x2 = some n ∧ n ≤ 64 := by
  have e0 : ∀ y : Int, 0 ≤ y % 256 := fun y => Int.emod_nonneg _ (by decide)
  have e1 : ∀ y : Int, y % 256 < 256 := fun y => Int.emod_lt_of_pos _ (by decide)
  have hb : ∀ y : Int, 0 ≤ bt len8tab y := fun y => (bt_range _ _).1
  have key : bits_Len64.j0 1 x0 x2 = if x0 ≥ 65536 then (if (x0 / 65536) ≥ 256 then (if 0 ≤ (((x0 / 65536) / 256) % 256) then (if (((x0 / 65536) / 256) % 256) < 256 then (some (wrap64 ((wrap64 ((wrap64 (x2 + 16)) + 8)) + (wrap64 (bt len8tab (((x0 / 65536) / 256) % 256)))))) else (none)) else (none)) else (if 0 ≤ ((x0 / 65536) % 256) then (if ((x0 / 65536) % 256) < 256 then (some (wrap64 ((wrap64 (x2 + 16)) + (wrap64 (bt len8tab ((x0 / 65536) % 256)))))) else (none)) else (none))) else (if x0 ≥ 256 then (if 0 ≤ ((x0 / 256) % 256) then (if ((x0 / 256) % 256) < 256 then (some (wrap64 ((wrap64 (x2 + 8)) + (wrap64 (bt len8tab ((x0 / 256) % 256)))))) else (none)) else (none)) else (if 0 ≤ (x0 % 256) then (if (x0 % 256) < 256 then (some (wrap64 (x2 + (wrap64 (bt len8tab (x0 % 256)))))) else (none)) else (none))) := rfl
  rw [key]
  split <;> split <;> rw [if_pos (e0 _), if_pos (e1 _)] <;> refine ⟨_, rfl, ?_⟩ <;> unfold wrap64
  · have h8 := len8_le (((x0 / 65536) / 256) % 256)
    have h9 := hb (((x0 / 65536) / 256) % 256)
    omega
  · have h8 := len8_le ((x0 / 65536) % 256)
    have h9 := hb ((x0 / 65536) % 256)
    omega
  · have h8 := len8_le ((x0 / 256) % 256)
    have h9 := hb ((x0 / 256) % 256)
    omega
  · have h8 := len8_le (x0 % 256)
    have h9 := hb (x0 % 256)
    omega
theorem len64_le (a : Int) : ∃ n, bits_Len64.f 1 a = some n ∧ n ≤ 64 := by
  unfold bits_Len64.f
  split
  · exact len64_j0 _ _ (by decide) (by decide)
  · exact len64_j0 _ _ (by decide) (by decide)
theorem put8 (a : Int) : octets_Put.f 1 a 8 = some (oct_put a (oct_sh 8), 0) := by
  obtain ⟨n, hn, h64⟩ := len64_le a
  unfold octets_Put.f
  rw [if_neg (by decide), if_neg (by decide), hn]
  simp only [Option.bind_some]
  rw [if_neg (by omega)]
  rfl
def cmd_op (v : Int) (o : S48) : List Int := [o.f0 % 256, (o.f1.size : Int) % 256] ++ (if v = 1 then bytesOf o.f1 ++ [0, (o.f2.size : Int) % 256] else [(o.f2.size : Int) % 256] ++ bytesOf o.f1) ++ bytesOf o.f2
def cmd_head (v a b c d n : Int) : List Int := [v % 256, a % 256] ++ (if v = 1 then oct_put b (oct_sh 8) else cmd_vi 6 b) ++ [c % 256, d % 256, n % 256]
def cmd_octets (v a b c d : Int) (l : List S48) : List Int := cmd_head v a b c d l.length ++ l.flatMap (cmd_op v)
def cmd_encode (v a b c d : Int) (l : List S48) : List Int × Int :=
  if cmd_check a b c d l ≠ 0 then ([], cmd_check a b c d l) else if v = 1 ∧ a ≠ 5 ∧ l.length ≤ 4 then (cmd_octets v a b c d l, 0) else if v = 2 then (cmd_octets v a b c d l, 0) else ([], 131)
def command_Encode.f (a0_0 a0_1 a0_2 a0_3 : Int) (l0_4 : List S48) (a1 : Int) : Option (List Int × Int) := some (cmd_encode a1 a0_0 a0_1 a0_2 a0_3 l0_4)
theorem cmd_check_zero {a b c d : Int} {l : List S48} (h : cmd_check a b c d l = 0) : 0 ≤ b ∧ b ≤ 1099511627776 ∧ l.length ≤ 16 ∧ ∀ o ∈ l, o.f1.size ≤ 32 ∧ o.f2.size ≤ 64 := by
  unfold cmd_check at h
  split at h
  · omega
  split at h
  · omega
  split at h
  · omega
  split at h
  · omega
  split at h
  · omega
  rename_i h1 h2 h3 h4 h5
  have n1 : cmd_numbers a b c d = true := by simpa using h2
  unfold cmd_numbers at n1
  rw [Bool.and_eq_true, Bool.and_eq_true] at n1
  have n2 := n1.1.1
  refine ⟨?_, ?_, by omega, fun o ho => ?_⟩
  · split at n2 <;> simp at n2 <;> omega
  · split at n2 <;> simp at n2 <;> omega
  · have k1 : cmd_keyBad o = false := by
      cases hk : cmd_keyBad o with
      | false => rfl
      | true => exact absurd (List.any_eq_true.2 ⟨o, ho, hk⟩) h4
    have k2 : cmd_valBad o = false := by
      cases hk : cmd_valBad o with
      | false => rfl
      | true => exact absurd (List.any_eq_true.2 ⟨o, ho, hk⟩) h5
    simp [cmd_keyBad, cmd_valBad] at k1 k2
    omega
theorem own_cells {W : World} {base e g n cap : Nat} {xs : List Value} (h : W.ownsRow base e 1 (.slice (some ⟨g, 0, none⟩) n cap) n xs) : ∀ j u, xs[j]? = some u → W.cell? ((⟨g, 0, none⟩ : Addr).add j) = some u := by
  intro j u hj
  rcases h.2 with ⟨h0, _⟩ | ⟨g', cap', cur, h0, _, hh, _, _, _, ht⟩
  · cases h0
  · cases h0
    have e1 : (⟨g, 0, none⟩ : Addr).add j = ⟨g, j, none⟩ := add_plain g j
    rw [e1, blk_cell hh j]
    rw [← ht, List.getElem?_take] at hj
    split at hj
    · simpa using hj
    · cases hj
theorem enc_lit_new {w W : World} (hB : Below w.heap.size w W) (ys : List Int) (hl : ys.length ≤ 1000) : enc_at w.heap.size w (W.alloc (.cells (nums .u8 ys).toArray 5)) (.slice (some ⟨W.heap.size, 0, none⟩) ys.length ys.length) ys := by
  refine ⟨⟨by simp [nums], .inr ⟨W.heap.size, ys.length, (nums .u8 ys).toArray, rfl, hB.size, heap_alloc_new W _, Nat.le_refl _, by have : maxLen = 9223372036854775807 := rfl; omega, by simp [nums], by rw [Nat.mul_one]; exact List.take_of_length_le (by simp [nums])⟩⟩, hB.alloc hB.size _, by have := hB.size; simp; omega⟩
section
attribute [local go_sem ↓ 5000] builtin_shutApp
set_option maxRecDepth 100000 in
set_option maxHeartbeats 4000000 in
theorem command_Encode.calls (a0_0 : Int) (a0_1 : Int) (a0_2 : Int) (a0_3 : Int) (A0_4 : Option Addr) (c0_4 : Nat) (l0_4 : List S48) (a1 : Int) (r : List Int) (r1 : Int) (w : World) (hr0_4 : Kd.C k48 w A0_4 l0_4.length l0_4) (hc0_4 : l0_4.length ≤ c0_4) (h : command_Encode.f a0_0 a0_1 a0_2 a0_3 l0_4 a1 = some (r, r1)) :
    Calls Try.prog 9 #[.agg #[.int .i64 a0_0, .int .i64 a0_1, .int .i64 a0_2, .int .i64 a0_3, .slice A0_4 l0_4.length c0_4], .int .i64 a1] w fun e w' => ∃ v0_ : Value, e = .returned (.tuple #[v0_, .int .i64 r1]) ∧ Kd.R (Kd.int .u8) 5 w' w.heap.size (fun _ => True) v0_ r ∧ Below w.heap.size w w' := by
  have HQ := Aside0.mk (Option.some.inj h)
  clear h
  have HR := Aside0.mk hr0_4
  clear hr0_4
  obtain ⟨ch, hch⟩ : ∃ ch, cmd_check a0_0 a0_1 a0_2 a0_3 l0_4 = ch := ⟨_, rfl⟩
  have CE := Aside0.mk (fun (W : World) (h : W.heap[w.heap.size]? = some (.cells #[.int .i64 a0_0, .int .i64 a0_1, .int .i64 a0_2, .int .i64 a0_3, .slice A0_4 l0_4.length c0_4] 24 (0, 0))) => (show
      W.cell? ⟨w.heap.size, 0, none⟩ = some (.int .i64 a0_0) ∧ W.cell? ⟨w.heap.size, 1, none⟩ = some (.int .i64 a0_1) ∧ W.cell? ⟨w.heap.size, 2, none⟩ = some (.int .i64 a0_2) ∧ W.cell? ⟨w.heap.size, 3, none⟩ = some (.int .i64 a0_3) ∧ W.cell? ⟨w.heap.size, 4, none⟩ = some (.slice A0_4 l0_4.length c0_4) from
    ⟨(blk_cell h 0).trans rfl, (blk_cell h 1).trans rfl, (blk_cell h 2).trans rfl, (blk_cell h 3).trans rfl, (blk_cell h 4).trans rfl⟩))
  have N := Aside0.mk (fun (W : World) (hb : Below w.heap.size w W) => command_Check.calls a0_0 a0_1 a0_2 a0_3 A0_4 c0_4 l0_4 ch W (Kd.C_below HR.out hb) hc0_4 (by rw [← hch]; rfl))
  clear hc0_4
  have B0 := Aside0.mk (below_alloc (Below.refl w.heap.size w) (.cells #[.int .i64 a0_0, .int .i64 a0_1, .int .i64 a0_2, .int .i64 a0_3, .slice A0_4 l0_4.length c0_4] 24))
  have K0 := Aside0.mk (blk_new w (.cells #[.int .i64 a0_0, .int .i64 a0_1, .int .i64 a0_2, .int .i64 a0_3, .slice A0_4 l0_4.length c0_4] 24))
  go_enter Try.func9, Try.ntmps9
  go_wp2_with fail
  refine (N.out _ B0.out).mono ?_
  rintro e w1 ⟨rfl, B1⟩
  have K1 := Aside0.mk (blk_below K0.out B1)
  replace B1 := Aside0.mk (below_step B0.out B1)
  clear B0 K0 N
  by_cases he : ch = 0
  case neg =>
    have c1 : (ch != 0) = true := by simpa using he
    have hq := HQ.out
    unfold cmd_encode at hq
    rw [hch, if_pos he] at hq
    cases hq
    go_wp2
    refine bodyPost_ret (results_list (vs := [.slice none 0 0, .int .i64 _]) rfl (by simp) (.tmp (.tmp .nil))) rfl ?_
    exact ⟨_, rfl, Kd.R_nil _ _ _ _ _, B1.out⟩
  subst he
  obtain ⟨hb0, hb1, hlen, hops⟩ := cmd_check_zero hch
  have HO := Aside0.mk hops
  have HLN := Aside0.mk hlen
  clear hops hlen
  obtain ⟨z0, z1, z2, z3, z4⟩ := CE.out w1 K1.out
  have hlt1 : w.heap.size < w1.heap.size := blk_lt K1.out
  have E1 := Aside0.mk (enc_lit_new B1.out [a1 % 256, a0_0 % 256] (by simp))
  have KA := Aside0.mk (blk_alloc K1.out (.cells #[.int .u8 (a1 % 256), .int .u8 (a0_0 % 256)] 5))
  have BA := Aside0.mk (below_alloc B1.out (.cells #[.int .u8 (a1 % 256), .int .u8 (a0_0 % 256)] 5))
  have ways : (a1 = 1 ∧ a0_0 ≠ 5 ∧ l0_4.length ≤ 4) ∨ a1 = 2 ∨ (a1 = 1 ∧ a0_0 = 5) ∨ (a1 = 1 ∧ a0_0 ≠ 5 ∧ ¬ l0_4.length ≤ 4) ∨ (a1 ≠ 1 ∧ a1 ≠ 2) := by omega
  have HE := Aside0.mk (show cmd_encode a1 a0_0 a0_1 a0_2 a0_3 l0_4 = if a1 = 1 ∧ a0_0 ≠ 5 ∧ l0_4.length ≤ 4 then (cmd_octets a1 a0_0 a0_1 a0_2 a0_3 l0_4, 0) else if a1 = 2 then (cmd_octets a1 a0_0 a0_1 a0_2 a0_3 l0_4, 0) else ([], 131) from by unfold cmd_encode; rw [if_neg (not_not_intro hch)])
  have c1 : ((0 : Int) != 0) = false := rfl
  rcases ways with ⟨v1, v2, v3⟩ | v1 | ⟨v1, v2⟩ | ⟨v1, v2, v3⟩ | ⟨v1, v2⟩
  case inl =>
    have hq := HQ.out
    rw [HE.out, if_pos ⟨v1, v2, v3⟩] at hq
    subst v1
    have hc5 : (a0_0 != 5) = true := by simpa using v2
    have hc4 : decide ((l0_4.length : Int) ≤ 4) = true := decide_eq_true (by omega)
    have hcv : a0_1 % 18446744073709551616 = a0_1 := by omega
    have P8 := Aside0.mk (fun W => octets_Put.calls 1 a0_1 8 _ _ W (put8 a0_1))
    clear v2 v3
    have E1' := Aside0.mk (show enc_at w.heap.size w (w1.alloc (.cells #[.int .u8 1, .int .u8 (a0_0 % 256)] 5)) (.slice (some ⟨w1.heap.size, 0, none⟩) 2 2) [1, a0_0 % 256] from E1.out)
    have KA' := Aside0.mk (blk_alloc K1.out (.cells #[.int .u8 1, .int .u8 (a0_0 % 256)] 5))
    clear E1 KA BA
    go_wp2_with fail
    refine (P8.out _).mono ?_
    rintro e w2 ⟨v0, rfl, hR8, hB8⟩
    have ho8 := Kd.own_of_R hR8
    have len8 : (oct_put a0_1 (oct_sh 8)).length = 8 := by simp [oct_put, oct_sh]
    rw [len8] at ho8
    obtain ⟨g8, cap8, rfl⟩ := ownsRow_succ ho8
    obtain ⟨g3, cap3, w3, hrun3, hat3, hk3, _⟩ := enc_app (enc_at_below E1'.out hB8) ⟨g8, 0, none⟩ 8 cap8 (oct_put a0_1 (oct_sh 8)) len8 (own_cells ho8) (by simp) (by simp)
    have K3 := Aside0.mk (hk3 _ _ _ (by decide) (blk_below KA'.out hB8))
    have K2 := Aside0.mk (blk_below KA'.out hB8)
    obtain ⟨xs3, hxs3⟩ : ∃ z, [1, a0_0 % 256] ++ oct_put a0_1 (oct_sh 8) = z := ⟨_, rfl⟩
    have hl3 : ([1, a0_0 % 256] : List Int).length + 8 = xs3.length := by rw [← hxs3, List.length_append, len8]
    rw [hl3] at hrun3 hat3
    rw [hxs3] at hat3
    have E3 := Aside0.mk hat3
    have HL3 := Aside0.mk (show xs3.length ≤ 100 from by rw [← hl3]; simp)
    have HY0 := Aside0.mk (show (xs3 ++ [a0_2 % 256, a0_3 % 256, (l0_4.length : Int) % 256]) ++ (l0_4.drop 0).flatMap (cmd_op 1) = r from by
      have hq1 : cmd_octets 1 a0_0 a0_1 a0_2 a0_3 l0_4 = r := congrArg Prod.fst hq
      rw [← hq1, ← hxs3]
      simp [cmd_octets, cmd_head])
    obtain rfl : r1 = 0 := (congrArg Prod.snd hq).symm
    clear hc4 hq hR8 hB8 ho8 len8 hat3 hk3 hl3 hxs3 E1' KA' P8
    have hrun3' : (shutApp #[26, 26] 26 #[.slice (some ⟨w1.heap.size, 0, none⟩) 2 2, .slice (some ⟨g8, 0, none⟩) 8 cap8]).run Try.prog w2 = .ok (.value (.slice (some ⟨g3, 0, none⟩) xs3.length cap3)) w3 := hrun3
    clear hrun3
    obtain ⟨g4, cap4, w4, hrun4, hat4, hk4⟩ := enc_lit E3.out [a0_2 % 256, a0_3 % 256, (l0_4.length : Int) % 256] (by simp) (by have := HL3.out; simp; omega)
    have hrun4' : (shutApp #[26, 26] 26 #[.slice (some ⟨g3, 0, none⟩) xs3.length cap3, .slice (some ⟨w3.heap.size, 0, none⟩) 3 3]).run Try.prog (w3.alloc (.cells #[.int .u8 (a0_2 % 256), .int .u8 (a0_3 % 256), .int .u8 ((l0_4.length : Int) % 256)] 5)) = .ok (.value (.slice (some ⟨g4, 0, none⟩) (xs3.length + 3) cap4)) w4 := hrun4
    clear hrun4
    have K4 := Aside0.mk (hk4 _ _ _ (by decide) K3.out)
    have E4 := Aside0.mk hat4
    clear hat4 hk4 z0 z1 z2 z3 z4
    obtain ⟨z0, z1, z2, z3, z4⟩ := CE.out w3 K3.out
    obtain ⟨y0, y1, y2, y3, y4⟩ := CE.out w4 K4.out
    go_wp2
    go_loopw [7, 70] (fun v7 v70 wr => ∃ (m : Nat) (ys : List Int) (g cap : Nat), m ≤ l0_4.length ∧ v7 = .slice (some ⟨g, 0, none⟩) ys.length cap ∧ v70 = .int .i64 m ∧ Aside0 (enc_at w.heap.size w wr (.slice (some ⟨g, 0, none⟩) ys.length cap) ys) ∧ Aside0 (wr.heap[w.heap.size]? = some (.cells #[.int .i64 a0_0, .int .i64 a0_1, .int .i64 a0_2, .int .i64 a0_3, .slice A0_4 l0_4.length c0_4] 24 (0, 0))) ∧ Aside0 (ys ++ (l0_4.drop m).flatMap (cmd_op 1) = r) ∧ Aside0 (ys.length ≤ 200 + 200 * m)) (fun _ v70 _ => l0_4.length - (intOf v70).toNat)
    case atStart =>
      refine ⟨0, _, g4, cap4, Nat.zero_le _, ?_, rfl, ⟨?_⟩, K4, HY0, ⟨?_⟩⟩
      · rw [List.length_append]; rfl
      · rw [List.length_append]; exact E4.out
      · have := HL3.out; simp; omega
    case round =>
      obtain ⟨m, ys, g, cap, hm, rfl, rfl, HA, HK, HY, HLy⟩ := hrel
      by_cases hlt : m < l0_4.length
      · obtain ⟨ad, rfl, x0, x1, x2⟩ := at_T48 (Kd.C_below HR.out HA.out.2.1) (m : Int) (by omega) (by omega)
        rw [Int.toNat_natCast] at x0 x1 x2
        obtain ⟨o, ho⟩ : ∃ o, rd_T48 l0_4 (m : Int) = o := ⟨_, rfl⟩
        rw [ho] at x0 x1 x2
        have hget : l0_4[m] = o := by rw [← ho]; simp [rd_T48, List.getD_eq_getElem?_getD, List.getElem?_eq_getElem hlt]
        have hsz := HO.out o (by rw [← hget]; exact List.getElem_mem hlt)
        have HS := Aside0.mk hsz
        have HD := Aside0.mk (show l0_4.drop m = o :: l0_4.drop (m + 1) from by rw [List.drop_eq_getElem_cons hlt, hget])
        have hmul : m ≤ 16 := by have := HLN.out; omega
        clear ho hget hsz
        obtain ⟨g1, cap1, u1, hr1, ha1, hk1⟩ := enc_lit (enc_at_alloc HA.out (.cells #[.int .i64 o.f0, .string o.f1, .string o.f2] 48)) [o.f0 % 256, (o.f1.size : Int) % 256] (by simp) (by have := HLy.out; simp; omega)
        have hr1' : (shutApp #[26, 26] 26 #[.slice (some ⟨g, 0, none⟩) ys.length cap, .slice (some ⟨wr.heap.size + 1, 0, none⟩) 2 2]).run Try.prog ((wr.alloc (.cells #[.int .i64 o.f0, .string o.f1, .string o.f2] 48)).alloc (.cells #[.int .u8 (o.f0 % 256), .int .u8 ((o.f1.size : Int) % 256)] 5)) = .ok (.value (.slice (some ⟨g1, 0, none⟩) (ys.length + 2) cap1)) u1 := by
          have := hr1
          rw [World.size_alloc] at this
          exact this
        have kb1 := hk1 _ _ _ (by decide) (blk_new wr (.cells #[.int .i64 o.f0, .string o.f1, .string o.f2] 48))
        have KC1 := Aside0.mk (hk1 _ _ _ (by decide) (blk_alloc HK.out (.cells #[.int .i64 o.f0, .string o.f1, .string o.f2] 48)))
        obtain ⟨ys1, hys1⟩ : ∃ z, ys ++ [o.f0 % 256, (o.f1.size : Int) % 256] = z := ⟨_, rfl⟩
        have hl1 : ys.length + 2 = ys1.length := by rw [← hys1, List.length_append]; rfl
        rw [hl1] at hr1'
        have A1 := Aside0.mk (show enc_at w.heap.size w u1 (.slice (some ⟨g1, 0, none⟩) ys1.length cap1) ys1 from by rw [← hl1, ← hys1]; exact ha1)
        have Q1 := Aside0.mk kb1
        have b0 : u1.cell? ⟨wr.heap.size, 0, none⟩ = some (.int .i64 o.f0) := (blk_cell kb1 0).trans rfl
        have b1 : u1.cell? ⟨wr.heap.size, 1, none⟩ = some (.string o.f1) := (blk_cell kb1 1).trans rfl
        have b2 : u1.cell? ⟨wr.heap.size, 2, none⟩ = some (.string o.f2) := (blk_cell kb1 2).trans rfl
        have hbu : wr.heap.size < u1.heap.size := blk_lt kb1
        have hy1 : ys1.length ≤ 202 + 200 * m := by have := HLy.out; omega
        have HY1 := Aside0.mk hys1
        have HL1 := Aside0.mk hy1
        have HL1' := Aside0.mk hl1
        clear hr1 ha1 hk1 kb1 hys1 hl1 hy1
        obtain ⟨g2, cap2, u2, hr2, ha2, hk2, _⟩ := enc_str (enc_at_drew A1.out) o.f1 (by have := HL1'.out; omega) (by have := HL1.out; have := HS.out; omega)
        obtain ⟨ys2, hys2⟩ : ∃ z, ys1 ++ bytesOf o.f1 = z := ⟨_, rfl⟩
        have hl2 : ys1.length + o.f1.size = ys2.length := by rw [← hys2, List.length_append, bytesOf_length]
        have hy2 : ys2.length ≤ 234 + 200 * m := by have := HL1.out; have := HS.out; omega
        have hp2 : 0 < ys2.length := by have := HL1'.out; omega
        rw [hl2] at hr2 ha2
        rw [hys2] at ha2
        obtain ⟨g2', cap2', u2', hr2', ha2', hk2', ho2'⟩ := enc_str (enc_at_drew (enc_at_alloc A1.out (.cells #[.int .u8 0, .int .u8 ((o.f2.size : Int) % 256)] 5))) o.f1 (by have := HL1'.out; omega) (by have := HL1.out; have := HS.out; omega)
        rw [hl2] at hr2' ha2'
        rw [hys2] at ha2'
        obtain ⟨g3, cap3, u3, hr3, ha3, hk3⟩ := enc_lit ha2 [0, (o.f2.size : Int) % 256] (by omega) (by simp; omega)
        have hr3' : (shutApp #[26, 26] 26 #[.slice (some ⟨g2, 0, none⟩) ys2.length cap2, .slice (some ⟨u2.heap.size, 0, none⟩) 2 2]).run Try.prog (u2.alloc (.cells #[.int .u8 0, .int .u8 ((o.f2.size : Int) % 256)] 5)) = .ok (.value (.slice (some ⟨g3, 0, none⟩) (ys2.length + 2) cap3)) u3 := hr3
        clear hr3
        have hlit : u2'.heap[u1.heap.size]? = some (.cells #[.int .u8 0, .int .u8 ((o.f2.size : Int) % 256)] 5 (0, 0)) := ho2' _ _ (blk_drew (blk_new u1 _)) (by have := enc_at_lt A1.out; simp [Value.ownBlock]; omega)
        obtain ⟨g4, cap4, u4, hr4, ha4, hk4, _⟩ := enc_app ha2' ⟨u1.heap.size, 0, none⟩ 2 2 [0, (o.f2.size : Int) % 256] rfl (fun j u hj => by
          have e1 : (⟨u1.heap.size, 0, none⟩ : Addr).add j = ⟨u1.heap.size, j, none⟩ := add_plain _ j
          rw [e1, blk_cell hlit j]
          simpa [nums] using hj) (by omega) (by omega)
        obtain ⟨ys3, hys3⟩ : ∃ z, ys2 ++ [0, (o.f2.size : Int) % 256] = z := ⟨_, rfl⟩
        have hl3 : ys2.length + 2 = ys3.length := by rw [← hys3, List.length_append]; rfl
        rw [hl3] at hr3' hr4
        have A3 := Aside0.mk (show enc_at w.heap.size w u3 (.slice (some ⟨g3, 0, none⟩) ys3.length cap3) ys3 from by rw [← hl3, ← hys3]; exact ha3)
        have A4 := Aside0.mk (show enc_at w.heap.size w u4 (.slice (some ⟨g4, 0, none⟩) ys3.length cap4) ys3 from by rw [← hl3, ← hys3]; exact ha4)
        have kk3 : enc_keep u1 u3 := enc_keep_trans (fun b c t ht hb => hk2 b c t ht (blk_drew hb)) hk3
        have kk4 : enc_keep u1 u4 := enc_keep_trans (fun b c t ht hb => hk2' b c t ht (blk_drew (blk_alloc hb _))) hk4
        have kb2 := hk2 _ _ _ (by decide) (blk_drew Q1.out)
        have kb2' := hk2' _ _ _ (by decide) (blk_drew (blk_alloc Q1.out _))
        have hy3 : ys3.length ≤ 236 + 200 * m := by omega
        have hp3 : 0 < ys3.length := by omega
        have HX := Aside0.mk (show ys3 ++ bytesOf o.f2 = ys ++ cmd_op 1 o from by rw [← hys3, ← hys2, ← HY1.out]; simp [cmd_op])
        have c0' : u2.cell? ⟨wr.heap.size, 0, none⟩ = some (.int .i64 o.f0) := (blk_cell kb2 0).trans rfl
        have c1' : u2.cell? ⟨wr.heap.size, 1, none⟩ = some (.string o.f1) := (blk_cell kb2 1).trans rfl
        have c2' : u2.cell? ⟨wr.heap.size, 2, none⟩ = some (.string o.f2) := (blk_cell kb2 2).trans rfl
        have d1' : u2'.cell? ⟨wr.heap.size, 1, none⟩ = some (.string o.f1) := (blk_cell kb2' 1).trans rfl
        have d2' : u2'.cell? ⟨wr.heap.size, 2, none⟩ = some (.string o.f2) := (blk_cell kb2' 2).trans rfl
        have kq3 := kk3 _ _ _ (by decide) Q1.out
        have kq4 := kk4 _ _ _ (by decide) Q1.out
        have e2' : u3.cell? ⟨wr.heap.size, 2, none⟩ = some (.string o.f2) := (blk_cell kq3 2).trans rfl
        have f2' : u4.cell? ⟨wr.heap.size, 2, none⟩ = some (.string o.f2) := (blk_cell kq4 2).trans rfl
        have KC3 := Aside0.mk (kk3 _ _ _ (by decide) KC1.out)
        have KC4 := Aside0.mk (kk4 _ _ _ (by decide) KC1.out)
        have HL3' := Aside0.mk hy3
        have HP3 := Aside0.mk hp3
        clear hl2 hys2 hy2 hp2 ha2 hk2 ha2' hk2' ho2' ha3 hk3 hlit ha4 hk4 hys3 hl3 kk3 kk4 kb2 kb2' hy3 hp3 kq3 kq4
        obtain ⟨g5, cap5, u5, hr5, ha5, hk5, _⟩ := enc_str A3.out o.f2 (by have := HP3.out; omega) (by have := HL3'.out; have := HS.out; omega)
        obtain ⟨g6, cap6, u6, hr6, ha6, hk6, _⟩ := enc_str A4.out o.f2 (by have := HP3.out; omega) (by have := HL3'.out; have := HS.out; omega)
        obtain ⟨ys5, hys5⟩ : ∃ z, ys3 ++ bytesOf o.f2 = z := ⟨_, rfl⟩
        have hl5 : ys3.length + o.f2.size = ys5.length := by rw [← hys5, List.length_append, bytesOf_length]
        rw [hl5] at hr5 ha5 hr6 ha6
        rw [hys5] at ha5 ha6
        have HF5 := Aside0.mk (show enc_at w.heap.size w u5 (.slice (some ⟨g5, 0, none⟩) ys5.length cap5) ys5 ∧ u5.heap[w.heap.size]? = _ from ⟨ha5, hk5 _ _ _ (by decide) KC3.out⟩)
        have HF6 := Aside0.mk (show enc_at w.heap.size w u6 (.slice (some ⟨g6, 0, none⟩) ys5.length cap6) ys5 ∧ u6.heap[w.heap.size]? = _ from ⟨ha6, hk6 _ _ _ (by decide) KC4.out⟩)
        have HX5 := Aside0.mk (show ys5 ++ (l0_4.drop (m + 1)).flatMap (cmd_op 1) = r ∧ ys5.length ≤ 200 + 200 * (m + 1) from by
          constructor
          · rw [← hys5, HX.out, ← HY.out, HD.out]; simp
          · have := HL3'.out; have := HS.out; omega)
        clear hl5 hys5 ha5 ha6 hk5 hk6
        go_wp2
        go_region
        · go_wp2
          go_roundw
          case rel => exact ⟨m + 1, ys5, g5, cap5, by omega, rfl, by go_num, ⟨HF5.out.1⟩, ⟨HF5.out.2⟩, ⟨HX5.out.1⟩, ⟨HX5.out.2⟩⟩
          case measure => simp [intOf]; omega
        · go_wp2
          go_roundw
          case rel => exact ⟨m + 1, ys5, g6, cap6, by omega, rfl, by go_num, ⟨HF6.out.1⟩, ⟨HF6.out.2⟩, ⟨HX5.out.1⟩, ⟨HX5.out.2⟩⟩
          case measure => simp [intOf]; omega
      · obtain rfl : m = l0_4.length := by omega
        clear hlt
        have hfin := HY.out
        rw [List.drop_length] at hfin
        simp at hfin
        subst hfin
        go_wp2
        refine bodyPost_ret (results_list (vs := [.slice (some ⟨g, 0, none⟩) ys.length cap, .int .i64 0]) rfl (by simp) (.tmp (.tmp .nil))) rfl ?_
        exact ⟨_, rfl, Kd.R_of_own HA.out.1 (fun _ _ => trivial), HA.out.2.1⟩
  case inr.inl =>
    subst v1
    have hq := HQ.out
    rw [HE.out, if_neg (by omega), if_pos rfl] at hq
    have E1' := Aside0.mk (show enc_at w.heap.size w (w1.alloc (.cells #[.int .u8 2, .int .u8 (a0_0 % 256)] 5)) (.slice (some ⟨w1.heap.size, 0, none⟩) 2 2) [2, a0_0 % 256] from E1.out)
    have KA' := Aside0.mk (blk_alloc K1.out (.cells #[.int .u8 2, .int .u8 (a0_0 % 256)] 5))
    clear E1 KA BA
    have CV := Aside0.mk (cmd_varint E1'.out (by simp) a0_1 hb0 (by omega))
    clear hb0 hb1
    go_wp2_with fail
    refine CV.out.mono ?_
    rintro e w3 ⟨g3, cap3, rfl, hat3, hk3⟩
    have K3 := Aside0.mk (hk3 _ _ _ (by decide) KA'.out)
    obtain ⟨xs3, hxs3⟩ : ∃ z, [2, a0_0 % 256] ++ cmd_vi 6 a0_1 = z := ⟨_, rfl⟩
    rw [hxs3] at hat3
    rw [hxs3]
    have E3 := Aside0.mk hat3
    have HL3 := Aside0.mk (show xs3.length ≤ 100 from by rw [← hxs3]; have := cmd_vi_length 6 a0_1; simp; omega)
    have HY0 := Aside0.mk (show (xs3 ++ [a0_2 % 256, a0_3 % 256, (l0_4.length : Int) % 256]) ++ (l0_4.drop 0).flatMap (cmd_op 2) = r from by
      have hq1 : cmd_octets 2 a0_0 a0_1 a0_2 a0_3 l0_4 = r := congrArg Prod.fst hq
      rw [← hq1, ← hxs3]
      simp [cmd_octets, cmd_head])
    obtain rfl : r1 = 0 := (congrArg Prod.snd hq).symm
    clear hq hat3 hk3 hxs3 E1' KA' CV
    obtain ⟨g4, cap4, w4, hrun4, hat4, hk4⟩ := enc_lit E3.out [a0_2 % 256, a0_3 % 256, (l0_4.length : Int) % 256] (by simp) (by have := HL3.out; simp; omega)
    have hrun4' : (shutApp #[26, 26] 26 #[.slice (some ⟨g3, 0, none⟩) xs3.length cap3, .slice (some ⟨w3.heap.size, 0, none⟩) 3 3]).run Try.prog (w3.alloc (.cells #[.int .u8 (a0_2 % 256), .int .u8 (a0_3 % 256), .int .u8 ((l0_4.length : Int) % 256)] 5)) = .ok (.value (.slice (some ⟨g4, 0, none⟩) (xs3.length + 3) cap4)) w4 := hrun4
    clear hrun4
    have K4 := Aside0.mk (hk4 _ _ _ (by decide) K3.out)
    have E4 := Aside0.mk hat4
    clear hat4 hk4 z0 z1 z2 z3 z4
    obtain ⟨z0, z1, z2, z3, z4⟩ := CE.out w3 K3.out
    obtain ⟨y0, y1, y2, y3, y4⟩ := CE.out w4 K4.out
    go_wp2
    go_loopw [7, 70] (fun v7 v70 wr => ∃ (m : Nat) (ys : List Int) (g cap : Nat), m ≤ l0_4.length ∧ v7 = .slice (some ⟨g, 0, none⟩) ys.length cap ∧ v70 = .int .i64 m ∧ Aside0 (enc_at w.heap.size w wr (.slice (some ⟨g, 0, none⟩) ys.length cap) ys) ∧ Aside0 (wr.heap[w.heap.size]? = some (.cells #[.int .i64 a0_0, .int .i64 a0_1, .int .i64 a0_2, .int .i64 a0_3, .slice A0_4 l0_4.length c0_4] 24 (0, 0))) ∧ Aside0 (ys ++ (l0_4.drop m).flatMap (cmd_op 2) = r) ∧ Aside0 (ys.length ≤ 200 + 200 * m)) (fun _ v70 _ => l0_4.length - (intOf v70).toNat)
    case atStart =>
      refine ⟨0, _, g4, cap4, Nat.zero_le _, ?_, rfl, ⟨?_⟩, K4, HY0, ⟨?_⟩⟩
      · rw [List.length_append]; rfl
      · rw [List.length_append]; exact E4.out
      · have := HL3.out; simp; omega
    case round =>
      obtain ⟨m, ys, g, cap, hm, rfl, rfl, HA, HK, HY, HLy⟩ := hrel
      by_cases hlt : m < l0_4.length
      · obtain ⟨ad, rfl, x0, x1, x2⟩ := at_T48 (Kd.C_below HR.out HA.out.2.1) (m : Int) (by omega) (by omega)
        rw [Int.toNat_natCast] at x0 x1 x2
        obtain ⟨o, ho⟩ : ∃ o, rd_T48 l0_4 (m : Int) = o := ⟨_, rfl⟩
        rw [ho] at x0 x1 x2
        have hget : l0_4[m] = o := by rw [← ho]; simp [rd_T48, List.getD_eq_getElem?_getD, List.getElem?_eq_getElem hlt]
        have hsz := HO.out o (by rw [← hget]; exact List.getElem_mem hlt)
        have HS := Aside0.mk hsz
        have HD := Aside0.mk (show l0_4.drop m = o :: l0_4.drop (m + 1) from by rw [List.drop_eq_getElem_cons hlt, hget])
        have hmul : m ≤ 16 := by have := HLN.out; omega
        clear ho hget hsz
        obtain ⟨g1, cap1, u1, hr1, ha1, hk1⟩ := enc_lit (enc_at_alloc HA.out (.cells #[.int .i64 o.f0, .string o.f1, .string o.f2] 48)) [o.f0 % 256, (o.f1.size : Int) % 256] (by simp) (by have := HLy.out; simp; omega)
        have hr1' : (shutApp #[26, 26] 26 #[.slice (some ⟨g, 0, none⟩) ys.length cap, .slice (some ⟨wr.heap.size + 1, 0, none⟩) 2 2]).run Try.prog ((wr.alloc (.cells #[.int .i64 o.f0, .string o.f1, .string o.f2] 48)).alloc (.cells #[.int .u8 (o.f0 % 256), .int .u8 ((o.f1.size : Int) % 256)] 5)) = .ok (.value (.slice (some ⟨g1, 0, none⟩) (ys.length + 2) cap1)) u1 := by
          have := hr1
          rw [World.size_alloc] at this
          exact this
        have kb1 := hk1 _ _ _ (by decide) (blk_new wr (.cells #[.int .i64 o.f0, .string o.f1, .string o.f2] 48))
        have KC1 := Aside0.mk (hk1 _ _ _ (by decide) (blk_alloc HK.out (.cells #[.int .i64 o.f0, .string o.f1, .string o.f2] 48)))
        obtain ⟨ys1, hys1⟩ : ∃ z, ys ++ [o.f0 % 256, (o.f1.size : Int) % 256] = z := ⟨_, rfl⟩
        have hl1 : ys.length + 2 = ys1.length := by rw [← hys1, List.length_append]; rfl
        rw [hl1] at hr1'
        have A1 := Aside0.mk (show enc_at w.heap.size w u1 (.slice (some ⟨g1, 0, none⟩) ys1.length cap1) ys1 from by rw [← hl1, ← hys1]; exact ha1)
        have Q1 := Aside0.mk kb1
        have b0 : u1.cell? ⟨wr.heap.size, 0, none⟩ = some (.int .i64 o.f0) := (blk_cell kb1 0).trans rfl
        have b1 : u1.cell? ⟨wr.heap.size, 1, none⟩ = some (.string o.f1) := (blk_cell kb1 1).trans rfl
        have b2 : u1.cell? ⟨wr.heap.size, 2, none⟩ = some (.string o.f2) := (blk_cell kb1 2).trans rfl
        have hbu : wr.heap.size < u1.heap.size := blk_lt kb1
        have hy1 : ys1.length ≤ 202 + 200 * m := by have := HLy.out; omega
        have HY1 := Aside0.mk hys1
        have HL1 := Aside0.mk hy1
        have HL1' := Aside0.mk hl1
        clear hr1 ha1 hk1 kb1 hys1 hl1 hy1
        obtain ⟨g2, cap2, u2, hr2, ha2, hk2⟩ := enc_litd A1.out [(o.f2.size : Int) % 256] (by have := HL1'.out; simp) (by have := HL1.out; simp; omega)
        have hr2' : (shutApp #[26, 26] 26 #[.slice (some ⟨g1, 0, none⟩) ys1.length cap1, .slice (some ⟨u1.heap.size, 0, none⟩) 1 1]).run Try.prog (u1.alloc (.cells #[.int .u8 ((o.f2.size : Int) % 256)] 5)).drew = .ok (.value (.slice (some ⟨g2, 0, none⟩) (ys1.length + 1) cap2)) u2 := hr2
        clear hr2
        obtain ⟨ys2, hys2⟩ : ∃ z, ys1 ++ [(o.f2.size : Int) % 256] = z := ⟨_, rfl⟩
        have hl2 : ys1.length + 1 = ys2.length := by rw [← hys2, List.length_append]; rfl
        have hy2 : ys2.length ≤ 203 + 200 * m := by have := HL1.out; omega
        rw [hl2] at hr2'
        have A2 := Aside0.mk (show enc_at w.heap.size w u2 (.slice (some ⟨g2, 0, none⟩) ys2.length cap2) ys2 from by rw [← hl2, ← hys2]; exact ha2)
        obtain ⟨g3, cap3, u3, hr3, ha3, hk3, _⟩ := enc_str A2.out o.f1 (by omega) (by have := HS.out; omega)
        obtain ⟨ys3, hys3⟩ : ∃ z, ys2 ++ bytesOf o.f1 = z := ⟨_, rfl⟩
        have hl3 : ys2.length + o.f1.size = ys3.length := by rw [← hys3, List.length_append, bytesOf_length]
        rw [hl3] at hr3 ha3
        rw [hys3] at ha3
        have A3 := Aside0.mk ha3
        have kb2 := hk2 _ _ _ (by decide) Q1.out
        have kk3 : enc_keep u1 u3 := enc_keep_trans hk2 hk3
        have hy3 : ys3.length ≤ 236 + 200 * m := by have := HS.out; omega
        have hp3 : 0 < ys3.length := by omega
        have HX := Aside0.mk (show ys3 ++ bytesOf o.f2 = ys ++ cmd_op 2 o from by rw [← hys3, ← hys2, ← HY1.out]; simp [cmd_op])
        have c0' : u2.cell? ⟨wr.heap.size, 0, none⟩ = some (.int .i64 o.f0) := (blk_cell kb2 0).trans rfl
        have c1' : u2.cell? ⟨wr.heap.size, 1, none⟩ = some (.string o.f1) := (blk_cell kb2 1).trans rfl
        have c2' : u2.cell? ⟨wr.heap.size, 2, none⟩ = some (.string o.f2) := (blk_cell kb2 2).trans rfl
        have kq3 := kk3 _ _ _ (by decide) Q1.out
        have e2' : u3.cell? ⟨wr.heap.size, 2, none⟩ = some (.string o.f2) := (blk_cell kq3 2).trans rfl
        have KC3 := Aside0.mk (kk3 _ _ _ (by decide) KC1.out)
        have HL3' := Aside0.mk hy3
        have HP3 := Aside0.mk hp3
        clear hl2 hys2 hy2 ha2 hk2 ha3 hk3 hys3 hl3 kk3 kb2 hy3 hp3 kq3
        obtain ⟨g5, cap5, u5, hr5, ha5, hk5, _⟩ := enc_str A3.out o.f2 (by have := HP3.out; omega) (by have := HL3'.out; have := HS.out; omega)
        obtain ⟨ys5, hys5⟩ : ∃ z, ys3 ++ bytesOf o.f2 = z := ⟨_, rfl⟩
        have hl5 : ys3.length + o.f2.size = ys5.length := by rw [← hys5, List.length_append, bytesOf_length]
        rw [hl5] at hr5 ha5
        rw [hys5] at ha5
        have HF5 := Aside0.mk (show enc_at w.heap.size w u5 (.slice (some ⟨g5, 0, none⟩) ys5.length cap5) ys5 ∧ u5.heap[w.heap.size]? = _ from ⟨ha5, hk5 _ _ _ (by decide) KC3.out⟩)
        have HX5 := Aside0.mk (show ys5 ++ (l0_4.drop (m + 1)).flatMap (cmd_op 2) = r ∧ ys5.length ≤ 200 + 200 * (m + 1) from by
          constructor
          · rw [← hys5, HX.out, ← HY.out, HD.out]; simp
          · have := HL3'.out; have := HS.out; omega)
        clear hl5 hys5 ha5 hk5
        go_wp2
        go_region
        · go_wp2
          go_roundw
          case rel => exact ⟨m + 1, ys5, g5, cap5, by omega, rfl, by go_num, ⟨HF5.out.1⟩, ⟨HF5.out.2⟩, ⟨HX5.out.1⟩, ⟨HX5.out.2⟩⟩
          case measure => simp [intOf]; omega
      · obtain rfl : m = l0_4.length := by omega
        clear hlt
        have hfin := HY.out
        rw [List.drop_length] at hfin
        simp at hfin
        subst hfin
        go_wp2
        refine bodyPost_ret (results_list (vs := [.slice (some ⟨g, 0, none⟩) ys.length cap, .int .i64 0]) rfl (by simp) (.tmp (.tmp .nil))) rfl ?_
        exact ⟨_, rfl, Kd.R_of_own HA.out.1 (fun _ _ => trivial), HA.out.2.1⟩
  case inr.inr.inl =>
    have hq := HQ.out
    rw [HE.out, if_neg (by omega), if_neg (by omega)] at hq
    cases hq
    have x1 : (a1 == 1) = true := by simpa using v1
    have x2 : (a1 == 2) = false := by simp; omega
    have x3 : (a0_0 != 5) = false := by simpa using v2
    go_wp2
    refine bodyPost_ret (results_list (vs := [.slice none 0 0, .int .i64 _]) rfl (by simp) (.tmp (.tmp .nil))) rfl ?_
    exact ⟨_, rfl, Kd.R_nil _ _ _ _ _, below_alloc B1.out _⟩
  case inr.inr.inr.inl =>
    have hq := HQ.out
    rw [HE.out, if_neg (by omega), if_neg (by omega)] at hq
    cases hq
    have x1 : (a1 == 1) = true := by simpa using v1
    have x2 : (a1 == 2) = false := by simp; omega
    have x3 : (a0_0 != 5) = true := by simpa using v2
    have x4 : decide ((l0_4.length : Int) ≤ 4) = false := decide_eq_false (by omega)
    go_wp2
    refine bodyPost_ret (results_list (vs := [.slice none 0 0, .int .i64 _]) rfl (by simp) (.tmp (.tmp .nil))) rfl ?_
    exact ⟨_, rfl, Kd.R_nil _ _ _ _ _, below_alloc B1.out _⟩
  case inr.inr.inr.inr =>
    have hq := HQ.out
    rw [HE.out, if_neg (by omega), if_neg (by omega)] at hq
    cases hq
    have x1 : (a1 == 1) = false := by simpa using v1
    have x2 : (a1 == 2) = false := by simpa using v2
    go_wp2
    refine bodyPost_ret (results_list (vs := [.slice none 0 0, .int .i64 _]) rfl (by simp) (.tmp (.tmp .nil))) rfl ?_
    exact ⟨_, rfl, Kd.R_nil _ _ _ _ _, below_alloc B1.out _⟩
end


/-! ### transeptlaw13_num: function 10 -/
def transeptlaw13_num.f (a0 : Int) : Option (Int) := some a0
set_option maxHeartbeats 8000000 in
set_option maxRecDepth 100000 in
theorem transeptlaw13_num.calls (a0 : Int) (r : Int) (w : World) (h : transeptlaw13_num.f a0 = some r) :
    Calls Try.prog 10 #[.int .i64 a0] w fun e w' => e = .returned (.int .i64 r) ∧ Drawn0 w w' := by
  have H : (some a0) = some r := h
  clear h
  obtain rfl := Option.some.inj H
  go_enter Try.func10, Try.ntmps10
  go_wp2
  go_ret
  exact ⟨by first | rfl | (simp; done) | (simp [*]; done), by repeat (first | exact Drawn0.refl _ | apply Drawn0.step)⟩

/-! ### transeptplain_SameBytes: function 16 -/
def transeptplain_SameBytes.l0 : Nat → List Int → List Int → Int → Option (Bool)
  | 0, _, _, _ => none
  | k + 1, x0, x1, x5 => if x5 < (x0.length : Int) then (if 0 ≤ x5 then (if x5 < (x1.length : Int) then (if (rd x0 x5) = (rd x1 x5) then (transeptplain_SameBytes.l0 k x0 x1 (wrap64 (x5 + 1))) else (some false)) else (none)) else (none)) else (some true)
def transeptplain_SameBytes.f (k : Nat) (l0 : List Int) (l1 : List Int) : Option (Bool) := if (l0.length : Int) = (l1.length : Int) then (transeptplain_SameBytes.l0 k l0 l1 0) else (some false)
theorem transeptplain_SameBytes.mono_l : ∀ k, (∀ y0 y1 y2, LeO (transeptplain_SameBytes.l0 k y0 y1 y2) (transeptplain_SameBytes.l0 (k + 1) y0 y1 y2))
  | 0 => fun _ _ _ r h => by simp [transeptplain_SameBytes.l0] at h
  | k + 1 => by
    have ih0 := transeptplain_SameBytes.mono_l k
    · intro y0 y1 y2
      unfold transeptplain_SameBytes.l0
      repeat' first
      | (with_reducible exact ih0 _ _ _)
      | (with_reducible exact LeO.refl _)
      | (with_reducible exact LeO.none _)
      | (with_reducible refine LeO.ite ?_ ?_)
      | (with_reducible refine LeO.bind ?_ (fun _ => ?_))
      | exact ih0 _ _ _
      | exact LeO.none _
      | refine LeO.ite ?_ ?_
      | refine LeO.bind ?_ (fun _ => ?_)
theorem transeptplain_SameBytes.mono : ∀ a0 a1 k, LeO (transeptplain_SameBytes.f k a0 a1) (transeptplain_SameBytes.f (k + 1) a0 a1) := by
  intro a0 a1 k
  have ih0 := transeptplain_SameBytes.mono_l k
  unfold transeptplain_SameBytes.f
  repeat' first
      | (with_reducible exact ih0 _ _ _)
      | (with_reducible exact LeO.refl _)
      | (with_reducible exact LeO.none _)
      | (with_reducible refine LeO.ite ?_ ?_)
      | (with_reducible refine LeO.bind ?_ (fun _ => ?_))
      | exact ih0 _ _ _
      | exact LeO.none _
      | refine LeO.ite ?_ ?_
      | refine LeO.bind ?_ (fun _ => ?_)
set_option maxHeartbeats 8000000 in
set_option maxRecDepth 100000 in
theorem transeptplain_SameBytes.calls (k : Nat) (A0 : Option Addr) (c0 : Nat) (l0 : List Int) (A1 : Option Addr) (c1 : Nat) (l1 : List Int) (r : Bool) (w : World) (hr0 : Kd.C (Kd.int .u8) w A0 l0.length l0) (hc0 : l0.length ≤ c0) (hr1 : Kd.C (Kd.int .u8) w A1 l1.length l1) (hc1 : l1.length ≤ c1) (h : transeptplain_SameBytes.f k l0 l1 = some r) :
    Calls Try.prog 16 #[.slice A0 l0.length c0, .slice A1 l1.length c1] w fun e w' => e = .returned (.bool r) ∧ Drawn0 w w' := by
  have HR0 := Aside0.mk hr0
  have HC0 := Aside0.mk hc0
  clear hr0 hc0
  have HR1 := Aside0.mk hr1
  have HC1 := Aside0.mk hc1
  clear hr1 hc1
  have H : (if (l0.length : Int) = (l1.length : Int) then (transeptplain_SameBytes.l0 k l0 l1 0) else (some false)) = some r := h
  clear h
  by_cases c3 : (l0.length : Int) = (l1.length : Int)
  · rw [if_pos c3] at H
    have c3b0 : ((l0.length : Int) == (l1.length : Int)) = true := beq_iff_eq.mpr c3
    have c3b1 : ((l0.length : Int) != (l1.length : Int)) = false := bne_eq_false_iff_eq.mpr c3
    have c3b2 : (l0.length == l1.length) = true := by first | simpa using c3 | (simp at c3 ⊢; omega)
    clear c3
    have H' := Aside0.mk H
    clear H
    go_enter Try.func16, Try.ntmps16
    go_wp2
    repeat (go_quiet (fail); try go_wp2)
    go_loopg [5] k (fun kq v5 w' => ∃ (x5_1 : Int), v5 = .int .i64 x5_1 ∧ Aside0 (transeptplain_SameBytes.l0 kq l0 l1 x5_1 = some r) ∧ Aside0 (kq ≤ k) ∧ Drawn0 w w')
    case atStart => exact ⟨(0), (by first | rfl | (simp; done) | (simp [*]; done)), H', ⟨Nat.le_refl _⟩, by repeat (first | exact Drawn0.refl _ | apply Drawn0.step)⟩
    case round =>
      clear H'
      try clear c1
      try clear p2
      try clear c3
      try clear c3b0
      try clear c3b1
      try clear c3b2
      obtain ⟨x5_1, rfl, HA, HK1, ⟨m1, rfl⟩⟩ := hrel
      cases gk with
      | zero => exact absurd HA.out (by simp [transeptplain_SameBytes.l0])
      | succ k1 =>
        have H := HA.out
        clear HA
        simp only [transeptplain_SameBytes.l0] at H
        by_cases c4 : x5_1 < (l0.length : Int)
        · rw [if_pos c4] at H
          have c4b0 : decide (x5_1 < (l0.length : Int)) = true := decide_eq_true c4
          clear c4
          by_cases c5 : 0 ≤ x5_1
          · rw [if_pos c5] at H
            have c5b0 : decide (0 ≤ x5_1) = true := decide_eq_true c5
            clear c5
            by_cases c6 : x5_1 < (l1.length : Int)
            · rw [if_pos c6] at H
              have c6b0 : decide (x5_1 < (l1.length : Int)) = true := decide_eq_true c6
              clear c6
              by_cases c7 : (rd l0 x5_1) = (rd l1 x5_1)
              · rw [if_pos c7] at H
                have c7b0 : ((rd l0 x5_1) == (rd l1 x5_1)) = true := beq_iff_eq.mpr c7
                have c7b1 : ((rd l0 x5_1) != (rd l1 x5_1)) = false := bne_eq_false_iff_eq.mpr c7
                clear c7
                have H' := Aside0.mk H
                clear H
                have p102 : 0 ≤ (x5_1 : Int) := of_decide_eq_true (by first | (with_reducible assumption) | assumption)
                have q102 : x5_1 < (l0.length : Int) := of_decide_eq_true (by first | (with_reducible assumption) | assumption)
                obtain ⟨ad102, e102, hx102_0⟩ := Kd.at_int HR0.out x5_1 p102 q102
                cases e102
                replace p102 := eq_true p102
                replace q102 := eq_true q102
                have p103 : 0 ≤ (x5_1 : Int) := of_decide_eq_true (by first | (with_reducible assumption) | assumption)
                have q103 : x5_1 < (l1.length : Int) := of_decide_eq_true (by first | (with_reducible assumption) | assumption)
                obtain ⟨ad103, e103, hx103_0⟩ := Kd.at_int HR1.out x5_1 p103 q103
                cases e103
                replace p103 := eq_true p103
                replace q103 := eq_true q103
                go_wp2
                repeat (go_quiet (fail); try go_wp2)
                go_roundg k1
                case measure => have := HK1.out; omega
                case rel => exact ⟨(wrap64 (x5_1 + 1)), (by first | rfl | (simp; done) | (simp [*]; done)), H', ⟨by have := HK1.out; omega⟩, by repeat (first | exact Drawn0.refl _ | apply Drawn0.step)⟩
              · rw [if_neg c7] at H
                have c7b0 : ((rd l0 x5_1) == (rd l1 x5_1)) = false := beq_eq_false_iff_ne.mpr c7
                have c7b1 : ((rd l0 x5_1) != (rd l1 x5_1)) = true := bne_iff_ne.mpr c7
                obtain rfl := Option.some.inj H
                have p102 : 0 ≤ (x5_1 : Int) := of_decide_eq_true (by first | (with_reducible assumption) | assumption)
                have q102 : x5_1 < (l0.length : Int) := of_decide_eq_true (by first | (with_reducible assumption) | assumption)
                obtain ⟨ad102, e102, hx102_0⟩ := Kd.at_int HR0.out x5_1 p102 q102
                cases e102
                replace p102 := eq_true p102
                replace q102 := eq_true q102
                have p103 : 0 ≤ (x5_1 : Int) := of_decide_eq_true (by first | (with_reducible assumption) | assumption)
                have q103 : x5_1 < (l1.length : Int) := of_decide_eq_true (by first | (with_reducible assumption) | assumption)
                obtain ⟨ad103, e103, hx103_0⟩ := Kd.at_int HR1.out x5_1 p103 q103
                cases e103
                replace p103 := eq_true p103
                replace q103 := eq_true q103
                go_wp2
                repeat (go_quiet (fail); try go_wp2)
                go_ret
                exact ⟨by first | rfl | (simp; done) | (simp [*]; done), by repeat (first | exact Drawn0.refl _ | apply Drawn0.step)⟩
            · rw [if_neg c6] at H
              exact absurd H (by simp)
          · rw [if_neg c5] at H
            exact absurd H (by simp)
        · rw [if_neg c4] at H
          have c4b0 : decide (x5_1 < (l0.length : Int)) = false := decide_eq_false c4
          clear c4
          obtain rfl := Option.some.inj H
          go_wp2
          repeat (go_quiet (fail); try go_wp2)
          go_ret
          exact ⟨by first | rfl | (simp; done) | (simp [*]; done), by repeat (first | exact Drawn0.refl _ | apply Drawn0.step)⟩
  · rw [if_neg c3] at H
    have c3b0 : ((l0.length : Int) == (l1.length : Int)) = false := beq_eq_false_iff_ne.mpr c3
    have c3b1 : ((l0.length : Int) != (l1.length : Int)) = true := bne_iff_ne.mpr c3
    have c3b2 : (l0.length == l1.length) = false := by first | simpa using c3 | (simp at c3 ⊢; omega)
    obtain rfl := Option.some.inj H
    go_enter Try.func16, Try.ntmps16
    go_wp2
    repeat (go_quiet (fail); try go_wp2)
    go_ret
    exact ⟨by first | rfl | (simp; done) | (simp [*]; done), by repeat (first | exact Drawn0.refl _ | apply Drawn0.step)⟩

/-! ### transeptlaw13_alive: function 8 -/
def transeptlaw13_alive.f (k : Nat)  : Option (Bool) := (command_Encode.f 2 300 0 0 ([] : List (S48)) 2).bind fun bt104 => ((transeptlaw13_num.f bt104.2).bind fun t108 => (if t108 = 0 then ((transeptplain_SameBytes.f k bt104.1 (([2, 2, 172, 2, 0, 0, 0] : List Int))).bind fun t112 => (some t112)) else (none)))
theorem transeptlaw13_alive.mono : ∀ k, LeO (transeptlaw13_alive.f k ) (transeptlaw13_alive.f (k + 1) ) := by
  intro  k
  unfold transeptlaw13_alive.f
  repeat' first
      | (with_reducible exact transeptplain_SameBytes.mono _ _ _)
      | (with_reducible exact LeO.refl _)
      | (with_reducible exact LeO.none _)
      | (with_reducible refine LeO.ite ?_ ?_)
      | (with_reducible refine LeO.bind ?_ (fun _ => ?_))
      | exact transeptplain_SameBytes.mono _ _ _
      | exact LeO.none _
      | refine LeO.ite ?_ ?_
      | refine LeO.bind ?_ (fun _ => ?_)
set_option maxHeartbeats 8000000 in
set_option maxRecDepth 100000 in
theorem transeptlaw13_alive.calls (k : Nat)  (r : Bool) (w : World) (h : transeptlaw13_alive.f k  = some r) :
    Calls Try.prog 8 #[] w fun e w' => e = .returned (.bool r) ∧ Below w.heap.size w w' := by
  have hu24 := Try.underlying24
  have HB := Aside0.mk (Below.refl w.heap.size w)
  have H : ((command_Encode.f 2 300 0 0 ([] : List (S48)) 2).bind fun bt104 => ((transeptlaw13_num.f bt104.2).bind fun t108 => (if t108 = 0 then ((transeptplain_SameBytes.f k bt104.1 (([2, 2, 172, 2, 0, 0, 0] : List Int))).bind fun t112 => (some t112)) else (none)))) = some r := h
  clear h
  replace H := Option.bind_eq_some_iff.mp H
  obtain ⟨⟨t104, t107⟩, A10, H⟩ := H
  replace H : ((transeptlaw13_num.f t107).bind fun t108 => (if t108 = 0 then ((transeptplain_SameBytes.f k t104 (([2, 2, 172, 2, 0, 0, 0] : List Int))).bind fun t112 => (some t112)) else (none))) = some r := H
  have A1 := Aside0.mk A10
  clear A10
  replace H := Option.bind_eq_some_iff.mp H
  obtain ⟨t108, A20, H⟩ := H
  replace H : (if t108 = 0 then ((transeptplain_SameBytes.f k t104 (([2, 2, 172, 2, 0, 0, 0] : List Int))).bind fun t112 => (some t112)) else (none)) = some r := H
  have A2 := Aside0.mk A20
  clear A20
  by_cases c3 : t108 = 0
  · rw [if_pos c3] at H
    have c3b0 : (t108 == 0) = true := beq_iff_eq.mpr c3
    have c3b1 : (t108 != 0) = false := bne_eq_false_iff_eq.mpr c3
    clear c3
    obtain ⟨y109, hy109⟩ : ∃ y_ : List Int, y_ = (([2, 2, 172, 2, 0, 0, 0] : List Int)) := ⟨_, rfl⟩
    replace H : ((transeptplain_SameBytes.f k t104 y109).bind fun t112 => (some t112)) = some r := by first | (rw [hy109]; with_reducible exact H) | (have H2_ := (Option.bind_some _ _).symm.trans H; rw [hy109]; with_reducible exact H2_) | (have H2_ := (Option.bind_some _ _).symm.trans H; with_reducible exact H2_) | with_reducible exact H | (rw [hy109]; exact H) | exact H
    have Ny109 := Aside0.mk hy109
    clear hy109
    replace H := Option.bind_eq_some_iff.mp H
    obtain ⟨t112, A40, H⟩ := H
    replace H : (some t112) = some r := H
    have A4 := Aside0.mk A40
    clear A40
    obtain rfl := Option.some.inj H
    go_enter Try.func8, Try.ntmps8
    go_wp2_with (first | ((with_reducible refine gate_callee (f := 9) rfl ?_); refine goesL_ (some 5) rfl rfl Try.func9 (by kernel_rfl) rfl #[.agg #[.int .i64 2, .int .i64 300, .int .i64 0, .int .i64 0, .slice none 0 0], .int .i64 2] rfl (by (try simp only [List.map_toArray, List.map_cons, List.map_nil]); first | done | rfl | (simp only [List.length_drop, List.length_take]; rfl)) ?_; (refine (command_Encode.calls 2 300 0 0 _ _ ([] : List (S48)) 2 t104 t107 _ ?side1 ?side2 A1.out).mono ?_); (case side1 => exact Kd.C_nil _ _); (case side2 => exact Nat.le_refl _); rintro e w5 ⟨v105, rfl, ho0, hb⟩; refine ⟨_, rfl, ?_⟩; have n0_ := Aside0.mk (Kd.R_lower ho0 (below_size (by repeat (first | (with_reducible first | exact HB.out | apply below_alloc | apply pw_below_drewN | apply below_drew1) | exact HB.out)))); have n1_ := Aside0.mk (below_step (by repeat (first | (with_reducible first | exact HB.out | apply below_alloc | apply pw_below_drewN | apply below_drew1) | exact HB.out)) hb); clear HB; have HO106 := n0_; have HB := n1_; clear n0_ n1_; (try clear hb); (try clear hb2); (try clear hk); (try clear hi); (try clear ho0)) | ((with_reducible refine gate_callee (f := 10) rfl ?_); refine goesL_ (some 9) rfl rfl Try.func10 (by kernel_rfl) rfl #[.int .i64 t107] rfl (by (try simp only [List.map_toArray, List.map_cons, List.map_nil]); first | done | rfl | (simp only [List.length_drop, List.length_take]; rfl)) ?_; (with_reducible refine (transeptlaw13_num.calls t107 t108 _ A2.out).mono ?_); rintro e w' ⟨rfl, ⟨nd, rfl⟩⟩; refine ⟨_, rfl, ?_⟩) | ((with_reducible refine gate_dst (N := 13) rfl ?_); (try (refine gate_guard (by rfl) ?_; dsimp only)); refine Kd.R_lit (Kd.int .u8) _ 5 ?hg (N := 13) ?hd (xs := ([2, 2, 172, 2, 0, 0, 0] : List Int)) (inner := [.int .u8 2, .int .u8 2, .int .u8 172, .int .u8 2, .int .u8 0, .int .u8 0, .int .u8 0]) (ok := fun _ => True) (okp := fun _ => True) ?hr ?hp (fun _ hk => hk) trivial (Below.refl _ _) (Nat.le_refl _) (by simp) ?_; (case hd => rfl); (case hg => rfl); (case hr => first | (go_simp; done) | (go_simp; rfl)); (case hp => exact (Reps.one (show Kd.M (Kd.int .u8) _ _ _ 2 [.int .u8 2] from rfl) (Reps.one (show Kd.M (Kd.int .u8) _ _ _ 2 [.int .u8 2] from rfl) (Reps.one (show Kd.M (Kd.int .u8) _ _ _ 172 [.int .u8 172] from rfl) (Reps.one (show Kd.M (Kd.int .u8) _ _ _ 2 [.int .u8 2] from rfl) (Reps.one (show Kd.M (Kd.int .u8) _ _ _ 0 [.int .u8 0] from rfl) (Reps.one (show Kd.M (Kd.int .u8) _ _ _ 0 [.int .u8 0] from rfl) (Reps.one (show Kd.M (Kd.int .u8) _ _ _ 0 [.int .u8 0] from rfl) (Reps.none _ _))))))))); intro v110 w6 ho7 hb hg_ hnew_; clear hg_ hnew_; (first | rw [← Ny109.out] at ho7 | (simp only [Int.reduceToNat] at ho7; rw [← Ny109.out] at ho7)); have n0_ := Aside0.mk (Kd.R_elder' (by (with_reducible repeat (first | apply Kd.R_alloc | apply Kd.R_drewN | apply Kd.R_drew)); exact HO106.out) (Kd.R_base ho7) hb); have n1_ := Aside0.mk (Kd.R_lower (Kd.R_new' ho7 (Kd.R_lt (by (with_reducible repeat (first | apply Kd.R_alloc | apply Kd.R_drewN | apply Kd.R_drew)); exact HO106.out))) (below_size (by repeat (first | (with_reducible first | exact HB.out | apply below_alloc | apply pw_below_drewN | apply below_drew1) | exact HB.out)))); have n2_ := Aside0.mk (below_step (by repeat (first | (with_reducible first | exact HB.out | apply below_alloc | apply pw_below_drewN | apply below_drew1) | exact HB.out)) hb); clear HO106; clear HB; have HO106 := n0_; have HO111 := n1_; have HB := n2_; clear n0_ n1_ n2_; clear hb ho7; obtain ⟨Ao8, co8, eo8⟩ := Kd.R_slice HO106.out; subst eo8; obtain ⟨Ao9, co9, eo9⟩ := Kd.R_slice HO111.out; subst eo9) | (go_at_call 16; (with_reducible refine (transeptplain_SameBytes.calls k _ _ t104 _ _ y109 t112 _ ?side1 ?side2 ?side3 ?side4 A4.out).mono ?_); (case side1 => repeat (first | exact (Kd.R_reads' HO106.out).2.2 | (with_reducible refine Kd.C_alloc ?_ _) | (with_reducible refine Kd.C_drewN ?_ _) | (with_reducible refine Kd.C_drew ?_))); (case side2 => exact (Kd.R_reads' HO106.out).2.1); (case side3 => repeat (first | exact (Kd.R_reads' HO111.out).2.2 | (with_reducible refine Kd.C_alloc ?_ _) | (with_reducible refine Kd.C_drewN ?_ _) | (with_reducible refine Kd.C_drew ?_))); (case side4 => exact (Kd.R_reads' HO111.out).2.1); rintro e w' ⟨rfl, ⟨nd, rfl⟩⟩))
    go_ret
    exact ⟨by first | rfl | (simp [errW_none, errW_some] <;> rfl) | (simp [*, errW_none, errW_some] <;> rfl), by repeat (first | (with_reducible first | exact HB.out | apply below_alloc | apply pw_below_drewN | apply below_drew1) | exact HB.out)⟩
  · rw [if_neg c3] at H
    exact absurd H (by simp)

/-! ### transeptplain_CopyBytes: function 11 -/
def transeptplain_CopyBytes.f (l0 : List Int) : Option (List Int) := if ([] : List Int).length + l0.length < 140737488355328 then (some (([] : List Int) ++ l0)) else (none)
set_option maxHeartbeats 8000000 in
set_option maxRecDepth 100000 in
theorem transeptplain_CopyBytes.calls (A0 : Option Addr) (c0 : Nat) (l0 : List Int) (r : List Int) (w : World) (hr0 : Kd.C (Kd.int .u8) w A0 l0.length l0) (hc0 : l0.length ≤ c0) (h : transeptplain_CopyBytes.f l0 = some r) :
    Calls Try.prog 11 #[.slice A0 l0.length c0] w fun e w' => ∃ v0_ : Value, e = .returned (v0_) ∧ Kd.R (Kd.int .u8) 5 w' w.heap.size (fun _ => True) v0_ r ∧ Below w.heap.size w w' := by
  have HR0 := Aside0.mk hr0
  have HC0 := Aside0.mk hc0
  clear hr0 hc0
  have HB := Aside0.mk (Below.refl w.heap.size w)
  have H : (if ([] : List Int).length + l0.length < 140737488355328 then (some (([] : List Int) ++ l0)) else (none)) = some r := h
  clear h
  by_cases c2 : ([] : List Int).length + l0.length < 140737488355328
  · rw [if_pos c2] at H
    have LMc2 := Aside0.mk c2
    clear c2
    obtain ⟨y113, hy113⟩ : ∃ y_ : List Int, y_ = (([] : List Int) ++ l0) := ⟨_, rfl⟩
    replace H : (some y113) = some r := by first | (rw [hy113]; with_reducible exact H) | (have H2_ := (Option.bind_some _ _).symm.trans H; rw [hy113]; with_reducible exact H2_) | (have H2_ := (Option.bind_some _ _).symm.trans H; with_reducible exact H2_) | with_reducible exact H | (rw [hy113]; exact H) | exact H
    have Ny113 := Aside0.mk hy113
    clear hy113
    obtain rfl := Option.some.inj H
    go_enter Try.func11, Try.ntmps11
    go_wp2_with (first | ((with_reducible refine gate_builtin (b := .append) (xs := #[.tmp 4, .tmp 5]) rfl ?_); at_builtin; refine Kd.R_append_rows (Kd.int .u8) (w0 := w) w.heap.size rfl (.tmp 4) (.tmp 5) 26 5 (.int .u8 0) 1 rfl Try.underlying26 info5 rfl (by decide) (by omega) (.slice none 0 0) ([] : List Int) l0 _ _ _ (fun _ => True) (fun _ => False) rfl rfl ?aO ?aR (fun _ _ h => h) (fun _ h => h.elim) ?aF ?aB ?aS ?aL ?_; (case aR => repeat (first | exact HR0.out | (with_reducible refine Kd.C_alloc ?_ _) | (with_reducible refine Kd.C_drewN ?_ _) | (with_reducible refine Kd.C_drew ?_))); (case aB => exact (by repeat (first | (with_reducible first | exact HB.out | apply below_alloc | apply pw_below_drewN | apply below_drew1) | exact HB.out))); (case aF => exact (fun _ _ => trivial)); (case aO => exact ((Kd.R_nil _ _ _ _ (fun _ => True)))); (case aS => exact (below_size (by repeat (first | (with_reducible first | exact HB.out | apply below_alloc | apply pw_below_drewN | apply below_drew1) | exact HB.out)))); (case aL => have := LMc2.out; omega); intro v114 w3 ho hb hg hat; rw [← Ny113.out] at ho; have n0_ := Aside0.mk (hb); have n1_ := Aside0.mk (ho); clear HB; have HB := n0_; have HO115 := n1_; clear n0_ n1_; clear ho hb hg hat))
    go_ret
    exact ⟨_, by first | rfl | (simp [errW_none, errW_some] <;> rfl) | (simp [*, errW_none, errW_some] <;> rfl), by (with_reducible repeat (first | apply Kd.R_alloc | apply Kd.R_drewN | apply Kd.R_drew)); exact HO115.out, by repeat (first | (with_reducible first | exact HB.out | apply below_alloc | apply pw_below_drewN | apply below_drew1) | exact HB.out)⟩
  · rw [if_neg c2] at H
    exact absurd H (by simp)

/-! ### transeptplain_CopyOps: function 12 -/
def transeptplain_CopyOps.f (l0 : List (S48)) : Option ((List (S48))) := if ([] : List (S48)).length + l0.length < 3518437208883 then (some (([] : List (S48)) ++ l0)) else (none)
set_option maxHeartbeats 8000000 in
set_option maxRecDepth 100000 in
theorem transeptplain_CopyOps.calls (A0 : Option Addr) (c0 : Nat) (l0 : List (S48)) (r : List (S48)) (w : World) (hr0 : Kd.C k48 w A0 l0.length l0) (hc0 : l0.length ≤ c0) (h : transeptplain_CopyOps.f l0 = some r) :
    Calls Try.prog 12 #[.slice A0 l0.length c0] w fun e w' => ∃ v0_ : Value, e = .returned (v0_) ∧ Kd.R k48 48 w' w.heap.size (fun _ => True) v0_ r ∧ Below w.heap.size w w' := by
  have HR0 := Aside0.mk hr0
  have HC0 := Aside0.mk hc0
  clear hr0 hc0
  have HB := Aside0.mk (Below.refl w.heap.size w)
  have H : (if ([] : List (S48)).length + l0.length < 3518437208883 then (some (([] : List (S48)) ++ l0)) else (none)) = some r := h
  clear h
  by_cases c2 : ([] : List (S48)).length + l0.length < 3518437208883
  · rw [if_pos c2] at H
    have LMc2 := Aside0.mk c2
    clear c2
    obtain ⟨y116, hy116⟩ : ∃ y_ : List (S48), y_ = (([] : List (S48)) ++ l0) := ⟨_, rfl⟩
    replace H : (some y116) = some r := by first | (rw [hy116]; with_reducible exact H) | (have H2_ := (Option.bind_some _ _).symm.trans H; rw [hy116]; with_reducible exact H2_) | (have H2_ := (Option.bind_some _ _).symm.trans H; with_reducible exact H2_) | with_reducible exact H | (rw [hy116]; exact H) | exact H
    have Ny116 := Aside0.mk hy116
    clear hy116
    obtain rfl := Option.some.inj H
    go_enter Try.func12, Try.ntmps12
    go_wp2_with (first | ((with_reducible refine gate_builtin (b := .append) (xs := #[.tmp 4, .tmp 5]) rfl ?_); at_builtin; refine Kd.R_append_rows k48 (w0 := w) w.heap.size rfl (.tmp 4) (.tmp 5) 22 48 (.agg #[(.int .i64 0), (.string ⟨#[]⟩), (.string ⟨#[]⟩)]) 40 rfl Try.underlying22 info48 rfl (by decide) (by omega) (.slice none 0 0) ([] : List (S48)) l0 _ _ _ (fun _ => True) (fun _ => False) rfl rfl ?aO ?aR (fun _ _ h => h) (fun _ h => h.elim) ?aF ?aB ?aS ?aL ?_; (case aR => repeat (first | exact HR0.out | (with_reducible refine Kd.C_alloc ?_ _) | (with_reducible refine Kd.C_drewN ?_ _) | (with_reducible refine Kd.C_drew ?_))); (case aB => exact (by repeat (first | (with_reducible first | exact HB.out | apply below_alloc | apply pw_below_drewN | apply below_drew1) | exact HB.out))); (case aF => exact (fun _ _ => trivial)); (case aO => exact ((Kd.R_nil _ _ _ _ (fun _ => True)))); (case aS => exact (below_size (by repeat (first | (with_reducible first | exact HB.out | apply below_alloc | apply pw_below_drewN | apply below_drew1) | exact HB.out)))); (case aL => have := LMc2.out; omega); intro v117 w3 ho hb hg hat; rw [← Ny116.out] at ho; have n0_ := Aside0.mk (hb); have n1_ := Aside0.mk (ho); clear HB; have HB := n0_; have HO118 := n1_; clear n0_ n1_; clear ho hb hg hat))
    go_ret
    exact ⟨_, by first | rfl | (simp [errW_none, errW_some] <;> rfl) | (simp [*, errW_none, errW_some] <;> rfl), by (with_reducible repeat (first | apply Kd.R_alloc | apply Kd.R_drewN | apply Kd.R_drew)); exact HO118.out, by repeat (first | (with_reducible first | exact HB.out | apply below_alloc | apply pw_below_drewN | apply below_drew1) | exact HB.out)⟩
  · rw [if_neg c2] at H
    exact absurd H (by simp)

end Go.Proofs.Ytpjaebbgbmhneaa.Print
