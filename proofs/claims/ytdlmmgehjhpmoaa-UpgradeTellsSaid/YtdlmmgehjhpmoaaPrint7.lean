/- Pruned by prune.py, a program of this project, out of what the print and its words (or this project) wrote: what this claim does not reach is struck. -/
import Derived.Test.YtdlmmgehjhpmoaaPrint0
import Derived.Test.YtdlmmgehjhpmoaaPrint5
import Derived.Test.YtdlmmgehjhpmoaaPrint6
namespace Go.Proofs.Ytdlmmgehjhpmoaa.Print
open Go.RowKit Go.Proofs.YtdlmmgehjhpmoaaW.PrintWords Go.Proofs.YtdlmmgehjhpmoaaW.PrintLast Go.Proofs.YtdlmmgehjhpmoaaW.PrintMore
attribute [local go_sem] max2_int min2_int max_two min_two max_three min_three max_four min_four
set_option linter.unusedVariables false
set_option linter.unusedSimpArgs false
def enc_at (base : Nat) (w W : World) (v : Value) (xs : List Int) : Prop := W.ownsRow base 5 1 v xs.length (nums .u8 xs) ∧ Below base w W ∧ base ≤ W.heap.size
def enc_keep (W W' : World) : Prop := ∀ (b : Nat) (cells : Array Value) (t : TypeId), t ≠ 5 → W.heap[b]? = some (.cells cells t (0, 0)) → W'.heap[b]? = some (.cells cells t (0, 0))
theorem enc_keep_refl (W : World) : enc_keep W W := fun _ _ _ _ h => h
theorem enc_keep_trans {A B C : World} (h : enc_keep A B) (k : enc_keep B C) : enc_keep A C := fun b c t ht hb => k b c t ht (h b c t ht hb)
theorem enc_keep_grown {W W' : World} {base : Nat} {v : Value} {n : Nat} {xs : List Value} (ho : W.ownsRow base 5 1 v n xs) (hg : W.grownBy W' v.ownBlock) : enc_keep W W' := by
 intro b cells t ht hb
 refine (hg.block b (Array.getElem?_eq_some_iff.1 hb).1 ?_).trans hb
 rcases ho.2 with ⟨rfl, _⟩ | ⟨g, cap, cur, rfl, _, hgb, _⟩
 ·simp [Value.ownBlock]
 ·intro e'
  obtain rfl : b = g := by simpa [Value.ownBlock] using e'
  rw [hb] at hgb
  simp at hgb
  exact ht hgb.2
theorem enc_keep_alloc {W : World} (o : Obj) : enc_keep W (W.alloc o) := by
 intro b cells t _ hb
 have hlt := (Array.getElem?_eq_some_iff.1 hb).1
 exact ((below_alloc (Below.refl W.heap.size W) o).block b hlt).trans hb
theorem enc_at_alloc {base : Nat} {w W : World} {v : Value} {xs : List Int} (h : enc_at base w W v xs) (o : Obj) : enc_at base w (W.alloc o) v xs := ⟨h.1.alloc o, h.2.1.alloc h.2.2 o, by have := h.2.2; simp; omega⟩
theorem enc_at_drew {base : Nat} {w W : World} {v : Value} {xs : List Int} (h : enc_at base w W v xs) : enc_at base w W.drew v xs := ⟨h.1.drew, below_drew h.2.1, h.2.2⟩
def enc_other (W W' : World) (v : Value) : Prop := ∀ (b : Nat) (o : Obj), W.heap[b]? = some o → some b ≠ v.ownBlock → W'.heap[b]? = some o
theorem enc_at_lt {base : Nat} {w W : World} {g n cap : Nat} {xs : List Int} (h : enc_at base w W (.slice (some ⟨g, 0, none⟩) n cap) xs) : g < W.heap.size := by
 rcases h.1.2 with ⟨h0, _⟩ | ⟨g', cap', cur, h0, _, hh, _⟩
 ·cases h0
 ·cases h0
  exact (Array.getElem?_eq_some_iff.1 hh).1
theorem enc_at_below {base : Nat} {w W W' : World} {v : Value} {xs : List Int} (h : enc_at base w W v xs) (hb : Below W.heap.size W W') : enc_at base w W' v xs := by
 refine ⟨⟨h.1.1, ?_⟩, h.2.1.trans (hb.mono h.2.2), Nat.le_trans h.2.2 hb.size⟩
 rcases h.1.2 with h0 | ⟨g, cap, cur, h0, h1, hh, h2⟩
 ·exact .inl h0
 ·exact .inr ⟨g, cap, cur, h0, h1, (hb.block g (Array.getElem?_eq_some_iff.1 hh).1).trans hh, h2⟩
theorem enc_app {base : Nat} {w W : World} {v : Value} {xs : List Int} (h : enc_at base w W v xs) (ad : Addr) (m c : Nat) (ys : List Int) (hm : ys.length = m)
  (hc : ∀ j u, (nums .u8 ys)[j]? = some u → W.cell? (ad.add j) = some u) (hp : 0 < xs.length + m) (hl : xs.length + m ≤ 140737488355328) :
  ∃ g cap W', (shutApp #[57, 57] 57 #[v, .slice (some ad) m c]).run Try.prog W = .ok (.value (.slice (some ⟨g, 0, none⟩) (xs.length + m) cap)) W' ∧ enc_at base w W' (.slice (some ⟨g, 0, none⟩) (xs.length + m) cap) (xs ++ ys) ∧ enc_keep W W' ∧ enc_other W W' v := by
 obtain ⟨i0, hi, hz0, hz1, hz2⟩ := info_parts info5
 have hml : maxLen = 9223372036854775807 := rfl
 obtain ⟨v', W', hrun, hown, hg, _⟩ := run_append_own (P := Try.prog) (w := W) base 57 57 5 i0 (.int .u8 0) 1 1 Try.underlying57 hi hz0 hz1 hz2 rfl (by decide) v xs.length (nums .u8 xs) h.1 ad m c (nums .u8 ys) (by simp [nums, hm]) hc (by simp [nums, Value.oneCell']) (by omega) (by omega) h.2.2
 obtain ⟨g, cap, rfl⟩ : ∃ g cap, v' = .slice (some ⟨g, 0, none⟩) (xs.length + m) cap := by
  rcases hown.2 with ⟨_, h0⟩ | ⟨g, cap, _, rfl, _⟩
  ·omega
  ·exact ⟨g, cap, rfl⟩
 refine ⟨g, cap, W', run_shutApp hrun, ⟨?_, h.2.1.grown hg h.2.2 (own_base h.1), Nat.le_trans h.2.2 hg.size⟩, enc_keep_grown h.1 hg, fun b o hb hne => (hg.block b (Array.getElem?_eq_some_iff.1 hb).1 hne).trans hb⟩
 rw [List.length_append, hm, nums_append]
 exact hown
theorem enc_lit {base : Nat} {w W : World} {v : Value} {xs : List Int} (h : enc_at base w W v xs) (ys : List Int) (hp : 0 < xs.length + ys.length) (hl : xs.length + ys.length ≤ 140737488355328) :
  ∃ g cap W', (shutApp #[57, 57] 57 #[v, .slice (some ⟨W.heap.size, 0, none⟩) ys.length ys.length]).run Try.prog (W.alloc (.cells (nums .u8 ys).toArray 5)) = .ok (.value (.slice (some ⟨g, 0, none⟩) (xs.length + ys.length) cap)) W' ∧ enc_at base w W' (.slice (some ⟨g, 0, none⟩) (xs.length + ys.length) cap) (xs ++ ys) ∧ enc_keep W W' := by
 obtain ⟨g, cap, W', h1, h2, h3, _⟩ := enc_app (enc_at_alloc h (.cells (nums .u8 ys).toArray 5)) ⟨W.heap.size, 0, none⟩ ys.length ys.length ys rfl (by simpa using World.news_of_block (cs := (nums .u8 ys).toArray) (t := 5) (fr := (0, 0)) (heap_alloc_new W (.cells (nums .u8 ys).toArray 5))) hp hl
 exact ⟨g, cap, W', h1, h2, enc_keep_trans (enc_keep_alloc _) h3⟩
theorem enc_litd {base : Nat} {w W : World} {v : Value} {xs : List Int} (h : enc_at base w W v xs) (ys : List Int) (hp : 0 < xs.length + ys.length) (hl : xs.length + ys.length ≤ 140737488355328) :
  ∃ g cap W', (shutApp #[57, 57] 57 #[v, .slice (some ⟨W.heap.size, 0, none⟩) ys.length ys.length]).run Try.prog (W.alloc (.cells (nums .u8 ys).toArray 5)).drew = .ok (.value (.slice (some ⟨g, 0, none⟩) (xs.length + ys.length) cap)) W' ∧ enc_at base w W' (.slice (some ⟨g, 0, none⟩) (xs.length + ys.length) cap) (xs ++ ys) ∧ enc_keep W W' := enc_lit (enc_at_drew h) ys hp hl
theorem enc_str {base : Nat} {w W : World} {v : Value} {xs : List Int} (h : enc_at base w W v xs) (y : ByteArray) (hp : 0 < xs.length + y.size) (hl : xs.length + y.size ≤ 140737488355328) :
  ∃ g cap W', (shutApp #[57, 9] 57 #[v, .string y]).run Try.prog W = .ok (.value (.slice (some ⟨g, 0, none⟩) (xs.length + y.size) cap)) W' ∧ enc_at base w W' (.slice (some ⟨g, 0, none⟩) (xs.length + y.size) cap) (xs ++ bytesOf y) ∧ enc_keep W W' ∧ enc_other W W' v := by
 obtain ⟨i0, hi, hz0, hz1, hz2⟩ := info_parts info5
 have hml : maxLen = 9223372036854775807 := rfl
 obtain ⟨v', W', hrun, hown, hg, _⟩ := Lib.run_append_own_string (P := Try.prog) (w := W) base 57 9 57 5 i0 Try.underlying57 (by kernel_rfl) hi hz0 hz1 hz2 v xs.length (nums .u8 xs) h.1 y (by omega) (by omega) h.2.2
 obtain ⟨g, cap, rfl⟩ : ∃ g cap, v' = .slice (some ⟨g, 0, none⟩) (xs.length + y.size) cap := by
  rcases hown.2 with ⟨_, h0⟩ | ⟨g, cap, _, rfl, _⟩
  ·omega
  ·exact ⟨g, cap, rfl⟩
 refine ⟨g, cap, W', run_shutApp hrun, ⟨?_, h.2.1.grown hg h.2.2 (own_base h.1), Nat.le_trans h.2.2 hg.size⟩, enc_keep_grown h.1 hg, fun b o hb hne => (hg.block b (Array.getElem?_eq_some_iff.1 hb).1 hne).trans hb⟩
 rw [List.length_append, bytesOf_length, nums_append]
 have : nums .u8 (bytesOf y) = Lib.strCells y := by simp [nums, bytesOf, Lib.strCells]
 rw [this]
 exact hown
def cmd_vi : Nat → Int → List Int
 | 0, _ => []
 | k + 1, n => if n < 128 then [n % 256] else (n % 128 + 128) :: cmd_vi k (n / 128)
theorem cmd_vi_length : ∀ (k : Nat) (n : Int), (cmd_vi k n).length ≤ k
 | 0, _ => Nat.le_refl _
 | k + 1, n => by
  simp only [cmd_vi]
  split
  ·simp
  ·have := cmd_vi_length k (n / 128); simp; omega
theorem or128 (n : Int) : Go.bits .or .u8 (n % 256) 128 = n % 128 + 128 := by
 have key : ∀ m : Fin 256, Go.bits .or .u8 ((m : Nat) : Int) 128 = ((m : Nat) : Int) % 128 + 128 := by decide +kernel
 obtain ⟨m, hm⟩ := Int.eq_ofNat_of_zero_le (Int.emod_nonneg n (show (256 : Int) ≠ 0 by decide))
 have hlt : m < 256 := by have := Int.emod_lt_of_pos n (show (0 : Int) < 256 by decide); omega
 rw [hm]
 have := key ⟨m, hlt⟩
 simp only at this
 rw [this]
 omega
section
attribute [local go_sem ↓ 5000] builtin_shutApp
set_option maxRecDepth 100000 in
set_option maxHeartbeats 2000000 in
theorem cmd_varint {base : Nat} {w W : World} {v : Value} {xs : List Int} (h : enc_at base w W v xs) (hlen : xs.length ≤ 1000) (n : Int) (h0 : 0 ≤ n) (hn : n < 4398046511104) :
  Calls Try.prog 39 #[v, .int .i64 n] W fun e W' => ∃ g cap, e = .returned (.slice (some ⟨g, 0, none⟩) (xs ++ cmd_vi 6 n).length cap) ∧ enc_at base w W' (.slice (some ⟨g, 0, none⟩) (xs ++ cmd_vi 6 n).length cap) (xs ++ cmd_vi 6 n) ∧ enc_keep W W' := by
 have HE0 := Aside0.mk h
 clear h
 have HL0 := Aside0.mk hlen
 have HN0 := Aside0.mk hn
 clear hlen hn
 go_enter Try.func39, Try.ntmps39
 go_wp2
 refine wp_scope_jumps 0 (fun a' w' => ∃ (k : Nat) (m : Int) (v : Value) (ys : List Int) (u5 u6 u7 u8 u9 u10 u11 u12 u13 u14 u15 u16 u17 u18 u19 : Value), a' = { tmps := #[v, .int .i64 m, undef, undef, .slice none 0 0, u5, u6, u7, u8, u9, u10, u11, u12, u13, u14, u15, u16, u17, u18, u19], defers := [] } ∧ 0 ≤ m ∧ Aside0 (m < (128 : Int) ^ (k + 1)) ∧ Aside0 (enc_at base w w' v ys) ∧ Aside0 (enc_keep W w') ∧ Aside0 (ys.length + k ≤ 1010) ∧ Aside0 (ys ++ cmd_vi (k + 1) m = xs ++ cmd_vi 6 n)) (fun a' _ => (intOf (a'.tmps.getD 1 undef)).toNat) rfl ?_ ?_
 ·go_wp2
  go_step3
  obtain ⟨k, hk⟩ : ∃ k, k = 5 := ⟨_, rfl⟩
  have HE := HE0
  have HK0 := Aside0.mk (enc_keep_refl W)
  have HL := Aside0.mk (show xs.length + k ≤ 1010 from by have := HL0.out; omega)
  have HN := Aside0.mk (show n < (128 : Int) ^ (k + 1) from by have := HN0.out; subst hk; simpa using this)
  have HX := Aside0.mk (show xs ++ cmd_vi (k + 1) n = xs ++ cmd_vi 6 n from by rw [hk])
  clear hk
  by_cases c : n < 128
  ·have c1 : decide (n < 128) = true := decide_eq_true c
   have he : cmd_vi (k + 1) n = [n % 256] := by simp only [cmd_vi]; rw [if_pos c]
   obtain ⟨g, cap, W', hrun, hat', hk'⟩ := enc_lit HE.out [n % 256] (by simp) (by have := HL.out; simp; omega)
   have hrun1 : (shutApp #[57, 57] 57 #[v, .slice (some ⟨W.heap.size, 0, none⟩) 1 1]).run Try.prog (W.alloc (.cells #[.int .u8 (n % 256)] 5)) = .ok (.value (.slice (some ⟨g, 0, none⟩) (xs.length + 1) cap)) W' := hrun
   clear hrun
   have HA := Aside0.mk hat'
   have HK := Aside0.mk (enc_keep_trans HK0.out hk')
   clear hat' hk' c
   go_wp2
   simp only [Exit.jump]
   go_ret
   have e2 := HX.out
   rw [he] at e2
   rw [← e2]
   refine ⟨g, cap, ?_, ?_, HK.out⟩
   ·rw [List.length_append]; rfl
   ·first | exact HA.out | (rw [List.length_append]; exact HA.out)
  ·have c1 : decide (n < 128) = false := decide_eq_false c
   have hk2 : 1 ≤ k := by
    have := HN.out
    cases k with
    | zero => simp at this; omega
    | succ k => omega
   obtain ⟨j, rfl⟩ : ∃ j, k = j + 1 := ⟨k - 1, by omega⟩
   have he : cmd_vi (j + 1 + 1) n = (n % 128 + 128) :: cmd_vi (j + 1) (n / 128) := by simp only [cmd_vi]; rw [if_neg c]
   obtain ⟨g, cap, W', hrun, hat', hk'⟩ := enc_lit HE.out [Go.bits .or .u8 (n % 256) 128] (by simp) (by have := HL.out; simp; omega)
   have hrun1 : (shutApp #[57, 57] 57 #[v, .slice (some ⟨W.heap.size, 0, none⟩) 1 1]).run Try.prog (W.alloc (.cells #[.int .u8 (Go.bits .or .u8 (n % 256) 128)] 5)) = .ok (.value (.slice (some ⟨g, 0, none⟩) (xs.length + 1) cap)) W' := hrun
   clear hrun
   have HA := Aside0.mk hat'
   have HK := Aside0.mk (enc_keep_trans HK0.out hk')
   clear hat' hk'
   have hge : 128 ≤ n := by omega
   have hlt : n / 128 < n := by omega
   have hq0 : 0 ≤ n / 128 := by omega
   have hN2 := Aside0.mk (show n / 128 < (128 : Int) ^ (j + 1) from by have := HN.out; rw [Int.pow_succ] at this; omega)
   clear c
   go_wp2
   go_step3
   refine ⟨rfl, ⟨j, _, _, xs ++ [Go.bits .or .u8 (n % 256) 128], _, _, _, _, _, _, _, _, _, _, _, _, _, _, _, rfl, hq0, hN2, ⟨?_⟩, HK, ⟨?_⟩, ⟨?_⟩⟩⟩
   ·first | exact HA.out | (rw [List.length_append]; exact HA.out)
   ·have := HL.out; simp; omega
   ·rw [← HX.out, he, or128, List.append_assoc]; rfl
 ·rintro a' w' ⟨k, m, v, ys, u5, u6, u7, u8, u9, u10, u11, u12, u13, u14, u15, u16, u17, u18, u19, rfl, hm0, HN, HE, HK0, HL, HX⟩
  by_cases c : m < 128
  ·have c1 : decide (m < 128) = true := decide_eq_true c
   have he : cmd_vi (k + 1) m = [m % 256] := by simp only [cmd_vi]; rw [if_pos c]
   obtain ⟨g, cap, W', hrun, hat', hk'⟩ := enc_lit HE.out [m % 256] (by simp) (by have := HL.out; simp; omega)
   have hrun1 : (shutApp #[57, 57] 57 #[v, .slice (some ⟨w'.heap.size, 0, none⟩) 1 1]).run Try.prog (w'.alloc (.cells #[.int .u8 (m % 256)] 5)) = .ok (.value (.slice (some ⟨g, 0, none⟩) (ys.length + 1) cap)) W' := hrun
   clear hrun
   have HA := Aside0.mk hat'
   have HK := Aside0.mk (enc_keep_trans HK0.out hk')
   clear hat' hk' c
   go_wp2
   simp only [Exit.jump]
   go_ret
   have e2 := HX.out
   rw [he] at e2
   rw [← e2]
   refine ⟨g, cap, ?_, ?_, HK.out⟩
   ·rw [List.length_append]; rfl
   ·first | exact HA.out | (rw [List.length_append]; exact HA.out)
  ·have c1 : decide (m < 128) = false := decide_eq_false c
   have hk2 : 1 ≤ k := by
    have := HN.out
    cases k with
    | zero => simp at this; omega
    | succ k => omega
   obtain ⟨j, rfl⟩ : ∃ j, k = j + 1 := ⟨k - 1, by omega⟩
   have he : cmd_vi (j + 1 + 1) m = (m % 128 + 128) :: cmd_vi (j + 1) (m / 128) := by simp only [cmd_vi]; rw [if_neg c]
   obtain ⟨g, cap, W', hrun, hat', hk'⟩ := enc_lit HE.out [Go.bits .or .u8 (m % 256) 128] (by simp) (by have := HL.out; simp; omega)
   have hrun1 : (shutApp #[57, 57] 57 #[v, .slice (some ⟨w'.heap.size, 0, none⟩) 1 1]).run Try.prog (w'.alloc (.cells #[.int .u8 (Go.bits .or .u8 (m % 256) 128)] 5)) = .ok (.value (.slice (some ⟨g, 0, none⟩) (ys.length + 1) cap)) W' := hrun
   clear hrun
   have HA := Aside0.mk hat'
   have HK := Aside0.mk (enc_keep_trans HK0.out hk')
   clear hat' hk'
   have hge : 128 ≤ m := by omega
   have hlt : m / 128 < m := by omega
   have hq0 : 0 ≤ m / 128 := by omega
   have hN2 := Aside0.mk (show m / 128 < (128 : Int) ^ (j + 1) from by have := HN.out; rw [Int.pow_succ] at this; omega)
   clear c
   go_wp2
   go_step3
   refine ⟨rfl, ⟨j, _, _, ys ++ [Go.bits .or .u8 (m % 256) 128], _, _, _, _, _, _, _, _, _, _, _, _, _, _, _, rfl, hq0, hN2, ⟨?_⟩, HK, ⟨?_⟩, ⟨?_⟩⟩, ?_⟩
   ·first | exact HA.out | (rw [List.length_append]; exact HA.out)
   ·have := HL.out; simp; omega
   ·rw [← HX.out, he, or128, List.append_assoc]; rfl
   ·simp [intOf]; omega
end
def len8tab : ByteArray := ⟨#[0,1,2,2,3,3,3,3,4,4,4,4,4,4,4,4,5,5,5,5,5,5,5,5,5,5,5,5,5,5,5,5,6,6,6,6,6,6,6,6,6,6,6,6,6,6,6,6,6,6,6,6,6,6,6,6,6,6,6,6,6,6,6,6,7,7,7,7,7,7,7,7,7,7,7,7,7,7,7,7,7,7,7,7,7,7,7,7,7,7,7,7,7,7,7,7,7,7,7,7,7,7,7,7,7,7,7,7,7,7,7,7,7,7,7,7,7,7,7,7,7,7,7,7,7,7,7,7,8,8,8,8,8,8,8,8,8,8,8,8,8,8,8,8,8,8,8,8,8,8,8,8,8,8,8,8,8,8,8,8,8,8,8,8,8,8,8,8,8,8,8,8,8,8,8,8,8,8,8,8,8,8,8,8,8,8,8,8,8,8,8,8,8,8,8,8,8,8,8,8,8,8,8,8,8,8,8,8,8,8,8,8,8,8,8,8,8,8,8,8,8,8,8,8,8,8,8,8,8,8,8,8,8,8,8,8,8,8,8,8,8,8,8,8,8,8,8,8,8,8,8,8,8,8,8,8]⟩
set_option maxRecDepth 1000000 in
theorem len8_le (i : Int) : bt len8tab i ≤ 8 := by
 have key : ∀ m : Fin 256, bt len8tab ((m : Nat) : Int) ≤ 8 := by decide +kernel
 by_cases h : i.toNat < 256
 ·have := key ⟨i.toNat, h⟩
  have e : ∀ s : ByteArray, bt s ((i.toNat : Nat) : Int) = bt s i := fun s => by simp only [bt, Int.toNat_natCast]
  rw [e] at this
  exact this
 ·have : bt len8tab i = 0 := by
   unfold bt
   exact dif_neg h
  omega
theorem len64_j0 (x0 x2 : Int) (h2 : 0 ≤ x2) (h3 : x2 ≤ 32) : ∃ n, bits_Len64.j0 1 x0 x2 = some n ∧ n ≤ 64 := by
 have e0 : ∀ y : Int, 0 ≤ y % 256 := fun y => Int.emod_nonneg _ (by decide)
 have e1 : ∀ y : Int, y % 256 < 256 := fun y => Int.emod_lt_of_pos _ (by decide)
 have hb : ∀ y : Int, 0 ≤ bt len8tab y := fun y => (bt_range _ _).1
 have key : bits_Len64.j0 1 x0 x2 = if x0 ≥ 65536 then (if (x0 / 65536) ≥ 256 then (if 0 ≤ (((x0 / 65536) / 256) % 256) then (if (((x0 / 65536) / 256) % 256) < 256 then (some (wrap64 ((wrap64 ((wrap64 (x2 + 16)) + 8)) + (wrap64 (bt len8tab (((x0 / 65536) / 256) % 256)))))) else (none)) else (none)) else (if 0 ≤ ((x0 / 65536) % 256) then (if ((x0 / 65536) % 256) < 256 then (some (wrap64 ((wrap64 (x2 + 16)) + (wrap64 (bt len8tab ((x0 / 65536) % 256)))))) else (none)) else (none))) else (if x0 ≥ 256 then (if 0 ≤ ((x0 / 256) % 256) then (if ((x0 / 256) % 256) < 256 then (some (wrap64 ((wrap64 (x2 + 8)) + (wrap64 (bt len8tab ((x0 / 256) % 256)))))) else (none)) else (none)) else (if 0 ≤ (x0 % 256) then (if (x0 % 256) < 256 then (some (wrap64 (x2 + (wrap64 (bt len8tab (x0 % 256)))))) else (none)) else (none))) := rfl
 rw [key]
 split <;> split <;> rw [if_pos (e0 _), if_pos (e1 _)] <;> refine ⟨_, rfl, ?_⟩ <;> unfold wrap64
 ·have h8 := len8_le (((x0 / 65536) / 256) % 256)
  have h9 := hb (((x0 / 65536) / 256) % 256)
  omega
 ·have h8 := len8_le ((x0 / 65536) % 256)
  have h9 := hb ((x0 / 65536) % 256)
  omega
 ·have h8 := len8_le ((x0 / 256) % 256)
  have h9 := hb ((x0 / 256) % 256)
  omega
 ·have h8 := len8_le (x0 % 256)
  have h9 := hb (x0 % 256)
  omega
theorem len64_le (a : Int) : ∃ n, bits_Len64.f 1 a = some n ∧ n ≤ 64 := by
 unfold bits_Len64.f
 split
 ·exact len64_j0 _ _ (by decide) (by decide)
 ·exact len64_j0 _ _ (by decide) (by decide)
theorem put8 (a : Int) : octets_Put.f 1 a 8 = some (oct_put a (oct_sh 8), 0) := by
 obtain ⟨n, hn, h64⟩ := len64_le a
 unfold octets_Put.f
 rw [if_neg (by decide), if_neg (by decide), hn]
 simp only [Option.bind_some]
 rw [if_neg (by omega)]
 rfl
def cmd_op (v : Int) (o : S77) : List Int := [o.f0 % 256, (o.f1.size : Int) % 256] ++ (if v = 1 then bytesOf o.f1 ++ [0, (o.f2.size : Int) % 256] else [(o.f2.size : Int) % 256] ++ bytesOf o.f1) ++ bytesOf o.f2
def cmd_head (v a b c d n : Int) : List Int := [v % 256, a % 256] ++ (if v = 1 then oct_put b (oct_sh 8) else cmd_vi 6 b) ++ [c % 256, d % 256, n % 256]
def cmd_octets (v a b c d : Int) (l : List S77) : List Int := cmd_head v a b c d l.length ++ l.flatMap (cmd_op v)
def cmd_encode (v a b c d : Int) (l : List S77) : List Int × Int :=
 if cmd_check a b c d l ≠ 0 then ([], cmd_check a b c d l) else if v = 1 ∧ a ≠ 5 ∧ l.length ≤ 4 then (cmd_octets v a b c d l, 0) else if v = 2 then (cmd_octets v a b c d l, 0) else ([], 131)
def command_Encode.f (a0_0 a0_1 a0_2 a0_3 : Int) (l0_4 : List S77) (a1 : Int) : Option (List Int × Int) := some (cmd_encode a1 a0_0 a0_1 a0_2 a0_3 l0_4)
theorem cmd_check_zero {a b c d : Int} {l : List S77} (h : cmd_check a b c d l = 0) : 0 ≤ b ∧ b ≤ 1099511627776 ∧ l.length ≤ 16 ∧ ∀ o ∈ l, o.f1.size ≤ 32 ∧ o.f2.size ≤ 64 := by
 unfold cmd_check at h
 split at h
 ·omega
 split at h
 ·omega
 split at h
 ·omega
 split at h
 ·omega
 split at h
 ·omega
 rename_i h1 h2 h3 h4 h5
 have n1 : cmd_numbers a b c d = true := by simpa using h2
 unfold cmd_numbers at n1
 rw [Bool.and_eq_true, Bool.and_eq_true] at n1
 have n2 := n1.1.1
 refine ⟨?_, ?_, by omega, fun o ho => ?_⟩
 ·split at n2 <;> simp at n2 <;> omega
 ·split at n2 <;> simp at n2 <;> omega
 ·have k1 : cmd_keyBad o = false := by
   cases hk : cmd_keyBad o with
   | false => rfl
   | true => exact absurd (List.any_eq_true.2 ⟨o, ho, hk⟩) h4
  have k2 : cmd_valBad o = false := by
   cases hk : cmd_valBad o with
   | false => rfl
   | true => exact absurd (List.any_eq_true.2 ⟨o, ho, hk⟩) h5
  simp [cmd_keyBad, cmd_valBad] at k1 k2
  omega
theorem own_cells {W : World} {base e g n cap : Nat} {xs : List Value} (h : W.ownsRow base e 1 (.slice (some ⟨g, 0, none⟩) n cap) n xs) : ∀ j u, xs[j]? = some u → W.cell? ((⟨g, 0, none⟩ : Addr).add j) = some u := by
 intro j u hj
 rcases h.2 with ⟨h0, _⟩ | ⟨g', cap', cur, h0, _, hh, _, _, _, ht⟩
 ·cases h0
 ·cases h0
  have e1 : (⟨g, 0, none⟩ : Addr).add j = ⟨g, j, none⟩ := add_plain g j
  rw [e1, blk_cell hh j]
  rw [← ht, List.getElem?_take] at hj
  split at hj
  ·simpa using hj
  ·cases hj
theorem enc_lit_new {w W : World} (hB : Below w.heap.size w W) (ys : List Int) (hl : ys.length ≤ 1000) : enc_at w.heap.size w (W.alloc (.cells (nums .u8 ys).toArray 5)) (.slice (some ⟨W.heap.size, 0, none⟩) ys.length ys.length) ys := by
 refine ⟨⟨by simp [nums], .inr ⟨W.heap.size, ys.length, (nums .u8 ys).toArray, rfl, hB.size, heap_alloc_new W _, Nat.le_refl _, by have : maxLen = 9223372036854775807 := rfl; omega, by simp [nums], by rw [Nat.mul_one]; exact List.take_of_length_le (by simp [nums])⟩⟩, hB.alloc hB.size _, by have := hB.size; simp; omega⟩
section
attribute [local go_sem ↓ 5000] builtin_shutApp
set_option maxRecDepth 100000 in
set_option maxHeartbeats 4000000 in
theorem command_Encode.calls (a0_0 : Int) (a0_1 : Int) (a0_2 : Int) (a0_3 : Int) (A0_4 : Option Addr) (c0_4 : Nat) (l0_4 : List S77) (a1 : Int) (r : List Int) (r1 : Int) (w : World) (hr0_4 : Kd.C k77 w A0_4 l0_4.length l0_4) (hc0_4 : l0_4.length ≤ c0_4) (h : command_Encode.f a0_0 a0_1 a0_2 a0_3 l0_4 a1 = some (r, r1)) :
  Calls Try.prog 23 #[.agg #[.int .i64 a0_0, .int .i64 a0_1, .int .i64 a0_2, .int .i64 a0_3, .slice A0_4 l0_4.length c0_4], .int .i64 a1] w fun e w' => ∃ v0_ : Value, e = .returned (.tuple #[v0_, .int .i64 r1]) ∧ Kd.R (Kd.int .u8) 5 w' w.heap.size (fun _ => True) v0_ r ∧ Below w.heap.size w w' := by
 have HQ := Aside0.mk (Option.some.inj h)
 clear h
 have HR := Aside0.mk hr0_4
 clear hr0_4
 obtain ⟨ch, hch⟩ : ∃ ch, cmd_check a0_0 a0_1 a0_2 a0_3 l0_4 = ch := ⟨_, rfl⟩
 have CE := Aside0.mk (fun (W : World) (h : W.heap[w.heap.size]? = some (.cells #[.int .i64 a0_0, .int .i64 a0_1, .int .i64 a0_2, .int .i64 a0_3, .slice A0_4 l0_4.length c0_4] 43 (0, 0))) => (show
   W.cell? ⟨w.heap.size, 0, none⟩ = some (.int .i64 a0_0) ∧ W.cell? ⟨w.heap.size, 1, none⟩ = some (.int .i64 a0_1) ∧ W.cell? ⟨w.heap.size, 2, none⟩ = some (.int .i64 a0_2) ∧ W.cell? ⟨w.heap.size, 3, none⟩ = some (.int .i64 a0_3) ∧ W.cell? ⟨w.heap.size, 4, none⟩ = some (.slice A0_4 l0_4.length c0_4) from
  ⟨(blk_cell h 0).trans rfl, (blk_cell h 1).trans rfl, (blk_cell h 2).trans rfl, (blk_cell h 3).trans rfl, (blk_cell h 4).trans rfl⟩))
 have N := Aside0.mk (fun (W : World) (hb : Below w.heap.size w W) => command_Check.calls a0_0 a0_1 a0_2 a0_3 A0_4 c0_4 l0_4 ch W (Kd.C_below HR.out hb) hc0_4 (by rw [← hch]; rfl))
 clear hc0_4
 have B0 := Aside0.mk (below_alloc (Below.refl w.heap.size w) (.cells #[.int .i64 a0_0, .int .i64 a0_1, .int .i64 a0_2, .int .i64 a0_3, .slice A0_4 l0_4.length c0_4] 43))
 have K0 := Aside0.mk (blk_new w (.cells #[.int .i64 a0_0, .int .i64 a0_1, .int .i64 a0_2, .int .i64 a0_3, .slice A0_4 l0_4.length c0_4] 43))
 go_enter Try.func23, Try.ntmps23
 go_wp2_with fail
 refine (N.out _ B0.out).mono ?_
 rintro e w1 ⟨rfl, B1⟩
 have K1 := Aside0.mk (blk_below K0.out B1)
 replace B1 := Aside0.mk (below_step B0.out B1)
 clear B0 K0 N
 by_cases he : ch = 0
 case neg =>
  have c1 : (ch != 0) = true := by simpa using he
  have hq := HQ.out
  unfold cmd_encode at hq
  rw [hch, if_pos he] at hq
  cases hq
  go_wp2
  refine bodyPost_ret (results_list (vs := [.slice none 0 0, .int .i64 _]) rfl (by simp) (.tmp (.tmp .nil))) rfl ?_
  exact ⟨_, rfl, Kd.R_nil _ _ _ _ _, B1.out⟩
 subst he
 obtain ⟨hb0, hb1, hlen, hops⟩ := cmd_check_zero hch
 have HO := Aside0.mk hops
 have HLN := Aside0.mk hlen
 clear hops hlen
 obtain ⟨z0, z1, z2, z3, z4⟩ := CE.out w1 K1.out
 have hlt1 : w.heap.size < w1.heap.size := blk_lt K1.out
 have E1 := Aside0.mk (enc_lit_new B1.out [a1 % 256, a0_0 % 256] (by simp))
 have KA := Aside0.mk (blk_alloc K1.out (.cells #[.int .u8 (a1 % 256), .int .u8 (a0_0 % 256)] 5))
 have BA := Aside0.mk (below_alloc B1.out (.cells #[.int .u8 (a1 % 256), .int .u8 (a0_0 % 256)] 5))
 have ways : (a1 = 1 ∧ a0_0 ≠ 5 ∧ l0_4.length ≤ 4) ∨ a1 = 2 ∨ (a1 = 1 ∧ a0_0 = 5) ∨ (a1 = 1 ∧ a0_0 ≠ 5 ∧ ¬ l0_4.length ≤ 4) ∨ (a1 ≠ 1 ∧ a1 ≠ 2) := by omega
 have HE := Aside0.mk (show cmd_encode a1 a0_0 a0_1 a0_2 a0_3 l0_4 = if a1 = 1 ∧ a0_0 ≠ 5 ∧ l0_4.length ≤ 4 then (cmd_octets a1 a0_0 a0_1 a0_2 a0_3 l0_4, 0) else if a1 = 2 then (cmd_octets a1 a0_0 a0_1 a0_2 a0_3 l0_4, 0) else ([], 131) from by unfold cmd_encode; rw [if_neg (not_not_intro hch)])
 have c1 : ((0 : Int) != 0) = false := rfl
 rcases ways with ⟨v1, v2, v3⟩ | v1 | ⟨v1, v2⟩ | ⟨v1, v2, v3⟩ | ⟨v1, v2⟩
 case inl =>
  have hq := HQ.out
  rw [HE.out, if_pos ⟨v1, v2, v3⟩] at hq
  subst v1
  have hc5 : (a0_0 != 5) = true := by simpa using v2
  have hc4 : decide ((l0_4.length : Int) ≤ 4) = true := decide_eq_true (by omega)
  have hcv : a0_1 % 18446744073709551616 = a0_1 := by omega
  have P8 := Aside0.mk (fun W => octets_Put.calls 1 a0_1 8 _ _ W (put8 a0_1))
  clear v2 v3
  have E1' := Aside0.mk (show enc_at w.heap.size w (w1.alloc (.cells #[.int .u8 1, .int .u8 (a0_0 % 256)] 5)) (.slice (some ⟨w1.heap.size, 0, none⟩) 2 2) [1, a0_0 % 256] from E1.out)
  have KA' := Aside0.mk (blk_alloc K1.out (.cells #[.int .u8 1, .int .u8 (a0_0 % 256)] 5))
  clear E1 KA BA
  go_wp2_with fail
  refine (P8.out _).mono ?_
  rintro e w2 ⟨v0, rfl, hR8, hB8⟩
  have ho8 := Kd.own_of_R hR8
  have len8 : (oct_put a0_1 (oct_sh 8)).length = 8 := by simp [oct_put, oct_sh]
  rw [len8] at ho8
  obtain ⟨g8, cap8, rfl⟩ := ownsRow_succ ho8
  obtain ⟨g3, cap3, w3, hrun3, hat3, hk3, _⟩ := enc_app (enc_at_below E1'.out hB8) ⟨g8, 0, none⟩ 8 cap8 (oct_put a0_1 (oct_sh 8)) len8 (own_cells ho8) (by simp) (by simp)
  have K3 := Aside0.mk (hk3 _ _ _ (by decide) (blk_below KA'.out hB8))
  have K2 := Aside0.mk (blk_below KA'.out hB8)
  obtain ⟨xs3, hxs3⟩ : ∃ z, [1, a0_0 % 256] ++ oct_put a0_1 (oct_sh 8) = z := ⟨_, rfl⟩
  have hl3 : ([1, a0_0 % 256] : List Int).length + 8 = xs3.length := by rw [← hxs3, List.length_append, len8]
  rw [hl3] at hrun3 hat3
  rw [hxs3] at hat3
  have E3 := Aside0.mk hat3
  have HL3 := Aside0.mk (show xs3.length ≤ 100 from by rw [← hl3]; simp)
  have HY0 := Aside0.mk (show (xs3 ++ [a0_2 % 256, a0_3 % 256, (l0_4.length : Int) % 256]) ++ (l0_4.drop 0).flatMap (cmd_op 1) = r from by
   have hq1 : cmd_octets 1 a0_0 a0_1 a0_2 a0_3 l0_4 = r := congrArg Prod.fst hq
   rw [← hq1, ← hxs3]
   simp [cmd_octets, cmd_head])
  obtain rfl : r1 = 0 := (congrArg Prod.snd hq).symm
  clear hc4 hq hR8 hB8 ho8 len8 hat3 hk3 hl3 hxs3 E1' KA' P8
  have hrun3' : (shutApp #[57, 57] 57 #[.slice (some ⟨w1.heap.size, 0, none⟩) 2 2, .slice (some ⟨g8, 0, none⟩) 8 cap8]).run Try.prog w2 = .ok (.value (.slice (some ⟨g3, 0, none⟩) xs3.length cap3)) w3 := hrun3
  clear hrun3
  obtain ⟨g4, cap4, w4, hrun4, hat4, hk4⟩ := enc_lit E3.out [a0_2 % 256, a0_3 % 256, (l0_4.length : Int) % 256] (by simp) (by have := HL3.out; simp; omega)
  have hrun4' : (shutApp #[57, 57] 57 #[.slice (some ⟨g3, 0, none⟩) xs3.length cap3, .slice (some ⟨w3.heap.size, 0, none⟩) 3 3]).run Try.prog (w3.alloc (.cells #[.int .u8 (a0_2 % 256), .int .u8 (a0_3 % 256), .int .u8 ((l0_4.length : Int) % 256)] 5)) = .ok (.value (.slice (some ⟨g4, 0, none⟩) (xs3.length + 3) cap4)) w4 := hrun4
  clear hrun4
  have K4 := Aside0.mk (hk4 _ _ _ (by decide) K3.out)
  have E4 := Aside0.mk hat4
  clear hat4 hk4 z0 z1 z2 z3 z4
  obtain ⟨z0, z1, z2, z3, z4⟩ := CE.out w3 K3.out
  obtain ⟨y0, y1, y2, y3, y4⟩ := CE.out w4 K4.out
  go_wp2
  go_loopw [7, 70] (fun v7 v70 wr => ∃ (m : Nat) (ys : List Int) (g cap : Nat), m ≤ l0_4.length ∧ v7 = .slice (some ⟨g, 0, none⟩) ys.length cap ∧ v70 = .int .i64 m ∧ Aside0 (enc_at w.heap.size w wr (.slice (some ⟨g, 0, none⟩) ys.length cap) ys) ∧ Aside0 (wr.heap[w.heap.size]? = some (.cells #[.int .i64 a0_0, .int .i64 a0_1, .int .i64 a0_2, .int .i64 a0_3, .slice A0_4 l0_4.length c0_4] 43 (0, 0))) ∧ Aside0 (ys ++ (l0_4.drop m).flatMap (cmd_op 1) = r) ∧ Aside0 (ys.length ≤ 200 + 200 * m)) (fun _ v70 _ => l0_4.length - (intOf v70).toNat)
  case atStart =>
   refine ⟨0, _, g4, cap4, Nat.zero_le _, ?_, rfl, ⟨?_⟩, K4, HY0, ⟨?_⟩⟩
   ·rw [List.length_append]; rfl
   ·rw [List.length_append]; exact E4.out
   ·have := HL3.out; simp; omega
  case round =>
   obtain ⟨m, ys, g, cap, hm, rfl, rfl, HA, HK, HY, HLy⟩ := hrel
   by_cases hlt : m < l0_4.length
   ·obtain ⟨ad, rfl, x0, x1, x2⟩ := at_T77 (Kd.C_below HR.out HA.out.2.1) (m : Int) (by omega) (by omega)
    rw [Int.toNat_natCast] at x0 x1 x2
    obtain ⟨o, ho⟩ : ∃ o, rd_T77 l0_4 (m : Int) = o := ⟨_, rfl⟩
    rw [ho] at x0 x1 x2
    have hget : l0_4[m] = o := by rw [← ho]; simp [rd_T77, List.getD_eq_getElem?_getD, List.getElem?_eq_getElem hlt]
    have hsz := HO.out o (by rw [← hget]; exact List.getElem_mem hlt)
    have HS := Aside0.mk hsz
    have HD := Aside0.mk (show l0_4.drop m = o :: l0_4.drop (m + 1) from by rw [List.drop_eq_getElem_cons hlt, hget])
    have hmul : m ≤ 16 := by have := HLN.out; omega
    clear ho hget hsz
    obtain ⟨g1, cap1, u1, hr1, ha1, hk1⟩ := enc_lit (enc_at_alloc HA.out (.cells #[.int .i64 o.f0, .string o.f1, .string o.f2] 77)) [o.f0 % 256, (o.f1.size : Int) % 256] (by simp) (by have := HLy.out; simp; omega)
    have hr1' : (shutApp #[57, 57] 57 #[.slice (some ⟨g, 0, none⟩) ys.length cap, .slice (some ⟨wr.heap.size + 1, 0, none⟩) 2 2]).run Try.prog ((wr.alloc (.cells #[.int .i64 o.f0, .string o.f1, .string o.f2] 77)).alloc (.cells #[.int .u8 (o.f0 % 256), .int .u8 ((o.f1.size : Int) % 256)] 5)) = .ok (.value (.slice (some ⟨g1, 0, none⟩) (ys.length + 2) cap1)) u1 := by
     have := hr1
     rw [World.size_alloc] at this
     exact this
    have kb1 := hk1 _ _ _ (by decide) (blk_new wr (.cells #[.int .i64 o.f0, .string o.f1, .string o.f2] 77))
    have KC1 := Aside0.mk (hk1 _ _ _ (by decide) (blk_alloc HK.out (.cells #[.int .i64 o.f0, .string o.f1, .string o.f2] 77)))
    obtain ⟨ys1, hys1⟩ : ∃ z, ys ++ [o.f0 % 256, (o.f1.size : Int) % 256] = z := ⟨_, rfl⟩
    have hl1 : ys.length + 2 = ys1.length := by rw [← hys1, List.length_append]; rfl
    rw [hl1] at hr1'
    have A1 := Aside0.mk (show enc_at w.heap.size w u1 (.slice (some ⟨g1, 0, none⟩) ys1.length cap1) ys1 from by rw [← hl1, ← hys1]; exact ha1)
    have Q1 := Aside0.mk kb1
    have b0 : u1.cell? ⟨wr.heap.size, 0, none⟩ = some (.int .i64 o.f0) := (blk_cell kb1 0).trans rfl
    have b1 : u1.cell? ⟨wr.heap.size, 1, none⟩ = some (.string o.f1) := (blk_cell kb1 1).trans rfl
    have b2 : u1.cell? ⟨wr.heap.size, 2, none⟩ = some (.string o.f2) := (blk_cell kb1 2).trans rfl
    have hbu : wr.heap.size < u1.heap.size := blk_lt kb1
    have hy1 : ys1.length ≤ 202 + 200 * m := by have := HLy.out; omega
    have HY1 := Aside0.mk hys1
    have HL1 := Aside0.mk hy1
    have HL1' := Aside0.mk hl1
    clear hr1 ha1 hk1 kb1 hys1 hl1 hy1
    obtain ⟨g2, cap2, u2, hr2, ha2, hk2, _⟩ := enc_str (enc_at_drew A1.out) o.f1 (by have := HL1'.out; omega) (by have := HL1.out; have := HS.out; omega)
    obtain ⟨ys2, hys2⟩ : ∃ z, ys1 ++ bytesOf o.f1 = z := ⟨_, rfl⟩
    have hl2 : ys1.length + o.f1.size = ys2.length := by rw [← hys2, List.length_append, bytesOf_length]
    have hy2 : ys2.length ≤ 234 + 200 * m := by have := HL1.out; have := HS.out; omega
    have hp2 : 0 < ys2.length := by have := HL1'.out; omega
    rw [hl2] at hr2 ha2
    rw [hys2] at ha2
    obtain ⟨g2', cap2', u2', hr2', ha2', hk2', ho2'⟩ := enc_str (enc_at_drew (enc_at_alloc A1.out (.cells #[.int .u8 0, .int .u8 ((o.f2.size : Int) % 256)] 5))) o.f1 (by have := HL1'.out; omega) (by have := HL1.out; have := HS.out; omega)
    rw [hl2] at hr2' ha2'
    rw [hys2] at ha2'
    obtain ⟨g3, cap3, u3, hr3, ha3, hk3⟩ := enc_lit ha2 [0, (o.f2.size : Int) % 256] (by omega) (by simp; omega)
    have hr3' : (shutApp #[57, 57] 57 #[.slice (some ⟨g2, 0, none⟩) ys2.length cap2, .slice (some ⟨u2.heap.size, 0, none⟩) 2 2]).run Try.prog (u2.alloc (.cells #[.int .u8 0, .int .u8 ((o.f2.size : Int) % 256)] 5)) = .ok (.value (.slice (some ⟨g3, 0, none⟩) (ys2.length + 2) cap3)) u3 := hr3
    clear hr3
    have hlit : u2'.heap[u1.heap.size]? = some (.cells #[.int .u8 0, .int .u8 ((o.f2.size : Int) % 256)] 5 (0, 0)) := ho2' _ _ (blk_drew (blk_new u1 _)) (by have := enc_at_lt A1.out; simp [Value.ownBlock]; omega)
    obtain ⟨g4, cap4, u4, hr4, ha4, hk4, _⟩ := enc_app ha2' ⟨u1.heap.size, 0, none⟩ 2 2 [0, (o.f2.size : Int) % 256] rfl (fun j u hj => by
     have e1 : (⟨u1.heap.size, 0, none⟩ : Addr).add j = ⟨u1.heap.size, j, none⟩ := add_plain _ j
     rw [e1, blk_cell hlit j]
     simpa [nums] using hj) (by omega) (by omega)
    obtain ⟨ys3, hys3⟩ : ∃ z, ys2 ++ [0, (o.f2.size : Int) % 256] = z := ⟨_, rfl⟩
    have hl3 : ys2.length + 2 = ys3.length := by rw [← hys3, List.length_append]; rfl
    rw [hl3] at hr3' hr4
    have A3 := Aside0.mk (show enc_at w.heap.size w u3 (.slice (some ⟨g3, 0, none⟩) ys3.length cap3) ys3 from by rw [← hl3, ← hys3]; exact ha3)
    have A4 := Aside0.mk (show enc_at w.heap.size w u4 (.slice (some ⟨g4, 0, none⟩) ys3.length cap4) ys3 from by rw [← hl3, ← hys3]; exact ha4)
    have kk3 : enc_keep u1 u3 := enc_keep_trans (fun b c t ht hb => hk2 b c t ht (blk_drew hb)) hk3
    have kk4 : enc_keep u1 u4 := enc_keep_trans (fun b c t ht hb => hk2' b c t ht (blk_drew (blk_alloc hb _))) hk4
    have kb2 := hk2 _ _ _ (by decide) (blk_drew Q1.out)
    have kb2' := hk2' _ _ _ (by decide) (blk_drew (blk_alloc Q1.out _))
    have hy3 : ys3.length ≤ 236 + 200 * m := by omega
    have hp3 : 0 < ys3.length := by omega
    have HX := Aside0.mk (show ys3 ++ bytesOf o.f2 = ys ++ cmd_op 1 o from by rw [← hys3, ← hys2, ← HY1.out]; simp [cmd_op])
    have c0' : u2.cell? ⟨wr.heap.size, 0, none⟩ = some (.int .i64 o.f0) := (blk_cell kb2 0).trans rfl
    have c1' : u2.cell? ⟨wr.heap.size, 1, none⟩ = some (.string o.f1) := (blk_cell kb2 1).trans rfl
    have c2' : u2.cell? ⟨wr.heap.size, 2, none⟩ = some (.string o.f2) := (blk_cell kb2 2).trans rfl
    have d1' : u2'.cell? ⟨wr.heap.size, 1, none⟩ = some (.string o.f1) := (blk_cell kb2' 1).trans rfl
    have d2' : u2'.cell? ⟨wr.heap.size, 2, none⟩ = some (.string o.f2) := (blk_cell kb2' 2).trans rfl
    have kq3 := kk3 _ _ _ (by decide) Q1.out
    have kq4 := kk4 _ _ _ (by decide) Q1.out
    have e2' : u3.cell? ⟨wr.heap.size, 2, none⟩ = some (.string o.f2) := (blk_cell kq3 2).trans rfl
    have f2' : u4.cell? ⟨wr.heap.size, 2, none⟩ = some (.string o.f2) := (blk_cell kq4 2).trans rfl
    have KC3 := Aside0.mk (kk3 _ _ _ (by decide) KC1.out)
    have KC4 := Aside0.mk (kk4 _ _ _ (by decide) KC1.out)
    have HL3' := Aside0.mk hy3
    have HP3 := Aside0.mk hp3
    clear hl2 hys2 hy2 hp2 ha2 hk2 ha2' hk2' ho2' ha3 hk3 hlit ha4 hk4 hys3 hl3 kk3 kk4 kb2 kb2' hy3 hp3 kq3 kq4
    obtain ⟨g5, cap5, u5, hr5, ha5, hk5, _⟩ := enc_str A3.out o.f2 (by have := HP3.out; omega) (by have := HL3'.out; have := HS.out; omega)
    obtain ⟨g6, cap6, u6, hr6, ha6, hk6, _⟩ := enc_str A4.out o.f2 (by have := HP3.out; omega) (by have := HL3'.out; have := HS.out; omega)
    obtain ⟨ys5, hys5⟩ : ∃ z, ys3 ++ bytesOf o.f2 = z := ⟨_, rfl⟩
    have hl5 : ys3.length + o.f2.size = ys5.length := by rw [← hys5, List.length_append, bytesOf_length]
    rw [hl5] at hr5 ha5 hr6 ha6
    rw [hys5] at ha5 ha6
    have HF5 := Aside0.mk (show enc_at w.heap.size w u5 (.slice (some ⟨g5, 0, none⟩) ys5.length cap5) ys5 ∧ u5.heap[w.heap.size]? = _ from ⟨ha5, hk5 _ _ _ (by decide) KC3.out⟩)
    have HF6 := Aside0.mk (show enc_at w.heap.size w u6 (.slice (some ⟨g6, 0, none⟩) ys5.length cap6) ys5 ∧ u6.heap[w.heap.size]? = _ from ⟨ha6, hk6 _ _ _ (by decide) KC4.out⟩)
    have HX5 := Aside0.mk (show ys5 ++ (l0_4.drop (m + 1)).flatMap (cmd_op 1) = r ∧ ys5.length ≤ 200 + 200 * (m + 1) from by
     constructor
     ·rw [← hys5, HX.out, ← HY.out, HD.out]; simp
     ·have := HL3'.out; have := HS.out; omega)
    clear hl5 hys5 ha5 ha6 hk5 hk6
    go_wp2
    go_region
    ·go_wp2
     go_roundw
     case rel => exact ⟨m + 1, ys5, g5, cap5, by omega, rfl, by go_num, ⟨HF5.out.1⟩, ⟨HF5.out.2⟩, ⟨HX5.out.1⟩, ⟨HX5.out.2⟩⟩
     case measure => simp [intOf]; omega
    ·go_wp2
     go_roundw
     case rel => exact ⟨m + 1, ys5, g6, cap6, by omega, rfl, by go_num, ⟨HF6.out.1⟩, ⟨HF6.out.2⟩, ⟨HX5.out.1⟩, ⟨HX5.out.2⟩⟩
     case measure => simp [intOf]; omega
   ·obtain rfl : m = l0_4.length := by omega
    clear hlt
    have hfin := HY.out
    rw [List.drop_length] at hfin
    simp at hfin
    subst hfin
    go_wp2
    refine bodyPost_ret (results_list (vs := [.slice (some ⟨g, 0, none⟩) ys.length cap, .int .i64 0]) rfl (by simp) (.tmp (.tmp .nil))) rfl ?_
    exact ⟨_, rfl, Kd.R_of_own HA.out.1 (fun _ _ => trivial), HA.out.2.1⟩
 case inr.inl =>
  subst v1
  have hq := HQ.out
  rw [HE.out, if_neg (by omega), if_pos rfl] at hq
  have E1' := Aside0.mk (show enc_at w.heap.size w (w1.alloc (.cells #[.int .u8 2, .int .u8 (a0_0 % 256)] 5)) (.slice (some ⟨w1.heap.size, 0, none⟩) 2 2) [2, a0_0 % 256] from E1.out)
  have KA' := Aside0.mk (blk_alloc K1.out (.cells #[.int .u8 2, .int .u8 (a0_0 % 256)] 5))
  clear E1 KA BA
  have CV := Aside0.mk (cmd_varint E1'.out (by simp) a0_1 hb0 (by omega))
  clear hb0 hb1
  go_wp2_with fail
  refine CV.out.mono ?_
  rintro e w3 ⟨g3, cap3, rfl, hat3, hk3⟩
  have K3 := Aside0.mk (hk3 _ _ _ (by decide) KA'.out)
  obtain ⟨xs3, hxs3⟩ : ∃ z, [2, a0_0 % 256] ++ cmd_vi 6 a0_1 = z := ⟨_, rfl⟩
  rw [hxs3] at hat3
  rw [hxs3]
  have E3 := Aside0.mk hat3
  have HL3 := Aside0.mk (show xs3.length ≤ 100 from by rw [← hxs3]; have := cmd_vi_length 6 a0_1; simp; omega)
  have HY0 := Aside0.mk (show (xs3 ++ [a0_2 % 256, a0_3 % 256, (l0_4.length : Int) % 256]) ++ (l0_4.drop 0).flatMap (cmd_op 2) = r from by
   have hq1 : cmd_octets 2 a0_0 a0_1 a0_2 a0_3 l0_4 = r := congrArg Prod.fst hq
   rw [← hq1, ← hxs3]
   simp [cmd_octets, cmd_head])
  obtain rfl : r1 = 0 := (congrArg Prod.snd hq).symm
  clear hq hat3 hk3 hxs3 E1' KA' CV
  obtain ⟨g4, cap4, w4, hrun4, hat4, hk4⟩ := enc_lit E3.out [a0_2 % 256, a0_3 % 256, (l0_4.length : Int) % 256] (by simp) (by have := HL3.out; simp; omega)
  have hrun4' : (shutApp #[57, 57] 57 #[.slice (some ⟨g3, 0, none⟩) xs3.length cap3, .slice (some ⟨w3.heap.size, 0, none⟩) 3 3]).run Try.prog (w3.alloc (.cells #[.int .u8 (a0_2 % 256), .int .u8 (a0_3 % 256), .int .u8 ((l0_4.length : Int) % 256)] 5)) = .ok (.value (.slice (some ⟨g4, 0, none⟩) (xs3.length + 3) cap4)) w4 := hrun4
  clear hrun4
  have K4 := Aside0.mk (hk4 _ _ _ (by decide) K3.out)
  have E4 := Aside0.mk hat4
  clear hat4 hk4 z0 z1 z2 z3 z4
  obtain ⟨z0, z1, z2, z3, z4⟩ := CE.out w3 K3.out
  obtain ⟨y0, y1, y2, y3, y4⟩ := CE.out w4 K4.out
  go_wp2
  go_loopw [7, 70] (fun v7 v70 wr => ∃ (m : Nat) (ys : List Int) (g cap : Nat), m ≤ l0_4.length ∧ v7 = .slice (some ⟨g, 0, none⟩) ys.length cap ∧ v70 = .int .i64 m ∧ Aside0 (enc_at w.heap.size w wr (.slice (some ⟨g, 0, none⟩) ys.length cap) ys) ∧ Aside0 (wr.heap[w.heap.size]? = some (.cells #[.int .i64 a0_0, .int .i64 a0_1, .int .i64 a0_2, .int .i64 a0_3, .slice A0_4 l0_4.length c0_4] 43 (0, 0))) ∧ Aside0 (ys ++ (l0_4.drop m).flatMap (cmd_op 2) = r) ∧ Aside0 (ys.length ≤ 200 + 200 * m)) (fun _ v70 _ => l0_4.length - (intOf v70).toNat)
  case atStart =>
   refine ⟨0, _, g4, cap4, Nat.zero_le _, ?_, rfl, ⟨?_⟩, K4, HY0, ⟨?_⟩⟩
   ·rw [List.length_append]; rfl
   ·rw [List.length_append]; exact E4.out
   ·have := HL3.out; simp; omega
  case round =>
   obtain ⟨m, ys, g, cap, hm, rfl, rfl, HA, HK, HY, HLy⟩ := hrel
   by_cases hlt : m < l0_4.length
   ·obtain ⟨ad, rfl, x0, x1, x2⟩ := at_T77 (Kd.C_below HR.out HA.out.2.1) (m : Int) (by omega) (by omega)
    rw [Int.toNat_natCast] at x0 x1 x2
    obtain ⟨o, ho⟩ : ∃ o, rd_T77 l0_4 (m : Int) = o := ⟨_, rfl⟩
    rw [ho] at x0 x1 x2
    have hget : l0_4[m] = o := by rw [← ho]; simp [rd_T77, List.getD_eq_getElem?_getD, List.getElem?_eq_getElem hlt]
    have hsz := HO.out o (by rw [← hget]; exact List.getElem_mem hlt)
    have HS := Aside0.mk hsz
    have HD := Aside0.mk (show l0_4.drop m = o :: l0_4.drop (m + 1) from by rw [List.drop_eq_getElem_cons hlt, hget])
    have hmul : m ≤ 16 := by have := HLN.out; omega
    clear ho hget hsz
    obtain ⟨g1, cap1, u1, hr1, ha1, hk1⟩ := enc_lit (enc_at_alloc HA.out (.cells #[.int .i64 o.f0, .string o.f1, .string o.f2] 77)) [o.f0 % 256, (o.f1.size : Int) % 256] (by simp) (by have := HLy.out; simp; omega)
    have hr1' : (shutApp #[57, 57] 57 #[.slice (some ⟨g, 0, none⟩) ys.length cap, .slice (some ⟨wr.heap.size + 1, 0, none⟩) 2 2]).run Try.prog ((wr.alloc (.cells #[.int .i64 o.f0, .string o.f1, .string o.f2] 77)).alloc (.cells #[.int .u8 (o.f0 % 256), .int .u8 ((o.f1.size : Int) % 256)] 5)) = .ok (.value (.slice (some ⟨g1, 0, none⟩) (ys.length + 2) cap1)) u1 := by
     have := hr1
     rw [World.size_alloc] at this
     exact this
    have kb1 := hk1 _ _ _ (by decide) (blk_new wr (.cells #[.int .i64 o.f0, .string o.f1, .string o.f2] 77))
    have KC1 := Aside0.mk (hk1 _ _ _ (by decide) (blk_alloc HK.out (.cells #[.int .i64 o.f0, .string o.f1, .string o.f2] 77)))
    obtain ⟨ys1, hys1⟩ : ∃ z, ys ++ [o.f0 % 256, (o.f1.size : Int) % 256] = z := ⟨_, rfl⟩
    have hl1 : ys.length + 2 = ys1.length := by rw [← hys1, List.length_append]; rfl
    rw [hl1] at hr1'
    have A1 := Aside0.mk (show enc_at w.heap.size w u1 (.slice (some ⟨g1, 0, none⟩) ys1.length cap1) ys1 from by rw [← hl1, ← hys1]; exact ha1)
    have Q1 := Aside0.mk kb1
    have b0 : u1.cell? ⟨wr.heap.size, 0, none⟩ = some (.int .i64 o.f0) := (blk_cell kb1 0).trans rfl
    have b1 : u1.cell? ⟨wr.heap.size, 1, none⟩ = some (.string o.f1) := (blk_cell kb1 1).trans rfl
    have b2 : u1.cell? ⟨wr.heap.size, 2, none⟩ = some (.string o.f2) := (blk_cell kb1 2).trans rfl
    have hbu : wr.heap.size < u1.heap.size := blk_lt kb1
    have hy1 : ys1.length ≤ 202 + 200 * m := by have := HLy.out; omega
    have HY1 := Aside0.mk hys1
    have HL1 := Aside0.mk hy1
    have HL1' := Aside0.mk hl1
    clear hr1 ha1 hk1 kb1 hys1 hl1 hy1
    obtain ⟨g2, cap2, u2, hr2, ha2, hk2⟩ := enc_litd A1.out [(o.f2.size : Int) % 256] (by have := HL1'.out; simp) (by have := HL1.out; simp; omega)
    have hr2' : (shutApp #[57, 57] 57 #[.slice (some ⟨g1, 0, none⟩) ys1.length cap1, .slice (some ⟨u1.heap.size, 0, none⟩) 1 1]).run Try.prog (u1.alloc (.cells #[.int .u8 ((o.f2.size : Int) % 256)] 5)).drew = .ok (.value (.slice (some ⟨g2, 0, none⟩) (ys1.length + 1) cap2)) u2 := hr2
    clear hr2
    obtain ⟨ys2, hys2⟩ : ∃ z, ys1 ++ [(o.f2.size : Int) % 256] = z := ⟨_, rfl⟩
    have hl2 : ys1.length + 1 = ys2.length := by rw [← hys2, List.length_append]; rfl
    have hy2 : ys2.length ≤ 203 + 200 * m := by have := HL1.out; omega
    rw [hl2] at hr2'
    have A2 := Aside0.mk (show enc_at w.heap.size w u2 (.slice (some ⟨g2, 0, none⟩) ys2.length cap2) ys2 from by rw [← hl2, ← hys2]; exact ha2)
    obtain ⟨g3, cap3, u3, hr3, ha3, hk3, _⟩ := enc_str A2.out o.f1 (by omega) (by have := HS.out; omega)
    obtain ⟨ys3, hys3⟩ : ∃ z, ys2 ++ bytesOf o.f1 = z := ⟨_, rfl⟩
    have hl3 : ys2.length + o.f1.size = ys3.length := by rw [← hys3, List.length_append, bytesOf_length]
    rw [hl3] at hr3 ha3
    rw [hys3] at ha3
    have A3 := Aside0.mk ha3
    have kb2 := hk2 _ _ _ (by decide) Q1.out
    have kk3 : enc_keep u1 u3 := enc_keep_trans hk2 hk3
    have hy3 : ys3.length ≤ 236 + 200 * m := by have := HS.out; omega
    have hp3 : 0 < ys3.length := by omega
    have HX := Aside0.mk (show ys3 ++ bytesOf o.f2 = ys ++ cmd_op 2 o from by rw [← hys3, ← hys2, ← HY1.out]; simp [cmd_op])
    have c0' : u2.cell? ⟨wr.heap.size, 0, none⟩ = some (.int .i64 o.f0) := (blk_cell kb2 0).trans rfl
    have c1' : u2.cell? ⟨wr.heap.size, 1, none⟩ = some (.string o.f1) := (blk_cell kb2 1).trans rfl
    have c2' : u2.cell? ⟨wr.heap.size, 2, none⟩ = some (.string o.f2) := (blk_cell kb2 2).trans rfl
    have kq3 := kk3 _ _ _ (by decide) Q1.out
    have e2' : u3.cell? ⟨wr.heap.size, 2, none⟩ = some (.string o.f2) := (blk_cell kq3 2).trans rfl
    have KC3 := Aside0.mk (kk3 _ _ _ (by decide) KC1.out)
    have HL3' := Aside0.mk hy3
    have HP3 := Aside0.mk hp3
    clear hl2 hys2 hy2 ha2 hk2 ha3 hk3 hys3 hl3 kk3 kb2 hy3 hp3 kq3
    obtain ⟨g5, cap5, u5, hr5, ha5, hk5, _⟩ := enc_str A3.out o.f2 (by have := HP3.out; omega) (by have := HL3'.out; have := HS.out; omega)
    obtain ⟨ys5, hys5⟩ : ∃ z, ys3 ++ bytesOf o.f2 = z := ⟨_, rfl⟩
    have hl5 : ys3.length + o.f2.size = ys5.length := by rw [← hys5, List.length_append, bytesOf_length]
    rw [hl5] at hr5 ha5
    rw [hys5] at ha5
    have HF5 := Aside0.mk (show enc_at w.heap.size w u5 (.slice (some ⟨g5, 0, none⟩) ys5.length cap5) ys5 ∧ u5.heap[w.heap.size]? = _ from ⟨ha5, hk5 _ _ _ (by decide) KC3.out⟩)
    have HX5 := Aside0.mk (show ys5 ++ (l0_4.drop (m + 1)).flatMap (cmd_op 2) = r ∧ ys5.length ≤ 200 + 200 * (m + 1) from by
     constructor
     ·rw [← hys5, HX.out, ← HY.out, HD.out]; simp
     ·have := HL3'.out; have := HS.out; omega)
    clear hl5 hys5 ha5 hk5
    go_wp2
    go_region
    ·go_wp2
     go_roundw
     case rel => exact ⟨m + 1, ys5, g5, cap5, by omega, rfl, by go_num, ⟨HF5.out.1⟩, ⟨HF5.out.2⟩, ⟨HX5.out.1⟩, ⟨HX5.out.2⟩⟩
     case measure => simp [intOf]; omega
   ·obtain rfl : m = l0_4.length := by omega
    clear hlt
    have hfin := HY.out
    rw [List.drop_length] at hfin
    simp at hfin
    subst hfin
    go_wp2
    refine bodyPost_ret (results_list (vs := [.slice (some ⟨g, 0, none⟩) ys.length cap, .int .i64 0]) rfl (by simp) (.tmp (.tmp .nil))) rfl ?_
    exact ⟨_, rfl, Kd.R_of_own HA.out.1 (fun _ _ => trivial), HA.out.2.1⟩
 case inr.inr.inl =>
  have hq := HQ.out
  rw [HE.out, if_neg (by omega), if_neg (by omega)] at hq
  cases hq
  have x1 : (a1 == 1) = true := by simpa using v1
  have x2 : (a1 == 2) = false := by simp; omega
  have x3 : (a0_0 != 5) = false := by simpa using v2
  go_wp2
  refine bodyPost_ret (results_list (vs := [.slice none 0 0, .int .i64 _]) rfl (by simp) (.tmp (.tmp .nil))) rfl ?_
  exact ⟨_, rfl, Kd.R_nil _ _ _ _ _, below_alloc B1.out _⟩
 case inr.inr.inr.inl =>
  have hq := HQ.out
  rw [HE.out, if_neg (by omega), if_neg (by omega)] at hq
  cases hq
  have x1 : (a1 == 1) = true := by simpa using v1
  have x2 : (a1 == 2) = false := by simp; omega
  have x3 : (a0_0 != 5) = true := by simpa using v2
  have x4 : decide ((l0_4.length : Int) ≤ 4) = false := decide_eq_false (by omega)
  go_wp2
  refine bodyPost_ret (results_list (vs := [.slice none 0 0, .int .i64 _]) rfl (by simp) (.tmp (.tmp .nil))) rfl ?_
  exact ⟨_, rfl, Kd.R_nil _ _ _ _ _, below_alloc B1.out _⟩
 case inr.inr.inr.inr =>
  have hq := HQ.out
  rw [HE.out, if_neg (by omega), if_neg (by omega)] at hq
  cases hq
  have x1 : (a1 == 1) = false := by simpa using v1
  have x2 : (a1 == 2) = false := by simpa using v2
  go_wp2
  refine bodyPost_ret (results_list (vs := [.slice none 0 0, .int .i64 _]) rfl (by simp) (.tmp (.tmp .nil))) rfl ?_
  exact ⟨_, rfl, Kd.R_nil _ _ _ _ _, below_alloc B1.out _⟩
end
end Go.Proofs.Ytdlmmgehjhpmoaa.Print
