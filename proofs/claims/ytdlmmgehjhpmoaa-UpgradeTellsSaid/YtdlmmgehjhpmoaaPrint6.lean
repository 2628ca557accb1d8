/- Pruned by prune.py, a program of this project, out of what the print and its words (or this project) wrote: what this claim does not reach is struck. -/
import Derived.Test.YtdlmmgehjhpmoaaPrint0
import Derived.Test.YtdlmmgehjhpmoaaPrint5
namespace Go.Proofs.Ytdlmmgehjhpmoaa.Print
open Go.RowKit Go.Proofs.YtdlmmgehjhpmoaaW.PrintWords Go.Proofs.YtdlmmgehjhpmoaaW.PrintLast Go.Proofs.YtdlmmgehjhpmoaaW.PrintMore
attribute [local go_sem] max2_int min2_int max_two min_two max_three min_three max_four min_four
set_option linter.unusedVariables false
set_option linter.unusedSimpArgs false
def idxf_77 (p : S77 → Bool) : List (S77) → Int
 | [] => -1
 | x :: l => if p x = true then 0 else (if idxf_77 p l < 0 then -1 else idxf_77 p l + 1)
theorem idxf_77_spec (p : S77 → Bool) (l : List (S77)) : (idxf_77 p l = -1 ∧ ∀ x ∈ l, p x = false) ∨ (0 ≤ idxf_77 p l ∧ idxf_77 p l < l.length ∧ (l.take (idxf_77 p l).toNat).any p = false ∧ ∃ x, l[(idxf_77 p l).toNat]? = some x ∧ p x = true) := by
 induction l with
 | nil => exact .inl ⟨rfl, by simp⟩
 | cons x l ih =>
  simp only [idxf_77]
  by_cases hx : p x = true
  ·rw [if_pos hx]; exact .inr ⟨by omega, by simp, by simp, x, by simp, hx⟩
  ·rw [if_neg hx]
   rcases ih with ⟨e, h⟩ | ⟨h0, h1, h2, y, hy, hp⟩
   ·rw [e, if_pos (by omega)]; exact .inl ⟨rfl, by simpa [hx] using h⟩
   ·rw [if_neg (by omega)]
    obtain ⟨m, hm⟩ := Int.eq_ofNat_of_zero_le h0
    rw [hm] at h1 h2 hy ⊢
    have e1 : ((m : Int) + 1).toNat = m + 1 := by omega
    rw [e1]
    refine .inr ⟨by omega, by simp; omega, by simpa [hx] using h2, y, by simpa using hy, hp⟩
theorem idxf_77_at (p : S77 → Bool) (l : List (S77)) (k : Nat) (hk : k < l.length) (h : (l.take k).any p = false) (d : S77) (hp : p (l.getD k d) = true) : idxf_77 p l = k := by
 induction l generalizing k with
 | nil => simp at hk
 | cons x l ih =>
  cases k with
  | zero => simp at hp; simp [idxf_77, hp]
  | succ k =>
   simp at hk h hp
   have := ih k hk (by simpa using h.2) (by simpa using hp)
   simp only [idxf_77, h.1]
   rw [this]
   simp
   omega
theorem idxf_77_none (p : S77 → Bool) (l : List (S77)) (h : l.any p = false) : idxf_77 p l = -1 := by
 induction l with
 | nil => rfl
 | cons x l ih =>
  simp at h
  simp [idxf_77, h.1, ih (by simpa using h.2)]
theorem idxf_77_any (p : S77 → Bool) (l : List (S77)) : decide (0 ≤ idxf_77 p l) = l.any p := by
 cases h : l.any p with
 | false => rw [idxf_77_none p l h]; rfl
 | true =>
  rcases idxf_77_spec p l with ⟨e, h1⟩ | ⟨h0, _⟩
  ·exfalso; obtain ⟨x, hx, hp⟩ := List.any_eq_true.1 h; rw [h1 x hx] at hp; cases hp
  ·simpa using h0
theorem take_77 (l : List (S77)) (d : S77) (k : Nat) (h : k < l.length) : l.take (k + 1) = l.take k ++ [l.getD k d] := by
 rw [List.take_succ_eq_append_getElem h]
 simp [List.getD_eq_getElem?_getD, List.getElem?_eq_getElem h]
set_option maxHeartbeats 1000000 in
set_option maxRecDepth 100000 in
theorem IndexFunc_77 (g : Nat) (lb : Array Value) (p : S77 → Bool) (A : Option Addr) (c : Nat) (l : List (S77)) (w : World) (eg : ∀ (args : Array Value) (w : World), (callFunc g args).run Try.prog w = .ok (.enter g args) w) (hr : Kd.C k77 w A l.length l)
  (hp : ∀ (W : World) (x : S77), Below w.heap.size w W → Calls Try.prog g (#[(.agg #[.int .i64 x.f0, .string x.f1, .string x.f2])] ++ lb) W fun e w' => e = .returned (.bool (p x)) ∧ Below W.heap.size W w') :
  Calls Try.prog 58 #[.slice A l.length c, .func (.func g) #[] lb] w fun e w' => e = .returned (.int .i64 (idxf_77 p l)) ∧ Below w.heap.size w w' := by
 have HR := Aside0.mk hr
 clear hr
 have hmax : l.length ≤ 9223372036854775807 := HR.out.2.1
 go_enter Try.func58, Try.ntmps58
 go_wp2
 go_loopw [8] (fun i wr => ∃ k : Nat, k ≤ l.length ∧ i = .int .i64 k ∧ Aside0 ((l.take k).any p = false) ∧ Aside0 (Below w.heap.size w wr)) (fun i _ => l.length - (intOf i).toNat)
 case atStart => exact ⟨0, Nat.zero_le _, rfl, ⟨rfl⟩, ⟨Below.refl _ _⟩⟩
 case round =>
  obtain ⟨k, hk, rfl, HM, HB⟩ := hrel
  by_cases hlt : k < l.length
  ·obtain ⟨ad, rfl, x0, x1, x2⟩ := at_T77 HR.out k (by omega) (by omega)
   rw [Int.toNat_natCast] at x0 x1 x2
   generalize hv : rd_T77 l (k : Int) = v at x0 x1 x2
   have hv2 : l.getD k z77 = v := hv
   have HV := Aside0.mk hv2
   clear hv hv2
   replace x0 := (HB.out.cell (World.block_lt_of_cell? w _ x0)).trans x0
   replace x1 := (HB.out.cell (World.block_lt_of_cell? w _ x1)).trans x1
   replace x2 := (HB.out.cell (World.block_lt_of_cell? w _ x2)).trans x2
   have cS := fun W hW => hp W v hW
   clear hp
   cases hpv : p v
   ·have HP := Aside0.mk hpv
    clear hpv
    go_wp2_with (go_at_fn g; refine (cS _ HB.out).mono ?_; rintro e W' ⟨rfl, hb'⟩; rw [HP.out]; have HB' := Aside0.mk (below_step HB.out hb'); clear hb')
    go_roundw
    case rel => exact ⟨k + 1, by omega, by go_num, ⟨by rw [take_77 l z77 k hlt, List.any_append, HM.out, HV.out]; simp [HP.out]⟩, HB'⟩
    case measure => simp [intOf]; omega
   ·have HP := Aside0.mk hpv
    clear hpv
    go_wp2_with (go_at_fn g; refine (cS _ HB.out).mono ?_; rintro e W' ⟨rfl, hb'⟩; rw [HP.out]; have HB' := Aside0.mk (below_step HB.out hb'); clear hb')
    go_ret
    exact ⟨by rw [idxf_77_at p l k hlt HM.out z77 (by rw [HV.out]; exact HP.out)]; rfl, HB'.out⟩
  ·obtain rfl : k = l.length := by omega
   clear hlt
   go_wp2
   go_ret
   exact ⟨by rw [idxf_77_none p l (by have := HM.out; rwa [List.take_length] at this)]; rfl, HB.out⟩
set_option maxHeartbeats 1000000 in
theorem ContainsFunc_77 (g : Nat) (lb : Array Value) (p : S77 → Bool) (A : Option Addr) (c : Nat) (l : List (S77)) (w : World) (eg : ∀ (args : Array Value) (w : World), (callFunc g args).run Try.prog w = .ok (.enter g args) w) (hr : Kd.C k77 w A l.length l)
  (hp : ∀ (W : World) (x : S77), Below w.heap.size w W → Calls Try.prog g (#[(.agg #[.int .i64 x.f0, .string x.f1, .string x.f2])] ++ lb) W fun e w' => e = .returned (.bool (p x)) ∧ Below W.heap.size W w') :
  Calls Try.prog 44 #[.slice A l.length c, .func (.func g) #[] lb] w fun e w' => e = .returned (.bool (l.any p)) ∧ Below w.heap.size w w' := by
 have hc := IndexFunc_77 g lb p A c l w eg hr hp
 have HA := Aside0.mk (idxf_77_any p l)
 clear eg hr hp
 go_enter Try.func44, Try.ntmps44
 go_wp2_with (go_at_call 58; refine hc.mono ?_; rintro e w' ⟨rfl, hb⟩; have HB := Aside0.mk hb; clear hb)
 go_ret
 exact ⟨by rw [← HA.out]; rfl, HB.out⟩
theorem cmd_some_closure (g : Nat) (p : S77 → Bool) (b : Nat) (A : Option Addr) (c : Nat) (l : List S77) (W : World) (eg : ∀ (args : Array Value) (w : World), (callFunc g args).run Try.prog w = .ok (.enter g args) w)
  (hc : W.cell? ⟨b, 4, none⟩ = some (.slice A l.length c)) (hr : Kd.C k77 W A l.length l)
  (hp : ∀ (W : World) (x : S77), Calls Try.prog g #[.agg #[.int .i64 x.f0, .string x.f1, .string x.f2]] W fun e w' => e = .returned (.bool (p x)) ∧ Below W.heap.size W w') :
  Calls Try.prog 43 #[.func (.func g) #[] #[], .pointer (some ⟨b, 0, none⟩)] W fun e w' => e = .returned (.bool (l.any p)) ∧ Below W.heap.size W w' := by
 have H := ContainsFunc_77 g #[] p A c l W eg hr (fun W x _ => hp W x)
 clear eg hp hr
 go_enter Try.func43, Try.ntmps43
 go_wp2_with (go_at_call 44; refine H.mono ?_; rintro e w' ⟨rfl, hb⟩; have HB := Aside0.mk hb; clear hb)
 go_ret
 exact ⟨rfl, HB.out⟩
def cmd_numbers (a b c d : Int) : Bool := (if a ≥ 5 then decide (b = 0) else decide (1 ≤ b ∧ b ≤ 1099511627776)) && decide (0 ≤ c ∧ c < 4) && (if a = 4 then decide (d = 1 ∨ d = 2) else decide (d = 0))
theorem cmd_numbers_j1 (k : Nat) (x : Bool) (a b c d : Int) (l : List S77) : command_numbers.j1 (k + 1) x a b c d l = some (!x && (if a = 4 then decide (d = 1 ∨ d = 2) else decide (d = 0))) := by
 simp only [command_numbers.j1]
 cases x
 ·by_cases h : a = 4
  ·by_cases h1 : d = 1 <;> simp [h, h1, Bool.beq_eq_decide_eq]
  ·simp [h, Bool.beq_eq_decide_eq]
 ·simp
theorem cmd_numbers_f (a b c d : Int) (l : List S77) : command_numbers.f 5 a b c d l = some (cmd_numbers a b c d) := by
 have hj : command_numbers.j0 5 a b c d l = some (decide (0 ≤ c ∧ c < 4) && (if a = 4 then decide (d = 1 ∨ d = 2) else decide (d = 0))) := by
  simp only [command_numbers.j0, cmd_numbers_j1]
  by_cases h : c < 0
  ·have : ¬ (0 ≤ c ∧ c < 4) := by omega
   simp [h, this]
  ·by_cases h4 : c ≥ 4
   ·have : ¬ (0 ≤ c ∧ c < 4) := by omega
    simp [h, h4, this]
   ·have : (0 ≤ c ∧ c < 4) := by omega
    simp [h, h4, this]
 unfold command_numbers.f cmd_numbers
 rw [hj]
 by_cases h5 : a ≥ 5
 ·by_cases hb : b = 0 <;> simp [h5, hb]
 ·by_cases h1 : b < 1
  ·have : ¬ (1 ≤ b ∧ b ≤ 1099511627776) := by omega
   simp [h5, h1, this]
  ·by_cases h2 : b > 1099511627776
   ·have : ¬ (1 ≤ b ∧ b ≤ 1099511627776) := by omega
    simp [h5, h1, h2, this]
   ·have : (1 ≤ b ∧ b ≤ 1099511627776) := by omega
    simp [h5, h1, h2, this]
def cmd_check (a b c d : Int) (l : List S77) : Int :=
 if (a < 1 ∨ a > 6) ∨ l.any cmd_kindBad = true then 22
 else if cmd_numbers a b c d = false then 4
 else if (a ≠ 1 ∧ 0 < l.length) ∨ l.length > 16 then 3
 else if l.any cmd_keyBad = true then 91
 else if l.any cmd_valBad = true then 5
 else 0
def command_Check.f (a0_0 a0_1 a0_2 a0_3 : Int) (l0_4 : List S77) : Option Int := some (cmd_check a0_0 a0_1 a0_2 a0_3 l0_4)
set_option maxHeartbeats 1000000 in
set_option maxRecDepth 100000 in
theorem command_Check.calls (a0_0 : Int) (a0_1 : Int) (a0_2 : Int) (a0_3 : Int) (A0_4 : Option Addr) (c0_4 : Nat) (l0_4 : List S77) (r : Int) (w : World) (hr0_4 : Kd.C k77 w A0_4 l0_4.length l0_4) (hc0_4 : l0_4.length ≤ c0_4) (h : command_Check.f a0_0 a0_1 a0_2 a0_3 l0_4 = some r) :
  Calls Try.prog 33 #[.agg #[.int .i64 a0_0, .int .i64 a0_1, .int .i64 a0_2, .int .i64 a0_3, .slice A0_4 l0_4.length c0_4]] w fun e w' => e = .returned (.int .i64 r) ∧ Below w.heap.size w w' := by
 have H := Aside0.mk (Option.some.inj h)
 clear h
 have HR := Aside0.mk hr0_4
 clear hr0_4
 have e31 : ∀ (args : Array Value) (w : World), (callFunc 45 args).run Try.prog w = .ok (.enter 45 args) w := enters_of Try.func45 (by kernel_rfl) rfl
 have some_ : ∀ (g : Nat) (p : S77 → Bool) (W : World) (eg : ∀ (args : Array Value) (w : World), (callFunc g args).run Try.prog w = .ok (.enter g args) w) (hp : ∀ (W : World) (x : S77), Calls Try.prog g #[.agg #[.int .i64 x.f0, .string x.f1, .string x.f2]] W fun e w' => e = .returned (.bool (p x)) ∧ Below W.heap.size W w')
   (hb : Below w.heap.size w W) (hk : W.heap[w.heap.size]? = some (.cells #[.int .i64 a0_0, .int .i64 a0_1, .int .i64 a0_2, .int .i64 a0_3, .slice A0_4 l0_4.length c0_4] 43 (0, 0))),
   Calls Try.prog 43 #[.func (.func g) #[] #[], .pointer (some ⟨w.heap.size, 0, none⟩)] W fun e w' => e = .returned (.bool (l0_4.any p)) ∧ Below w.heap.size w w' ∧ w'.heap[w.heap.size]? = some (.cells #[.int .i64 a0_0, .int .i64 a0_1, .int .i64 a0_2, .int .i64 a0_3, .slice A0_4 l0_4.length c0_4] 43 (0, 0)) := by
  intro g p W eg hp hb hk
  refine (cmd_some_closure g p w.heap.size A0_4 c0_4 l0_4 W eg ((blk_cell hk 4).trans rfl) (Kd.C_below HR.out hb) hp).mono ?_
  rintro e w' ⟨rfl, hb'⟩
  exact ⟨rfl, below_step hb hb', blk_below hk hb'⟩
 have S1 := Aside0.mk (fun W => some_ _ cmd_kindBad W e31 (fun W x => cmd_kind_closure W x))
 have S2 := Aside0.mk (fun W => some_ _ cmd_keyBad W (enters_of Try.func47 (by kernel_rfl) rfl) (fun W x => cmd_key_closure W x))
 have S3 := Aside0.mk (fun W => some_ _ cmd_valBad W (enters_of Try.func48 (by kernel_rfl) rfl) (fun W x => cmd_val_closure W x))
 clear e31 some_
 have cells5 : ∀ W : World, W.heap[w.heap.size]? = some (.cells #[.int .i64 a0_0, .int .i64 a0_1, .int .i64 a0_2, .int .i64 a0_3, .slice A0_4 l0_4.length c0_4] 43 (0, 0)) →
   W.cell? ⟨w.heap.size, 0, none⟩ = some (.int .i64 a0_0) ∧ W.cell? ⟨w.heap.size, 1, none⟩ = some (.int .i64 a0_1) ∧ W.cell? ⟨w.heap.size, 2, none⟩ = some (.int .i64 a0_2) ∧ W.cell? ⟨w.heap.size, 3, none⟩ = some (.int .i64 a0_3) ∧ W.cell? ⟨w.heap.size, 4, none⟩ = some (.slice A0_4 l0_4.length c0_4) :=
  fun W h => ⟨(blk_cell h 0).trans rfl, (blk_cell h 1).trans rfl, (blk_cell h 2).trans rfl, (blk_cell h 3).trans rfl, (blk_cell h 4).trans rfl⟩
 have CE := Aside0.mk cells5
 clear cells5
 have N := Aside0.mk (fun (W : World) (hb : Below w.heap.size w W) => command_numbers.calls 5 a0_0 a0_1 a0_2 a0_3 A0_4 c0_4 l0_4 _ W (Kd.C_below HR.out hb) hc0_4 (cmd_numbers_f a0_0 a0_1 a0_2 a0_3 l0_4))
 clear hc0_4
 have B0 := Aside0.mk (below_alloc (Below.refl w.heap.size w) (.cells #[.int .i64 a0_0, .int .i64 a0_1, .int .i64 a0_2, .int .i64 a0_3, .slice A0_4 l0_4.length c0_4] 43))
 have K0 := Aside0.mk (blk_new w (.cells #[.int .i64 a0_0, .int .i64 a0_1, .int .i64 a0_2, .int .i64 a0_3, .slice A0_4 l0_4.length c0_4] 43))
 have hq := H.out
 unfold cmd_check at hq
 by_cases g1 : a0_0 < 1
 ·have := hq
  rw [if_pos (.inl (.inl g1))] at this
  subst this
  clear hq H
  go_enter Try.func33, Try.ntmps33
  go_wp2
  go_ret
  exact ⟨rfl, B0.out⟩
 by_cases g2 : 6 < a0_0
 ·have := hq
  rw [if_pos (.inl (.inr g2))] at this
  subst this
  clear hq H
  go_enter Try.func33, Try.ntmps33
  go_wp2
  go_ret
  exact ⟨rfl, B0.out⟩
 have g3 : ¬ (a0_0 < 1 ∨ a0_0 > 6) := by omega
 simp only [g3, false_or] at hq
 clear g3 H
 generalize l0_4.any cmd_kindBad = b1 at hq S1
 generalize l0_4.any cmd_keyBad = b2 at hq S2
 generalize l0_4.any cmd_valBad = b3 at hq S3
 generalize cmd_numbers a0_0 a0_1 a0_2 a0_3 = nb at hq N
 have HQ := Aside0.mk hq
 clear hq
 go_enter Try.func33, Try.ntmps33
 go_wp2_with fail
 refine (S1.out _ B0.out K0.out).mono ?_
 rintro e w1 ⟨rfl, B1, K1⟩
 replace B1 := Aside0.mk B1
 replace K1 := Aside0.mk K1
 cases b1
 case true =>
  have hq := HQ.out
  rw [if_pos rfl] at hq
  subst hq
  go_wp2
  go_ret
  exact ⟨rfl, B1.out⟩
 obtain ⟨z0, z1, z2, z3, z4⟩ := CE.out w1 K1.out
 go_wp2_with fail
 refine (N.out w1 B1.out).mono ?_
 rintro e w2 ⟨rfl, B2⟩
 have K2 := Aside0.mk (blk_below K1.out B2)
 replace B2 := Aside0.mk (below_step B1.out B2)
 clear z0 z1 z2 z3 z4 B0 K0 B1 K1
 cases nb
 case false =>
  have hq := HQ.out
  rw [if_neg (by simp), if_pos rfl] at hq
  subst hq
  go_wp2
  go_ret
  exact ⟨rfl, B2.out⟩
 obtain ⟨z0, z1, z2, z3, z4⟩ := CE.out w2 K2.out
 have tail : ∀ (h3 : ¬ ((a0_0 ≠ 1 ∧ 0 < l0_4.length) ∨ l0_4.length > 16)), r = if b2 = true then 91 else if b3 = true then 5 else 0 := by
  intro h3
  have hq := HQ.out
  rw [if_neg (by simp), if_neg (by simp), if_neg h3] at hq
  exact hq.symm
 have T := Aside0.mk tail
 clear tail
 have three : ((a0_0 ≠ 1 ∧ 0 < l0_4.length) ∨ l0_4.length > 16) → r = 3 := by
  intro h3
  have hq := HQ.out
  rw [if_neg (by simp), if_neg (by simp), if_pos h3] at hq
  exact hq.symm
 have TH := Aside0.mk three
 clear three HQ S1 N
 have ways : (a0_0 = 1 ∧ 16 < l0_4.length) ∨ (a0_0 ≠ 1 ∧ 0 < l0_4.length) ∨ (a0_0 = 1 ∧ ¬ 16 < l0_4.length) ∨ (a0_0 ≠ 1 ∧ l0_4.length = 0) := by omega
 rcases ways with ⟨x, y⟩ | ⟨x, y⟩ | ⟨x, y⟩ | ⟨x, y⟩
 ·obtain rfl := TH.out (.inr y)
  have x1 : (a0_0 != 1) = false := by simp [x]
  have y1 : decide ((16 : Int) < (l0_4.length : Int)) = true := by simp; omega
  clear x TH T S2 S3
  go_wp2
  go_ret
  exact ⟨rfl, B2.out⟩
 ·obtain rfl := TH.out (.inl ⟨x, y⟩)
  have x1 : (a0_0 != 1) = true := by simp [x]
  have y1 : decide ((0 : Int) < (l0_4.length : Int)) = true := by simp; omega
  clear x TH T S2 S3
  go_wp2
  go_ret
  exact ⟨rfl, B2.out⟩
 ·have hq := T.out (by omega)
  have x1 : (a0_0 != 1) = false := by simp [x]
  have y1 : decide ((16 : Int) < (l0_4.length : Int)) = false := by simp; omega
  have HQ := Aside0.mk hq
  clear x y TH T hq
  go_wp2_with fail
  refine (S2.out _ B2.out K2.out).mono ?_
  rintro e w3 ⟨rfl, B3, K3⟩
  replace B3 := Aside0.mk B3
  replace K3 := Aside0.mk K3
  clear z0 z1 z2 z3 z4
  cases b2
  case true =>
   have hq := HQ.out
   rw [if_pos rfl] at hq
   subst hq
   go_wp2
   go_ret
   exact ⟨rfl, B3.out⟩
  go_wp2_with fail
  refine (S3.out _ B3.out K3.out).mono ?_
  rintro e w4 ⟨rfl, B4, K4⟩
  replace B4 := Aside0.mk B4
  clear K4
  have hq := HQ.out
  rw [if_neg (by simp)] at hq
  subst hq
  cases b3
  all_goals
   go_wp2
   go_ret
   exact ⟨rfl, B4.out⟩
 ·have hq := T.out (by omega)
  have x1 : (a0_0 != 1) = true := by simp [x]
  have y1 : decide ((0 : Int) < (l0_4.length : Int)) = false := decide_eq_false (by omega)
  have y2 : decide ((16 : Int) < (l0_4.length : Int)) = false := decide_eq_false (by omega)
  have y3 : ¬ (0 < l0_4.length) := by omega
  have HQ := Aside0.mk hq
  clear x y TH T hq
  go_wp2_with fail
  refine (S2.out _ B2.out K2.out).mono ?_
  rintro e w3 ⟨rfl, B3, K3⟩
  replace B3 := Aside0.mk B3
  replace K3 := Aside0.mk K3
  clear z0 z1 z2 z3 z4
  cases b2
  case true =>
   have hq := HQ.out
   rw [if_pos rfl] at hq
   subst hq
   go_wp2
   go_ret
   exact ⟨rfl, B3.out⟩
  go_wp2_with fail
  refine (S3.out _ B3.out K3.out).mono ?_
  rintro e w4 ⟨rfl, B4, K4⟩
  replace B4 := Aside0.mk B4
  clear K4
  have hq := HQ.out
  rw [if_neg (by simp)] at hq
  subst hq
  cases b3
  all_goals
   go_wp2
   go_ret
   exact ⟨rfl, B4.out⟩
def bits_Len64.j0 : Nat → Int → Int → Option (Int)
 | 0, _, _ => none
 | k + 1, x0, x2 => if x0 ≥ 65536 then (if (x0 / 65536) ≥ 256 then (if 0 ≤ (((x0 / 65536) / 256) % 256) then (if (((x0 / 65536) / 256) % 256) < 256 then (some (wrap64 ((wrap64 ((wrap64 (x2 + 16)) + 8)) + (wrap64 (bt (⟨#[0, 1, 2, 2, 3, 3, 3, 3, 4, 4, 4, 4, 4, 4, 4, 4, 5, 5, 5, 5, 5, 5, 5, 5, 5, 5, 5, 5, 5, 5, 5, 5, 6, 6, 6, 6, 6, 6, 6, 6, 6, 6, 6, 6, 6, 6, 6, 6, 6, 6, 6, 6, 6, 6, 6, 6, 6, 6, 6, 6, 6, 6, 6, 6, 7, 7, 7, 7, 7, 7, 7, 7, 7, 7, 7, 7, 7, 7, 7, 7, 7, 7, 7, 7, 7, 7, 7, 7, 7, 7, 7, 7, 7, 7, 7, 7, 7, 7, 7, 7, 7, 7, 7, 7, 7, 7, 7, 7, 7, 7, 7, 7, 7, 7, 7, 7, 7, 7, 7, 7, 7, 7, 7, 7, 7, 7, 7, 7, 8, 8, 8, 8, 8, 8, 8, 8, 8, 8, 8, 8, 8, 8, 8, 8, 8, 8, 8, 8, 8, 8, 8, 8, 8, 8, 8, 8, 8, 8, 8, 8, 8, 8, 8, 8, 8, 8, 8, 8, 8, 8, 8, 8, 8, 8, 8, 8, 8, 8, 8, 8, 8, 8, 8, 8, 8, 8, 8, 8, 8, 8, 8, 8, 8, 8, 8, 8, 8, 8, 8, 8, 8, 8, 8, 8, 8, 8, 8, 8, 8, 8, 8, 8, 8, 8, 8, 8, 8, 8, 8, 8, 8, 8, 8, 8, 8, 8, 8, 8, 8, 8, 8, 8, 8, 8, 8, 8, 8, 8, 8, 8, 8, 8, 8, 8, 8, 8, 8, 8, 8, 8, 8, 8, 8, 8, 8, 8]⟩ : ByteArray) (((x0 / 65536) / 256) % 256)))))) else (none)) else (none)) else (if 0 ≤ ((x0 / 65536) % 256) then (if ((x0 / 65536) % 256) < 256 then (some (wrap64 ((wrap64 (x2 + 16)) + (wrap64 (bt (⟨#[0, 1, 2, 2, 3, 3, 3, 3, 4, 4, 4, 4, 4, 4, 4, 4, 5, 5, 5, 5, 5, 5, 5, 5, 5, 5, 5, 5, 5, 5, 5, 5, 6, 6, 6, 6, 6, 6, 6, 6, 6, 6, 6, 6, 6, 6, 6, 6, 6, 6, 6, 6, 6, 6, 6, 6, 6, 6, 6, 6, 6, 6, 6, 6, 7, 7, 7, 7, 7, 7, 7, 7, 7, 7, 7, 7, 7, 7, 7, 7, 7, 7, 7, 7, 7, 7, 7, 7, 7, 7, 7, 7, 7, 7, 7, 7, 7, 7, 7, 7, 7, 7, 7, 7, 7, 7, 7, 7, 7, 7, 7, 7, 7, 7, 7, 7, 7, 7, 7, 7, 7, 7, 7, 7, 7, 7, 7, 7, 8, 8, 8, 8, 8, 8, 8, 8, 8, 8, 8, 8, 8, 8, 8, 8, 8, 8, 8, 8, 8, 8, 8, 8, 8, 8, 8, 8, 8, 8, 8, 8, 8, 8, 8, 8, 8, 8, 8, 8, 8, 8, 8, 8, 8, 8, 8, 8, 8, 8, 8, 8, 8, 8, 8, 8, 8, 8, 8, 8, 8, 8, 8, 8, 8, 8, 8, 8, 8, 8, 8, 8, 8, 8, 8, 8, 8, 8, 8, 8, 8, 8, 8, 8, 8, 8, 8, 8, 8, 8, 8, 8, 8, 8, 8, 8, 8, 8, 8, 8, 8, 8, 8, 8, 8, 8, 8, 8, 8, 8, 8, 8, 8, 8, 8, 8, 8, 8, 8, 8, 8, 8, 8, 8, 8, 8, 8, 8]⟩ : ByteArray) ((x0 / 65536) % 256)))))) else (none)) else (none))) else (if x0 ≥ 256 then (if 0 ≤ ((x0 / 256) % 256) then (if ((x0 / 256) % 256) < 256 then (some (wrap64 ((wrap64 (x2 + 8)) + (wrap64 (bt (⟨#[0, 1, 2, 2, 3, 3, 3, 3, 4, 4, 4, 4, 4, 4, 4, 4, 5, 5, 5, 5, 5, 5, 5, 5, 5, 5, 5, 5, 5, 5, 5, 5, 6, 6, 6, 6, 6, 6, 6, 6, 6, 6, 6, 6, 6, 6, 6, 6, 6, 6, 6, 6, 6, 6, 6, 6, 6, 6, 6, 6, 6, 6, 6, 6, 7, 7, 7, 7, 7, 7, 7, 7, 7, 7, 7, 7, 7, 7, 7, 7, 7, 7, 7, 7, 7, 7, 7, 7, 7, 7, 7, 7, 7, 7, 7, 7, 7, 7, 7, 7, 7, 7, 7, 7, 7, 7, 7, 7, 7, 7, 7, 7, 7, 7, 7, 7, 7, 7, 7, 7, 7, 7, 7, 7, 7, 7, 7, 7, 8, 8, 8, 8, 8, 8, 8, 8, 8, 8, 8, 8, 8, 8, 8, 8, 8, 8, 8, 8, 8, 8, 8, 8, 8, 8, 8, 8, 8, 8, 8, 8, 8, 8, 8, 8, 8, 8, 8, 8, 8, 8, 8, 8, 8, 8, 8, 8, 8, 8, 8, 8, 8, 8, 8, 8, 8, 8, 8, 8, 8, 8, 8, 8, 8, 8, 8, 8, 8, 8, 8, 8, 8, 8, 8, 8, 8, 8, 8, 8, 8, 8, 8, 8, 8, 8, 8, 8, 8, 8, 8, 8, 8, 8, 8, 8, 8, 8, 8, 8, 8, 8, 8, 8, 8, 8, 8, 8, 8, 8, 8, 8, 8, 8, 8, 8, 8, 8, 8, 8, 8, 8, 8, 8, 8, 8, 8, 8]⟩ : ByteArray) ((x0 / 256) % 256)))))) else (none)) else (none)) else (if 0 ≤ ((x0) % 256) then (if ((x0) % 256) < 256 then (some (wrap64 (x2 + (wrap64 (bt (⟨#[0, 1, 2, 2, 3, 3, 3, 3, 4, 4, 4, 4, 4, 4, 4, 4, 5, 5, 5, 5, 5, 5, 5, 5, 5, 5, 5, 5, 5, 5, 5, 5, 6, 6, 6, 6, 6, 6, 6, 6, 6, 6, 6, 6, 6, 6, 6, 6, 6, 6, 6, 6, 6, 6, 6, 6, 6, 6, 6, 6, 6, 6, 6, 6, 7, 7, 7, 7, 7, 7, 7, 7, 7, 7, 7, 7, 7, 7, 7, 7, 7, 7, 7, 7, 7, 7, 7, 7, 7, 7, 7, 7, 7, 7, 7, 7, 7, 7, 7, 7, 7, 7, 7, 7, 7, 7, 7, 7, 7, 7, 7, 7, 7, 7, 7, 7, 7, 7, 7, 7, 7, 7, 7, 7, 7, 7, 7, 7, 8, 8, 8, 8, 8, 8, 8, 8, 8, 8, 8, 8, 8, 8, 8, 8, 8, 8, 8, 8, 8, 8, 8, 8, 8, 8, 8, 8, 8, 8, 8, 8, 8, 8, 8, 8, 8, 8, 8, 8, 8, 8, 8, 8, 8, 8, 8, 8, 8, 8, 8, 8, 8, 8, 8, 8, 8, 8, 8, 8, 8, 8, 8, 8, 8, 8, 8, 8, 8, 8, 8, 8, 8, 8, 8, 8, 8, 8, 8, 8, 8, 8, 8, 8, 8, 8, 8, 8, 8, 8, 8, 8, 8, 8, 8, 8, 8, 8, 8, 8, 8, 8, 8, 8, 8, 8, 8, 8, 8, 8, 8, 8, 8, 8, 8, 8, 8, 8, 8, 8, 8, 8, 8, 8, 8, 8, 8, 8]⟩ : ByteArray) ((x0) % 256)))))) else (none)) else (none)))
def bits_Len64.f (k : Nat) (a0 : Int) : Option (Int) := if a0 ≥ 4294967296 then (bits_Len64.j0 k (a0 / 4294967296) 32) else (bits_Len64.j0 k a0 0)
theorem bits_Len64.mono_l : ∀ k, (∀ y0 y1, LeO (bits_Len64.j0 k y0 y1) (bits_Len64.j0 (k + 1) y0 y1))
 | 0 => fun _ _ r h => by simp [bits_Len64.j0] at h
 | k + 1 => by
  have ih0 := bits_Len64.mono_l k
  ·intro y0 y1
   unfold bits_Len64.j0
   repeat' first
   | (with_reducible exact ih0 _ _)
   | (with_reducible exact LeO.refl _)
   | (with_reducible exact LeO.none _)
   | (with_reducible refine LeO.ite ?_ ?_)
   | (with_reducible refine LeO.bind ?_ (fun _ => ?_))
   | exact ih0 _ _
   | exact LeO.none _
   | refine LeO.ite ?_ ?_
   | refine LeO.bind ?_ (fun _ => ?_)
theorem bits_Len64.mono : ∀ a0 k, LeO (bits_Len64.f k a0) (bits_Len64.f (k + 1) a0) := by
 intro a0 k
 have ih0 := bits_Len64.mono_l k
 unfold bits_Len64.f
 repeat' first
   | (with_reducible exact ih0 _ _)
   | (with_reducible exact LeO.refl _)
   | (with_reducible exact LeO.none _)
   | (with_reducible refine LeO.ite ?_ ?_)
   | (with_reducible refine LeO.bind ?_ (fun _ => ?_))
   | exact ih0 _ _
   | exact LeO.none _
   | refine LeO.ite ?_ ?_
   | refine LeO.bind ?_ (fun _ => ?_)
set_option maxHeartbeats 8000000 in
set_option maxRecDepth 100000 in
theorem bits_Len64.calls (k : Nat) (a0 : Int) (r : Int) (w : World) (h : bits_Len64.f k a0 = some r) :
  Calls Try.prog 53 #[.int .u64 a0] w fun e w' => e = .returned (.int .i64 r) ∧ Drawn0 w w' := by
 have H : (if a0 ≥ 4294967296 then (bits_Len64.j0 k (a0 / 4294967296) 32) else (bits_Len64.j0 k a0 0)) = some r := h
 clear h
 have HC2 := Aside0.mk H
 clear H
 go_enter Try.func53, Try.ntmps53
 go_upto_if 4 with (fail)
 go_cut [0, 2] (fun v0 v2 wc => ∃ (kq : Nat) (x0_1 : Int) (x2_1 : Int), v0 = .int .u64 x0_1 ∧ v2 = .int .i64 x2_1 ∧ Aside0 (bits_Len64.j0 kq x0_1 x2_1 = some r) ∧ Aside0 (kq ≤ k) ∧ Drawn0 w wc)
 case first =>
  have H := HC2.out
  clear HC2
  by_cases c3 : a0 ≥ 4294967296
  ·rw [if_pos c3] at H
   have c3b0 : decide (4294967296 ≤ a0) = true := decide_eq_true c3
   clear c3
   (first | rw [c3b0] | (simp only [i64_w, i32_w]; rw [c3b0]) | skip)
   have H' := Aside0.mk H
   clear H
   go_wp2
   go_meet
   case rel => exact ⟨_, (a0 / 4294967296), (32), (by first | rfl | (simp; done) | (simp [*]; done)), (by first | rfl | (simp; done) | (simp [*]; done)), H', ⟨by first | omega | exact Nat.le_refl _⟩, by repeat (first | exact Drawn0.refl _ | apply Drawn0.step)⟩
  ·rw [if_neg c3] at H
   have c3b0 : decide (4294967296 ≤ a0) = false := decide_eq_false c3
   clear c3
   (first | rw [c3b0] | (simp only [i64_w, i32_w]; rw [c3b0]) | skip)
   have H' := Aside0.mk H
   clear H
   go_wp2
   go_meet
   case rel => exact ⟨_, (a0), (0), (by first | rfl | (simp; done) | (simp [*]; done)), (by first | rfl | (simp; done) | (simp [*]; done)), H', ⟨by first | omega | exact Nat.le_refl _⟩, by repeat (first | exact Drawn0.refl _ | apply Drawn0.step)⟩
 case rest =>
  clear HC2
  try clear p2
  try clear c3
  try clear c3b0
  obtain ⟨kq, x0_1, x2_1, rfl, rfl, HA, HJ1, ⟨mc1, rfl⟩⟩ := hcut
  cases kq with
  | zero => exact absurd HA.out (by simp [bits_Len64.j0])
  | succ kj1 =>
   have H := HA.out
   clear HA
   simp only [bits_Len64.j0] at H
   by_cases c4 : x0_1 ≥ 65536
   ·rw [if_pos c4] at H
    have c4b0 : decide (65536 ≤ x0_1) = true := decide_eq_true c4
    clear c4
    by_cases c5 : (x0_1 / 65536) ≥ 256
    ·rw [if_pos c5] at H
     have c5b0 : decide (256 ≤ (x0_1 / 65536)) = true := decide_eq_true c5
     clear c5
     obtain ⟨ji6, hji6⟩ : ∃ j_ : Int, (((x0_1 / 65536) / 256) % 256) = j_ := ⟨_, rfl⟩
     replace H : (if 0 ≤ (ji6) then (if (ji6) < 256 then (some (wrap64 ((wrap64 ((wrap64 (x2_1 + 16)) + 8)) + (wrap64 (bt (⟨#[0, 1, 2, 2, 3, 3, 3, 3, 4, 4, 4, 4, 4, 4, 4, 4, 5, 5, 5, 5, 5, 5, 5, 5, 5, 5, 5, 5, 5, 5, 5, 5, 6, 6, 6, 6, 6, 6, 6, 6, 6, 6, 6, 6, 6, 6, 6, 6, 6, 6, 6, 6, 6, 6, 6, 6, 6, 6, 6, 6, 6, 6, 6, 6, 7, 7, 7, 7, 7, 7, 7, 7, 7, 7, 7, 7, 7, 7, 7, 7, 7, 7, 7, 7, 7, 7, 7, 7, 7, 7, 7, 7, 7, 7, 7, 7, 7, 7, 7, 7, 7, 7, 7, 7, 7, 7, 7, 7, 7, 7, 7, 7, 7, 7, 7, 7, 7, 7, 7, 7, 7, 7, 7, 7, 7, 7, 7, 7, 8, 8, 8, 8, 8, 8, 8, 8, 8, 8, 8, 8, 8, 8, 8, 8, 8, 8, 8, 8, 8, 8, 8, 8, 8, 8, 8, 8, 8, 8, 8, 8, 8, 8, 8, 8, 8, 8, 8, 8, 8, 8, 8, 8, 8, 8, 8, 8, 8, 8, 8, 8, 8, 8, 8, 8, 8, 8, 8, 8, 8, 8, 8, 8, 8, 8, 8, 8, 8, 8, 8, 8, 8, 8, 8, 8, 8, 8, 8, 8, 8, 8, 8, 8, 8, 8, 8, 8, 8, 8, 8, 8, 8, 8, 8, 8, 8, 8, 8, 8, 8, 8, 8, 8, 8, 8, 8, 8, 8, 8, 8, 8, 8, 8, 8, 8, 8, 8, 8, 8, 8, 8, 8, 8, 8, 8, 8, 8]⟩ : ByteArray) (ji6)))))) else (none)) else (none)) = some r := by first | (rw [hji6] at H; exact H) | (simp only [hji6] at H ⊢; exact H)
     by_cases c7 : 0 ≤ (ji6)
     ·rw [if_pos c7] at H
      have c7b0 : decide (0 ≤ (ji6)) = true := decide_eq_true c7
      clear c7
      by_cases c8 : (ji6) < 256
      ·rw [if_pos c8] at H
       have c8b0 : decide ((ji6) < 256) = true := decide_eq_true c8
       clear c8
       obtain rfl := Option.some.inj H
       have p9 : 0 ≤ ((ji6) : Int) := of_decide_eq_true (by first | (with_reducible assumption) | assumption)
       have q9 : (ji6) < (256 : Int) := of_decide_eq_true (by first | (with_reducible assumption) | assumption)
       have hx9 := bt_at (⟨#[0, 1, 2, 2, 3, 3, 3, 3, 4, 4, 4, 4, 4, 4, 4, 4, 5, 5, 5, 5, 5, 5, 5, 5, 5, 5, 5, 5, 5, 5, 5, 5, 6, 6, 6, 6, 6, 6, 6, 6, 6, 6, 6, 6, 6, 6, 6, 6, 6, 6, 6, 6, 6, 6, 6, 6, 6, 6, 6, 6, 6, 6, 6, 6, 7, 7, 7, 7, 7, 7, 7, 7, 7, 7, 7, 7, 7, 7, 7, 7, 7, 7, 7, 7, 7, 7, 7, 7, 7, 7, 7, 7, 7, 7, 7, 7, 7, 7, 7, 7, 7, 7, 7, 7, 7, 7, 7, 7, 7, 7, 7, 7, 7, 7, 7, 7, 7, 7, 7, 7, 7, 7, 7, 7, 7, 7, 7, 7, 8, 8, 8, 8, 8, 8, 8, 8, 8, 8, 8, 8, 8, 8, 8, 8, 8, 8, 8, 8, 8, 8, 8, 8, 8, 8, 8, 8, 8, 8, 8, 8, 8, 8, 8, 8, 8, 8, 8, 8, 8, 8, 8, 8, 8, 8, 8, 8, 8, 8, 8, 8, 8, 8, 8, 8, 8, 8, 8, 8, 8, 8, 8, 8, 8, 8, 8, 8, 8, 8, 8, 8, 8, 8, 8, 8, 8, 8, 8, 8, 8, 8, 8, 8, 8, 8, 8, 8, 8, 8, 8, 8, 8, 8, 8, 8, 8, 8, 8, 8, 8, 8, 8, 8, 8, 8, 8, 8, 8, 8, 8, 8, 8, 8, 8, 8, 8, 8, 8, 8, 8, 8, 8, 8, 8, 8, 8, 8]⟩ : ByteArray) (ji6)
       replace p9 := eq_true p9
       replace q9 := eq_true q9
       go_wp2
       go_ret
       exact ⟨by first | rfl | (simp; done) | (simp only [← hji6] <;> (first | rfl | simp)) | (simp [*]; done), by repeat (first | exact Drawn0.refl _ | apply Drawn0.step)⟩
      ·rw [if_neg c8] at H
       exact absurd H (by simp)
     ·rw [if_neg c7] at H
      exact absurd H (by simp)
    ·rw [if_neg c5] at H
     have c5b0 : decide (256 ≤ (x0_1 / 65536)) = false := decide_eq_false c5
     clear c5
     obtain ⟨ji10, hji10⟩ : ∃ j_ : Int, ((x0_1 / 65536) % 256) = j_ := ⟨_, rfl⟩
     replace H : (if 0 ≤ (ji10) then (if (ji10) < 256 then (some (wrap64 ((wrap64 (x2_1 + 16)) + (wrap64 (bt (⟨#[0, 1, 2, 2, 3, 3, 3, 3, 4, 4, 4, 4, 4, 4, 4, 4, 5, 5, 5, 5, 5, 5, 5, 5, 5, 5, 5, 5, 5, 5, 5, 5, 6, 6, 6, 6, 6, 6, 6, 6, 6, 6, 6, 6, 6, 6, 6, 6, 6, 6, 6, 6, 6, 6, 6, 6, 6, 6, 6, 6, 6, 6, 6, 6, 7, 7, 7, 7, 7, 7, 7, 7, 7, 7, 7, 7, 7, 7, 7, 7, 7, 7, 7, 7, 7, 7, 7, 7, 7, 7, 7, 7, 7, 7, 7, 7, 7, 7, 7, 7, 7, 7, 7, 7, 7, 7, 7, 7, 7, 7, 7, 7, 7, 7, 7, 7, 7, 7, 7, 7, 7, 7, 7, 7, 7, 7, 7, 7, 8, 8, 8, 8, 8, 8, 8, 8, 8, 8, 8, 8, 8, 8, 8, 8, 8, 8, 8, 8, 8, 8, 8, 8, 8, 8, 8, 8, 8, 8, 8, 8, 8, 8, 8, 8, 8, 8, 8, 8, 8, 8, 8, 8, 8, 8, 8, 8, 8, 8, 8, 8, 8, 8, 8, 8, 8, 8, 8, 8, 8, 8, 8, 8, 8, 8, 8, 8, 8, 8, 8, 8, 8, 8, 8, 8, 8, 8, 8, 8, 8, 8, 8, 8, 8, 8, 8, 8, 8, 8, 8, 8, 8, 8, 8, 8, 8, 8, 8, 8, 8, 8, 8, 8, 8, 8, 8, 8, 8, 8, 8, 8, 8, 8, 8, 8, 8, 8, 8, 8, 8, 8, 8, 8, 8, 8, 8, 8]⟩ : ByteArray) (ji10)))))) else (none)) else (none)) = some r := by first | (rw [hji10] at H; exact H) | (simp only [hji10] at H ⊢; exact H)
     by_cases c11 : 0 ≤ (ji10)
     ·rw [if_pos c11] at H
      have c11b0 : decide (0 ≤ (ji10)) = true := decide_eq_true c11
      clear c11
      by_cases c12 : (ji10) < 256
      ·rw [if_pos c12] at H
       have c12b0 : decide ((ji10) < 256) = true := decide_eq_true c12
       clear c12
       obtain rfl := Option.some.inj H
       have p13 : 0 ≤ ((ji10) : Int) := of_decide_eq_true (by first | (with_reducible assumption) | assumption)
       have q13 : (ji10) < (256 : Int) := of_decide_eq_true (by first | (with_reducible assumption) | assumption)
       have hx13 := bt_at (⟨#[0, 1, 2, 2, 3, 3, 3, 3, 4, 4, 4, 4, 4, 4, 4, 4, 5, 5, 5, 5, 5, 5, 5, 5, 5, 5, 5, 5, 5, 5, 5, 5, 6, 6, 6, 6, 6, 6, 6, 6, 6, 6, 6, 6, 6, 6, 6, 6, 6, 6, 6, 6, 6, 6, 6, 6, 6, 6, 6, 6, 6, 6, 6, 6, 7, 7, 7, 7, 7, 7, 7, 7, 7, 7, 7, 7, 7, 7, 7, 7, 7, 7, 7, 7, 7, 7, 7, 7, 7, 7, 7, 7, 7, 7, 7, 7, 7, 7, 7, 7, 7, 7, 7, 7, 7, 7, 7, 7, 7, 7, 7, 7, 7, 7, 7, 7, 7, 7, 7, 7, 7, 7, 7, 7, 7, 7, 7, 7, 8, 8, 8, 8, 8, 8, 8, 8, 8, 8, 8, 8, 8, 8, 8, 8, 8, 8, 8, 8, 8, 8, 8, 8, 8, 8, 8, 8, 8, 8, 8, 8, 8, 8, 8, 8, 8, 8, 8, 8, 8, 8, 8, 8, 8, 8, 8, 8, 8, 8, 8, 8, 8, 8, 8, 8, 8, 8, 8, 8, 8, 8, 8, 8, 8, 8, 8, 8, 8, 8, 8, 8, 8, 8, 8, 8, 8, 8, 8, 8, 8, 8, 8, 8, 8, 8, 8, 8, 8, 8, 8, 8, 8, 8, 8, 8, 8, 8, 8, 8, 8, 8, 8, 8, 8, 8, 8, 8, 8, 8, 8, 8, 8, 8, 8, 8, 8, 8, 8, 8, 8, 8, 8, 8, 8, 8, 8, 8]⟩ : ByteArray) (ji10)
       replace p13 := eq_true p13
       replace q13 := eq_true q13
       go_wp2
       go_ret
       exact ⟨by first | rfl | (simp; done) | (simp only [← hji10] <;> (first | rfl | simp)) | (simp [*]; done), by repeat (first | exact Drawn0.refl _ | apply Drawn0.step)⟩
      ·rw [if_neg c12] at H
       exact absurd H (by simp)
     ·rw [if_neg c11] at H
      exact absurd H (by simp)
   ·rw [if_neg c4] at H
    have c4b0 : decide (65536 ≤ x0_1) = false := decide_eq_false c4
    clear c4
    by_cases c14 : x0_1 ≥ 256
    ·rw [if_pos c14] at H
     have c14b0 : decide (256 ≤ x0_1) = true := decide_eq_true c14
     clear c14
     obtain ⟨ji15, hji15⟩ : ∃ j_ : Int, ((x0_1 / 256) % 256) = j_ := ⟨_, rfl⟩
     replace H : (if 0 ≤ (ji15) then (if (ji15) < 256 then (some (wrap64 ((wrap64 (x2_1 + 8)) + (wrap64 (bt (⟨#[0, 1, 2, 2, 3, 3, 3, 3, 4, 4, 4, 4, 4, 4, 4, 4, 5, 5, 5, 5, 5, 5, 5, 5, 5, 5, 5, 5, 5, 5, 5, 5, 6, 6, 6, 6, 6, 6, 6, 6, 6, 6, 6, 6, 6, 6, 6, 6, 6, 6, 6, 6, 6, 6, 6, 6, 6, 6, 6, 6, 6, 6, 6, 6, 7, 7, 7, 7, 7, 7, 7, 7, 7, 7, 7, 7, 7, 7, 7, 7, 7, 7, 7, 7, 7, 7, 7, 7, 7, 7, 7, 7, 7, 7, 7, 7, 7, 7, 7, 7, 7, 7, 7, 7, 7, 7, 7, 7, 7, 7, 7, 7, 7, 7, 7, 7, 7, 7, 7, 7, 7, 7, 7, 7, 7, 7, 7, 7, 8, 8, 8, 8, 8, 8, 8, 8, 8, 8, 8, 8, 8, 8, 8, 8, 8, 8, 8, 8, 8, 8, 8, 8, 8, 8, 8, 8, 8, 8, 8, 8, 8, 8, 8, 8, 8, 8, 8, 8, 8, 8, 8, 8, 8, 8, 8, 8, 8, 8, 8, 8, 8, 8, 8, 8, 8, 8, 8, 8, 8, 8, 8, 8, 8, 8, 8, 8, 8, 8, 8, 8, 8, 8, 8, 8, 8, 8, 8, 8, 8, 8, 8, 8, 8, 8, 8, 8, 8, 8, 8, 8, 8, 8, 8, 8, 8, 8, 8, 8, 8, 8, 8, 8, 8, 8, 8, 8, 8, 8, 8, 8, 8, 8, 8, 8, 8, 8, 8, 8, 8, 8, 8, 8, 8, 8, 8, 8]⟩ : ByteArray) (ji15)))))) else (none)) else (none)) = some r := by first | (rw [hji15] at H; exact H) | (simp only [hji15] at H ⊢; exact H)
     by_cases c16 : 0 ≤ (ji15)
     ·rw [if_pos c16] at H
      have c16b0 : decide (0 ≤ (ji15)) = true := decide_eq_true c16
      clear c16
      by_cases c17 : (ji15) < 256
      ·rw [if_pos c17] at H
       have c17b0 : decide ((ji15) < 256) = true := decide_eq_true c17
       clear c17
       obtain rfl := Option.some.inj H
       have p18 : 0 ≤ ((ji15) : Int) := of_decide_eq_true (by first | (with_reducible assumption) | assumption)
       have q18 : (ji15) < (256 : Int) := of_decide_eq_true (by first | (with_reducible assumption) | assumption)
       have hx18 := bt_at (⟨#[0, 1, 2, 2, 3, 3, 3, 3, 4, 4, 4, 4, 4, 4, 4, 4, 5, 5, 5, 5, 5, 5, 5, 5, 5, 5, 5, 5, 5, 5, 5, 5, 6, 6, 6, 6, 6, 6, 6, 6, 6, 6, 6, 6, 6, 6, 6, 6, 6, 6, 6, 6, 6, 6, 6, 6, 6, 6, 6, 6, 6, 6, 6, 6, 7, 7, 7, 7, 7, 7, 7, 7, 7, 7, 7, 7, 7, 7, 7, 7, 7, 7, 7, 7, 7, 7, 7, 7, 7, 7, 7, 7, 7, 7, 7, 7, 7, 7, 7, 7, 7, 7, 7, 7, 7, 7, 7, 7, 7, 7, 7, 7, 7, 7, 7, 7, 7, 7, 7, 7, 7, 7, 7, 7, 7, 7, 7, 7, 8, 8, 8, 8, 8, 8, 8, 8, 8, 8, 8, 8, 8, 8, 8, 8, 8, 8, 8, 8, 8, 8, 8, 8, 8, 8, 8, 8, 8, 8, 8, 8, 8, 8, 8, 8, 8, 8, 8, 8, 8, 8, 8, 8, 8, 8, 8, 8, 8, 8, 8, 8, 8, 8, 8, 8, 8, 8, 8, 8, 8, 8, 8, 8, 8, 8, 8, 8, 8, 8, 8, 8, 8, 8, 8, 8, 8, 8, 8, 8, 8, 8, 8, 8, 8, 8, 8, 8, 8, 8, 8, 8, 8, 8, 8, 8, 8, 8, 8, 8, 8, 8, 8, 8, 8, 8, 8, 8, 8, 8, 8, 8, 8, 8, 8, 8, 8, 8, 8, 8, 8, 8, 8, 8, 8, 8, 8, 8]⟩ : ByteArray) (ji15)
       replace p18 := eq_true p18
       replace q18 := eq_true q18
       go_wp2
       go_ret
       exact ⟨by first | rfl | (simp; done) | (simp only [← hji15] <;> (first | rfl | simp)) | (simp [*]; done), by repeat (first | exact Drawn0.refl _ | apply Drawn0.step)⟩
      ·rw [if_neg c17] at H
       exact absurd H (by simp)
     ·rw [if_neg c16] at H
      exact absurd H (by simp)
    ·rw [if_neg c14] at H
     have c14b0 : decide (256 ≤ x0_1) = false := decide_eq_false c14
     clear c14
     obtain ⟨ji19, hji19⟩ : ∃ j_ : Int, ((x0_1) % 256) = j_ := ⟨_, rfl⟩
     replace H : (if 0 ≤ (ji19) then (if (ji19) < 256 then (some (wrap64 (x2_1 + (wrap64 (bt (⟨#[0, 1, 2, 2, 3, 3, 3, 3, 4, 4, 4, 4, 4, 4, 4, 4, 5, 5, 5, 5, 5, 5, 5, 5, 5, 5, 5, 5, 5, 5, 5, 5, 6, 6, 6, 6, 6, 6, 6, 6, 6, 6, 6, 6, 6, 6, 6, 6, 6, 6, 6, 6, 6, 6, 6, 6, 6, 6, 6, 6, 6, 6, 6, 6, 7, 7, 7, 7, 7, 7, 7, 7, 7, 7, 7, 7, 7, 7, 7, 7, 7, 7, 7, 7, 7, 7, 7, 7, 7, 7, 7, 7, 7, 7, 7, 7, 7, 7, 7, 7, 7, 7, 7, 7, 7, 7, 7, 7, 7, 7, 7, 7, 7, 7, 7, 7, 7, 7, 7, 7, 7, 7, 7, 7, 7, 7, 7, 7, 8, 8, 8, 8, 8, 8, 8, 8, 8, 8, 8, 8, 8, 8, 8, 8, 8, 8, 8, 8, 8, 8, 8, 8, 8, 8, 8, 8, 8, 8, 8, 8, 8, 8, 8, 8, 8, 8, 8, 8, 8, 8, 8, 8, 8, 8, 8, 8, 8, 8, 8, 8, 8, 8, 8, 8, 8, 8, 8, 8, 8, 8, 8, 8, 8, 8, 8, 8, 8, 8, 8, 8, 8, 8, 8, 8, 8, 8, 8, 8, 8, 8, 8, 8, 8, 8, 8, 8, 8, 8, 8, 8, 8, 8, 8, 8, 8, 8, 8, 8, 8, 8, 8, 8, 8, 8, 8, 8, 8, 8, 8, 8, 8, 8, 8, 8, 8, 8, 8, 8, 8, 8, 8, 8, 8, 8, 8, 8]⟩ : ByteArray) (ji19)))))) else (none)) else (none)) = some r := by first | (rw [hji19] at H; exact H) | (simp only [hji19] at H ⊢; exact H)
     by_cases c20 : 0 ≤ (ji19)
     ·rw [if_pos c20] at H
      have c20b0 : decide (0 ≤ (ji19)) = true := decide_eq_true c20
      clear c20
      by_cases c21 : (ji19) < 256
      ·rw [if_pos c21] at H
       have c21b0 : decide ((ji19) < 256) = true := decide_eq_true c21
       clear c21
       obtain rfl := Option.some.inj H
       have p22 : 0 ≤ ((ji19) : Int) := of_decide_eq_true (by first | (with_reducible assumption) | assumption)
       have q22 : (ji19) < (256 : Int) := of_decide_eq_true (by first | (with_reducible assumption) | assumption)
       have hx22 := bt_at (⟨#[0, 1, 2, 2, 3, 3, 3, 3, 4, 4, 4, 4, 4, 4, 4, 4, 5, 5, 5, 5, 5, 5, 5, 5, 5, 5, 5, 5, 5, 5, 5, 5, 6, 6, 6, 6, 6, 6, 6, 6, 6, 6, 6, 6, 6, 6, 6, 6, 6, 6, 6, 6, 6, 6, 6, 6, 6, 6, 6, 6, 6, 6, 6, 6, 7, 7, 7, 7, 7, 7, 7, 7, 7, 7, 7, 7, 7, 7, 7, 7, 7, 7, 7, 7, 7, 7, 7, 7, 7, 7, 7, 7, 7, 7, 7, 7, 7, 7, 7, 7, 7, 7, 7, 7, 7, 7, 7, 7, 7, 7, 7, 7, 7, 7, 7, 7, 7, 7, 7, 7, 7, 7, 7, 7, 7, 7, 7, 7, 8, 8, 8, 8, 8, 8, 8, 8, 8, 8, 8, 8, 8, 8, 8, 8, 8, 8, 8, 8, 8, 8, 8, 8, 8, 8, 8, 8, 8, 8, 8, 8, 8, 8, 8, 8, 8, 8, 8, 8, 8, 8, 8, 8, 8, 8, 8, 8, 8, 8, 8, 8, 8, 8, 8, 8, 8, 8, 8, 8, 8, 8, 8, 8, 8, 8, 8, 8, 8, 8, 8, 8, 8, 8, 8, 8, 8, 8, 8, 8, 8, 8, 8, 8, 8, 8, 8, 8, 8, 8, 8, 8, 8, 8, 8, 8, 8, 8, 8, 8, 8, 8, 8, 8, 8, 8, 8, 8, 8, 8, 8, 8, 8, 8, 8, 8, 8, 8, 8, 8, 8, 8, 8, 8, 8, 8, 8, 8]⟩ : ByteArray) (ji19)
       replace p22 := eq_true p22
       replace q22 := eq_true q22
       go_wp2
       go_ret
       exact ⟨by first | rfl | (simp; done) | (simp only [← hji19] <;> (first | rfl | simp)) | (simp [*]; done), by repeat (first | exact Drawn0.refl _ | apply Drawn0.step)⟩
      ·rw [if_neg c21] at H
       exact absurd H (by simp)
     ·rw [if_neg c20] at H
      exact absurd H (by simp)
def oct_sh (m : Nat) : List Nat := (List.range m).map fun i => m - 1 - i
def oct_put (n : Int) (l : List Nat) : List Int := l.map fun (s : Nat) => (shr .u64 n (8 * (s : Int))) % 256
def octets_Put.f (k : Nat) (a0 a1 : Int) : Option (List Int × Int) :=
 if a1 < 1 then some ([], 4) else if 8 < a1 then some ([], 4) else (bits_Len64.f k a0).bind fun n => if 8 * a1 < n then some ([], 4) else some (oct_put a0 (oct_sh a1.toNat), 0)
theorem octets_Put.mono : ∀ a0 a1 k, LeO (octets_Put.f k a0 a1) (octets_Put.f (k + 1) a0 a1) := by
 intro a0 a1 k
 unfold octets_Put.f
 refine LeO.ite (LeO.refl _) (LeO.ite (LeO.refl _) (LeO.bind (bits_Len64.mono _ _) (fun _ => LeO.refl _)))
theorem oct_next (m i : Nat) (h : i < m) : (oct_sh m).take (i + 1) = (oct_sh m).take i ++ [m - 1 - i] := by
 have hlen : (oct_sh m).length = m := by simp [oct_sh]
 rw [List.take_succ_eq_append_getElem (by omega)]
 congr 2
 simp [oct_sh]
theorem oct_boxed {β : Type} (B : Nat) (t : TypeId) (v : Value) : Own (fun (_ : β) W => Boxed W B t v) := by
 rintro s X Y row hv hg hrow
 refine hv.kept hg (fun e' => ?_)
 obtain ⟨o, ho, hc⟩ := hrow B e'.symm
 rw [show X.heap[B]? = _ from hv] at ho; cases ho; cases hc
theorem oct_put_snoc (n : Int) (l : List Nat) (s : Nat) : oct_put n (l ++ [s]) = oct_put n l ++ [(shr .u64 n (8 * (s : Int))) % 256] := by simp [oct_put]
def oct_Kp (B : Nat) (W W' : World) : Prop := W'.heap[B]? = W.heap[B]?
set_option maxRecDepth 100000 in
set_option maxHeartbeats 1000000 in
theorem oct_all1 (n : Nat) (hn : 1 ≤ n) (l Bn m : Nat) (hm : m ≤ 8) (J Jx : List Nat → World → Prop)
  (hY : ∀ (pre : List Nat) (x : Nat) W, J pre W → pre.length < m → YieldAt Fence.wide (n - 1) Try.prog l #[.int .i64 (8 * (x : Int))] W fun e W' =>
   (e = .returned (.bool true) ∧ J (pre ++ [x]) W' ∧ oct_Kp Bn W W') ∨ (e = .returned (.bool false) ∧ Jx (pre ++ [x]) W'))
  (W : World) (hB : Boxed W Bn 3 (.int .i64 m)) (h0 : J [] W) :
  CallsIn Fence.wide n Try.prog 59 #[.func (.yield l) #[] #[], .pointer (some ⟨Bn, 0, none⟩)] W fun e W' => (∃ v, e = .returned v) ∧
   ((∃ ys, ys = oct_sh m ∧ J ys W') ∨ (∃ pre, pre <+: oct_sh m ∧ Jx pre W')) := by
 refine callsIn_of_wp Try.func59 rfl trivial ?_ rfl
 simp only [Try.ntmps59, List.size_toArray, List.length_cons, List.length_nil, Nat.reduceAdd, Nat.reduceSub, Array.replicate_succ, Array.replicate_zero, List.push_toArray, List.append_toArray, List.nil_append, List.cons_append]
 have hcell := hB.cell
 gi_wp2
 gi_loopw [5] (fun p wr => ∃ (i : Nat), p = .int .i64 i ∧ i ≤ m ∧ Boxed wr Bn 3 (.int .i64 m) ∧ J ((oct_sh m).take i) wr)
  (fun p wr => m - (intOf p).toNat)
 case atStart =>
  exact ⟨0, rfl, by omega, hB, by simpa using h0⟩
 case round =>
  obtain ⟨i, rfl, hi, hb, hJ⟩ := hrel
  have hc := hb.cell
  by_cases hlt : i < m
  ·have hlen : (oct_sh m).length = m := by simp [oct_sh]
   have hY' := hY ((oct_sh m).take i) (m - 1 - i) wr hJ (by simp [hlen]; omega)
   rw [show ((m - 1 - i : Nat) : Int) = (m : Int) - 1 - i from by omega] at hY'
   obtain ⟨fn, tmps, assign, body, hy, hR⟩ := hY'
   gi_wp2
   refine hR.mono ?_
   rintro e W3 (⟨rfl, hJ3, hk3⟩ | ⟨rfl, hJx3⟩)
   ·have hb3 : Boxed W3 Bn 3 (.int .i64 m) := hk3.trans hb
    gi_wp2
    go_roundw
    case rel => exact ⟨i + 1, by simp, by omega, hb3, by rw [oct_next m i hlt]; exact hJ3⟩
    case measure => simp [intOf]; omega
   ·gi_wp2
    refine bodyPost_ret (results_none rfl _ _ _) rfl ?_
    exact ⟨⟨_, rfl⟩, .inr ⟨_, by rw [← oct_next m i hlt]; exact List.take_prefix _ _, hJx3⟩⟩
  ·obtain rfl : i = m := by omega
   gi_wp2
   go_end0
   exact ⟨⟨_, rfl⟩, .inl ⟨_, rfl, by rwa [List.take_of_length_le (by simp [oct_sh])] at hJ⟩⟩
set_option maxHeartbeats 1000000 in
theorem oct_all (n : Nat) (m : Int) (w : World) :
  CallsIn Fence.wide n Try.prog 54 #[.int .i64 m] w fun e w' => e = .returned (.func (.func 59) #[] #[.pointer (some ⟨w.heap.size, 0, none⟩)]) ∧ w' = w.alloc (.cells #[.int .i64 m] 3) := by
 refine callsIn_of_wp Try.func54 rfl trivial ?_ rfl
 simp only [Try.ntmps54, List.size_toArray, List.length_cons, List.length_nil, Nat.reduceAdd, Nat.reduceSub, Array.replicate_succ, Array.replicate_zero, List.push_toArray, List.append_toArray, List.nil_append, List.cons_append]
 gi_wp2
 go_ret
 exact ⟨rfl, rfl⟩
theorem oct_stops (n : Nat) (hn : 1 ≤ n) (Bn m : Nat) (hm : m ≤ 8) (w : World) (hB : Boxed w Bn 3 (.int .i64 m)) :
  SeqStopsK Fence.wide n Try.prog 59 #[.pointer (some ⟨Bn, 0, none⟩)] (fun x : Nat => #[Value.int .i64 (8 * (x : Int))]) (oct_Kp Bn) (fun ys => ys = oct_sh m) (fun pre => pre <+: oct_sh m) m w := fun l J Jx W hW _ _ hY h0 =>
 oct_all1 n hn l Bn m hm J Jx hY W ((hW.block Bn hB.lt).trans hB) h0
section
attribute [local go_sem] Oper.semAt_some
attribute [local go_sem ↓ 5000] builtin_shutApp
set_option maxRecDepth 100000 in
set_option maxHeartbeats 2000000 in
theorem octets_Put.calls (k : Nat) (a0 a1 : Int) (r : List Int) (r1 : Int) (w : World) (h : octets_Put.f k a0 a1 = some (r, r1)) :
  Calls Try.prog 38 #[.int .u64 a0, .int .i64 a1] w fun e w' => ∃ v0_ : Value, e = .returned (.tuple #[v0_, .int .i64 r1]) ∧ Kd.R (Kd.int .u8) 5 w' w.heap.size (fun _ => True) v0_ r ∧ Below w.heap.size w w' := by
 refine (callsIn_wide (n := 5)).1 (callsIn_of_wp_marks Try.func38 rfl trivial ?_ rfl)
 simp only [Try.ntmps38, List.size_toArray, List.length_cons, List.length_nil, Nat.reduceAdd, Nat.reduceSub, Array.replicate_succ, Array.replicate_zero, List.push_toArray, List.append_toArray, List.nil_append, List.cons_append]
 unfold octets_Put.f at h
 have hB0 : Below w.heap.size w (w.alloc (.cells #[.int .u64 a0] 74)) := (Below.refl _ w).alloc (Nat.le_refl _) _
 by_cases c1 : a1 < 1
 ·rw [if_pos c1] at h
  cases h
  gi_wp2
  refine ⟨trivial, ?_⟩
  gi_wp2
  exact ⟨_, results_list (vs := [.slice none 0 0, .int .i64 4]) rfl (by decide) (.tmp (.tmp .nil)), _, rfl, Kd.R_nil _ _ _ _ _, hB0⟩
 rw [if_neg c1] at h
 by_cases c2 : 8 < a1
 ·rw [if_pos c2] at h
  cases h
  gi_wp2
  refine ⟨trivial, ?_⟩
  gi_wp2
  exact ⟨_, results_list (vs := [.slice none 0 0, .int .i64 4]) rfl (by decide) (.tmp (.tmp .nil)), _, rfl, Kd.R_nil _ _ _ _ _, hB0⟩
 rw [if_neg c2] at h
 have c1' : decide (a1 < 1) = false := decide_eq_false c1
 have c2' : decide (8 < a1) = false := decide_eq_false c2
 obtain ⟨n, hn, h⟩ := Option.bind_eq_some_iff.1 h
 have hC := fun W => bits_Len64.calls k a0 n W hn
 clear hn
 gi_wp2
 refine ⟨trivial, callsIn_wide.2 ((hC _).mono ?_)⟩
 rintro e w1 ⟨rfl, hd1⟩
 have B1 := hB0.trans (hd1.below.mono (by simp))
 clear hC
 by_cases c3 : 8 * a1 < n
 ·rw [if_pos c3] at h
  cases h
  have c3' : decide (8 * a1 < n) = true := decide_eq_true c3
  gi_wp2
  exact ⟨_, results_list (vs := [.slice none 0 0, .int .i64 4]) rfl (by decide) (.tmp (.tmp .nil)), _, rfl, Kd.R_nil _ _ _ _ _, B1⟩
 rw [if_neg c3] at h
 have c3' : decide (8 * a1 < n) = false := decide_eq_false c3
 obtain ⟨m, rfl⟩ := Int.eq_ofNat_of_zero_le (show 0 ≤ a1 by omega)
 cases h
 gi_wp2
 refine ⟨trivial, (oct_all 4 _ _).mono ?_⟩
 rintro e w' ⟨rfl, rfl⟩
 have b0 : Boxed w1 w.heap.size 74 (.int .u64 a0) := (hd1.below.block w.heap.size (by simp)).trans (Boxed.new w 74 (.int .u64 a0))
 have lt1 : w.heap.size < w1.heap.size := b0.lt
 have bO := Boxed.new w1 57 (.slice none 0 0)
 have bN := Boxed.new (w1.alloc (.cells #[.slice none 0 0] 57)) 3 (.int .i64 (m : Int))
 rw [World.size_alloc] at bN
 have B3 : Below w.heap.size w ((w1.alloc (.cells #[.slice none 0 0] 57)).alloc (.cells #[.int .i64 (m : Int)] 3)) := (B1.alloc (by omega) _).alloc (by simp; omega) _
 obtain ⟨i0, hi, hz0, hz1, hz2⟩ := info_parts info5
 clear hd1
 gi_wp2
 refine wpIn_rangeFunc_ownG rfl (by decide) (gf := 59) (lb := #[.pointer (some ⟨w1.heap.size + 1, 0, none⟩)]) rfl trivial (enters_of Try.func59 (by kernel_rfl) rfl)
  (oct_stops 4 (by decide) (w1.heap.size + 1) m (by omega) _ bN) (fun h1 h2 => h2.trans h1) (fun W l o o' hl ho hc _ => World.putObj_heap_other (by simp at hl; omega)) (Below.refl _ _) (fun _ => rfl)
  (fun pre W => ((∃ v, Boxed W w1.heap.size 57 v ∧ W.ownsRow w.heap.size 5 1 v (oct_put a0 pre).length ((oct_put a0 pre).map (Value.int .u8)) ∧ True) ∧ Boxed W w.heap.size 74 (.int .u64 a0)) ∧ Boxed W (w1.heap.size + 1) 3 (.int .i64 (m : Int)) ∧ Below w.heap.size w W)
  (fun _ _ _ => False)
  (OwnFrom.and (OwnFrom.and (Own.from (holdsRow_own w.heap.size w1.heap.size 57 5 1 (fun pre => (oct_put a0 pre).length) (fun pre => (oct_put a0 pre).map (Value.int .u8)) (fun _ _ => True)) _) (Own.from (oct_boxed _ _ _) _)) (OwnFrom.and (Own.from (oct_boxed _ _ _) _) (ownFrom_below (Nat.le_refl _) (by simp; omega))))
  (fun _ _ _ _ _ hs _ _ => hs)
  ⟨⟨⟨_, bO.alloc _, World.ownsRow_nil _ _ _ _, trivial⟩, (b0.alloc _).alloc _⟩, bN, B3⟩
  (fun x => { tmps := #[.int .u64 a0, .int .i64 (m : Int), .pointer (some ⟨w.heap.size, 0, none⟩), undef, .slice none 0 0, .int .i64 0, .pointer (some ⟨w1.heap.size, 0, none⟩), .int .i64 (8 * (x : Int)), .int .i64 (m : Int), .bool false, .bool false, .int .i64 (m : Int), .bool false, .bool false, .bool false, .int .u64 a0, .int .i64 n, .int .i64 (m : Int), .int .i64 (8 * (m : Int)), .bool false, .bool false, .int .i64 (m : Int), .func (.func 59) #[] #[.pointer (some ⟨w1.heap.size + 1, 0, none⟩)], .int .i64 (8 * (x : Int)), undef, undef, undef, undef, undef, undef, undef, undef], defers := [] }) ?assign ?body ?done ?stop
 case assign =>
  intro l x W K hK
  gi_wp2
  exact hK
 case body =>
  rintro l pre x W ⟨⟨⟨v, hv, hrow, _⟩, h51⟩, hbn, hB⟩ hlt
  have hc := hv.cell
  have hc2 := h51.cell
  have hlt1 : w1.heap.size < W.heap.size := hv.lt
  have hlt2 : w.heap.size < W.heap.size := h51.lt
  obtain ⟨jj, hjj⟩ : ∃ j_ : Int, shr .u64 a0 (8 * (x : Int)) = j_ := ⟨_, rfl⟩
  have hsh : Op.shift .shr .u64 a0 .i64 (8 * (x : Int)) = pure (.int .u64 jj) := by rw [← hjj]; exact shift_shr_any _ _ _ _ (by omega)
  have hpl : (oct_put a0 pre).length = pre.length := by simp [oct_put]
  have hml : maxLen = 9223372036854775807 := rfl
  obtain ⟨v', w', hrun, hown', hgrow, _⟩ := run_append_own (P := Try.prog) (w := (W.alloc (.cells #[.int .u8 (IntKind.u8.wrap jj)] 5)).drew) w.heap.size 57 57 5 i0 (.int .u8 0) 1 1 Try.underlying57 hi hz0 hz1 hz2 rfl (by decide) _ _ _ (hrow.alloc _).drew ⟨W.heap.size, 0, none⟩ 1 1 [.int .u8 (IntKind.u8.wrap jj)] rfl (cell_one_new _ _ _) (by simp [Value.oneCell']) (by omega) (by omega) (by have := hB.size; simp; omega)
  obtain ⟨g', cap', rfl⟩ := ownsRow_succ hown'
  obtain ⟨hv1, hv2, hr2, hk2, hb2⟩ := Boxed.appended (W := W.drew) (show Boxed W.drew w1.heap.size 57 v from hv) (by decide) hrow.drew hB.size (Nat.le_of_lt lt1) hown' hgrow
  have hc1 := hv1.cell
  have hf1 := hv1.frozen
  gi_wp2
  have hrun2 := run_shutApp hrun
  clear hrun
  have k3 : Boxed (w'.setCell ⟨w1.heap.size, 0, none⟩ (.slice (some ⟨g', 0, none⟩) ((oct_put a0 pre).length + 1) cap')) (w1.heap.size + 1) 3 (.int .i64 (m : Int)) := ((show Boxed ((W.alloc _).drew) (w1.heap.size + 1) 3 (.int .i64 (m : Int)) from hbn.alloc _).kept hgrow (hbn.not_row (by decide) hrow)).kept (grownBy_setCell' _ _ _) (by simp)
  have k5 : Boxed (w'.setCell ⟨w1.heap.size, 0, none⟩ (.slice (some ⟨g', 0, none⟩) ((oct_put a0 pre).length + 1) cap')) w.heap.size 74 (.int .u64 a0) := ((show Boxed ((W.alloc _).drew) w.heap.size 74 (.int .u64 a0) from h51.alloc _).kept hgrow (h51.not_row (by decide) hrow)).kept (grownBy_setCell' _ _ _) (by simp; omega)
  have hfin : KeepsFrom ((w1.alloc (.cells #[.slice none 0 0] 57)).alloc (.cells #[.int .i64 (m : Int)] 3)).heap.size W (w'.setCell ⟨w1.heap.size, 0, none⟩ (.slice (some ⟨g', 0, none⟩) ((oct_put a0 pre).length + 1) cap')) ∧ oct_Kp (w1.heap.size + 1) W (w'.setCell ⟨w1.heap.size, 0, none⟩ (.slice (some ⟨g', 0, none⟩) ((oct_put a0 pre).length + 1) cap')) ∧ ((∃ v, Boxed (w'.setCell ⟨w1.heap.size, 0, none⟩ (.slice (some ⟨g', 0, none⟩) ((oct_put a0 pre).length + 1) cap')) w1.heap.size 57 v ∧ (w'.setCell ⟨w1.heap.size, 0, none⟩ (.slice (some ⟨g', 0, none⟩) ((oct_put a0 pre).length + 1) cap')).ownsRow w.heap.size 5 1 v (oct_put a0 (pre ++ [x])).length ((oct_put a0 (pre ++ [x])).map (Value.int .u8)) ∧ True) ∧ Boxed (w'.setCell ⟨w1.heap.size, 0, none⟩ (.slice (some ⟨g', 0, none⟩) ((oct_put a0 pre).length + 1) cap')) w.heap.size 74 (.int .u64 a0)) ∧ Boxed (w'.setCell ⟨w1.heap.size, 0, none⟩ (.slice (some ⟨g', 0, none⟩) ((oct_put a0 pre).length + 1) cap')) (w1.heap.size + 1) 3 (.int .i64 (m : Int)) ∧ Below w.heap.size w (w'.setCell ⟨w1.heap.size, 0, none⟩ (.slice (some ⟨g', 0, none⟩) ((oct_put a0 pre).length + 1) cap')) := by
   refine ⟨KeepsOthers.from ((show KeepsOthers W W.drew from ⟨Nat.le_refl _, fun _ _ h _ => h⟩).trans hk2) _, k3.trans hbn.symm, ⟨⟨_, hv2, ?_, trivial⟩, k5⟩, k3, (below_drew hB).trans hb2⟩
   rw [oct_put_snoc, hjj, List.length_append, List.map_append]
   exact hr2
  rw [hpl] at hfin
  gi_region
  all_goals gi_wp2
  all_goals exact hfin
 case done =>
  rintro D ys W hD rfl ⟨⟨⟨v, hv, hrow, _⟩, _⟩, _, hB⟩ hK
  have hc := hv.cell
  gi_wp2
  refine ⟨by simp, .inl ⟨_, _, rfl, run_takeDeferred hK, ?_⟩⟩
  refine ⟨_, results_list (vs := [v, .int .i64 0]) rfl (by simp) (.tmp (.tmp .nil)), v, rfl, ?_, hB.trans (belowK_b (w := w) (Nat.le_refl _) W D _ _ (by simp at hD; omega) hK rfl rfl)⟩
  exact Kd.R_of_own (ownsRow_putObj hrow _ hK rfl) (fun _ _ => trivial)
 case stop =>
  rintro D c pre W _ _ h _
  exact h.elim
end
end Go.Proofs.Ytdlmmgehjhpmoaa.Print
