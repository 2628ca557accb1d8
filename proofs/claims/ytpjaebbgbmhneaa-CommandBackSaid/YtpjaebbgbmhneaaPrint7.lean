/- Written by pp.py, a program of this project that runs the kit's print over the translation, with functions proved by hand put in. Lean checks it. -/
import Derived.Test.YtpjaebbgbmhneaaPrint0
import Derived.Test.YtpjaebbgbmhneaaPrint1
import Derived.Test.YtpjaebbgbmhneaaPrint4
import Derived.Test.YtpjaebbgbmhneaaPrint5
import Derived.Test.YtpjaebbgbmhneaaPrint6
namespace Go.Proofs.Ytpjaebbgbmhneaa.Print
open Go.RowKit Go.Proofs.YtpjaebbgbmhneaaW.PrintWords Go.Proofs.YtpjaebbgbmhneaaW.PrintLast Go.Proofs.YtpjaebbgbmhneaaW.PrintMore
attribute [local go_sem] max2_int min2_int max_two min_two max_three min_three max_four min_four   -- for this text's walks alone
set_option linter.unusedVariables false
set_option linter.unusedSimpArgs false

attribute [local go_sem high] eqA48
/-! ### command_Decode_1: function 25, by hand -/
theorem box_set {W : World} {b : Nat} {t : TypeId} {v : Value} (v' : Value) (h : Boxed W b t v) : Boxed (W.setCell ⟨b, 0, none⟩ v') b t v' := h.set v'
theorem cm_put {W : World} {bc : Nat} {a1 a2 a3 a4 b1 b2 b3 b4 : Int} {u v : Value} (h : cmBox W bc a1 a2 a3 a4 u) :
    cmBox (((((W.setCell ⟨bc, 0, none⟩ (.int .i64 b1)).setCell ⟨bc, 1, none⟩ (.int .i64 b2)).setCell ⟨bc, 2, none⟩ (.int .i64 b3)).setCell ⟨bc, 3, none⟩ (.int .i64 b4)).setCell ⟨bc, 4, none⟩ v) bc b1 b2 b3 b4 v ∧
    W.grownBy (((((W.setCell ⟨bc, 0, none⟩ (.int .i64 b1)).setCell ⟨bc, 1, none⟩ (.int .i64 b2)).setCell ⟨bc, 2, none⟩ (.int .i64 b3)).setCell ⟨bc, 3, none⟩ (.int .i64 b4)).setCell ⟨bc, 4, none⟩ v) (some bc) :=
  ⟨((((h.set0 b1).set1 b2).set2 b3).set3 b4).set4 v, ((((sc_grown_setCell _ _ _ _).trans (sc_grown_setCell _ _ _ _)).trans (sc_grown_setCell _ _ _ _)).trans (sc_grown_setCell _ _ _ _)).trans (sc_grown_setCell _ _ _ _)⟩
theorem below_grown_some {W W' : World} {n b : Nat} (hg : W.grownBy W' (some b)) (hn : n ≤ W.heap.size) (hb : n ≤ b) : Below n W W' := (Below.refl n W).grown hg hn (fun k e => by cases e; exact hb)
set_option maxHeartbeats 4000000 in
set_option maxRecDepth 100000 in
theorem dec_catch (bc bv be : Nat) (a1 a2 a3 a4 y z x : Int) (u : Value) (hu : ∃ A n c, u = .slice A n c) (W : World) (hc : cmBox W bc a1 a2 a3 a4 u) (hv : Boxed W bv 3 (.int .i64 y)) (he : Boxed W be 27 (.int .i64 z)) (h1 : bc ≠ bv) (h2 : bc ≠ be) (h3 : bv ≠ be) :
    CallsD Try.prog 25 #[.pointer (some ⟨bc, 0, none⟩), .pointer (some ⟨bv, 0, none⟩), .pointer (some ⟨be, 0, none⟩)] (.panicking (sc_stop x)) W fun e u' W' =>
      e = .returned (.tuple #[]) ∧ u' = .panicking [{ v := .iface 56 (.agg #[.int .i64 x]), recovered := true }] ∧ cmBox W' bc 0 0 0 0 (.slice none 0 0) ∧ Boxed W' bv 3 (.int .i64 0) ∧ Boxed W' be 27 (.int .i64 x) ∧ (∀ n, n ≤ W.heap.size → n ≤ bc → n ≤ bv → n ≤ be → Below n W W') := by
  obtain ⟨A, n, c, rfl⟩ := hu
  unfold sc_stop
  have hta : ∀ (X : World), (Instr.typeAssert (Value.iface 56 (Value.agg #[Value.int .i64 x])) 20 56 true).run Try.prog X = .ok (.tuple #[.agg #[.int .i64 x], .bool true]) X := fun X => by kernel_rfl
  refine callsD_of_wpS Try.func25 rfl fun c₀ cs hu => ?_
  apply wpS_seq
  apply wpS_region
  simp [wpOpsS, go_sem, recoverD, hu, hta, Try.ntmps25, Exit.thenS]
  simp only [Array.replicate_succ, Array.replicate_zero, List.push_toArray, List.append_toArray, List.nil_append, List.cons_append, List.setIfInBounds_toArray, List.set_cons_zero, List.set_cons_succ]
  refine wpS_of_wp ?_
  have k1 := hc.lt
  have k2 := hv.lt
  have k3 := he.lt
  go_wp2_with fail
  refine start_ (n := 6) (S := fun w' => w'.cell? ⟨W.heap.size, 0, none⟩ = some (.int .i64 x)) (ds := [5]) #[false, false, false, false, false, false] (by kernel_rfl) rfl rfl (show (W.alloc (.cells #[.int .i64 x] 56)).cell? ⟨W.heap.size, 0, none⟩ = _ from (Boxed.new W 56 (.int .i64 x)).cell) (fun hHeld => ?_)
  have c1 : cmBox (W.alloc (.cells #[.int .i64 x] 56)).drew bc a1 a2 a3 a4 (.slice A n c) := cmBox.kept (row := none) hc ⟨rfl, rfl, rfl, by simp [World.drew], fun k hk _ => (World.grownBy_alloc W _ none).block k hk (by simp)⟩ (by simp)
  have v1 : Boxed (W.alloc (.cells #[.int .i64 x] 56)).drew bv 3 (.int .i64 y) := Boxed.alloc hv _
  have e1 : Boxed (W.alloc (.cells #[.int .i64 x] 56)).drew be 27 (.int .i64 z) := Boxed.alloc he _
  have g1 : W.grownBy (W.alloc (.cells #[.int .i64 x] 56)).drew none := ⟨rfl, rfl, rfl, by simp [World.drew], fun k hk _ => (World.grownBy_alloc W _ none).block k hk (by simp)⟩
  generalize (W.alloc (.cells #[.int .i64 x] 56)).drew = wd at hHeld c1 v1 e1 g1 ⊢
  obtain ⟨c2, g2⟩ := cm_put (b1 := 0) (b2 := 0) (b3 := 0) (b4 := 0) (v := .slice none 0 0) c1
  have klt := World.block_lt_of_cell? _ _ hHeld
  have s2 := (World.cell?_of_block (a := ⟨W.heap.size, 0, none⟩) (g2.block W.heap.size klt (by simp; omega))).trans hHeld
  have v2 := v1.kept g2 (by simpa using Ne.symm h1)
  have e2 := e1.kept g2 (by simpa using Ne.symm h2)
  have hcc := c1.cell
  have hcf := c1.frozen
  refine pure_ (i := 0) (N := some 11) (v := ?_) (a' := ?_) #[true, false, false, false, false, false] rfl rfl (by kernel_rfl) (fun _ _ _ h => h) (Or.inl ⟨by rfl, ?_⟩) ?_ ?_
  rotate_left
  · intro w'
    go_simp
    with_reducible rfl
  rotate_left
  · simp only [Act.put, List.setIfInBounds_toArray, List.set_cons_zero, List.set_cons_succ, i64_w, i32_w]
    rfl
  refine pure_ (i := 1) (N := some 12) (v := ?_) (a' := ?_) #[true, true, false, false, false, false] rfl rfl (by kernel_rfl) (fun _ _ _ h => h) (Or.inl ⟨by rfl, ?_⟩) ?_ ?_
  rotate_left
  · intro w'
    go_simp
    with_reducible rfl
  rotate_left
  · simp only [Act.put, List.setIfInBounds_toArray, List.set_cons_zero, List.set_cons_succ, i64_w, i32_w]
    rfl
  refine take_ (i := 2) (N := some 13) (v := ?_) (a' := ?_) #[true, true, true, false, false, false] rfl rfl (by kernel_rfl) (fun _ _ _ h => h) (Or.inl ⟨by rfl, ?_⟩) hHeld ?_ ?_
  rotate_left
  · intro w' s0
    go_simp
    with_reducible rfl
  rotate_left
  · simp only [Act.put, List.setIfInBounds_toArray, List.set_cons_zero, List.set_cons_succ, i64_w, i32_w]
    rfl
  refine one_ (i := 3) (N := none) #[true, true, true, true, false, false] rfl rfl (by kernel_rfl) (by decide) (fun K hK => ?_)
  refine skip_ (w1 := ?_) (by rfl) rfl ?_ ?_
  rotate_left
  · go_simp
    rfl
  refine hK.out _ _ s2 (fun hHeld2 => ?_)
  clear hK K
  generalize hWb : (((((wd.setCell ⟨bc, 0, none⟩ (.int .i64 0)).setCell ⟨bc, 1, none⟩ (.int .i64 0)).setCell ⟨bc, 2, none⟩ (.int .i64 0)).setCell ⟨bc, 3, none⟩ (.int .i64 0)).setCell ⟨bc, 4, none⟩ (.slice none 0 0)) = Wb at c2 g2 s2 v2 e2 hHeld2 ⊢
  clear hWb hHeld
  have hvc := v2.cell
  have hvf := v2.frozen
  have g3 := sc_grown_setCell Wb bv 0 (.int .i64 0)
  have v3 := v2.set (.int .i64 0)
  have c3 := c2.kept g3 (by simpa using h1)
  have e3 := e2.kept g3 (by simpa using Ne.symm h3)
  have klt2 := World.block_lt_of_cell? _ _ s2
  have s3 := (World.cell?_of_block (a := ⟨W.heap.size, 0, none⟩) (g3.block W.heap.size klt2 (by simp; omega))).trans s2
  refine one_ (i := 4) (N := none) #[true, true, true, true, true, false] rfl rfl (by kernel_rfl) (by decide) (fun K hK => ?_)
  refine skip_ (w1 := ?_) (by rfl) rfl ?_ ?_
  rotate_left
  · go_simp
    rfl
  refine hK.out _ _ s3 (fun hHeld3 => ?_)
  clear hK K
  generalize hWc : Wb.setCell ⟨bv, 0, none⟩ (.int .i64 0) = Wc at c3 g3 s3 v3 e3 hHeld3 ⊢
  clear hWc hHeld2
  have hec := e3.cell
  have hef := e3.frozen
  have g4 := sc_grown_setCell Wc be 0 (.int .i64 x)
  have e4 := e3.set (.int .i64 x)
  have c4 := c3.kept g4 (by simpa using h2)
  have v4 := v3.kept g4 (by simpa using h3)
  refine last_ (i := 5) (N := none) #[true, true, true, true, true, true] rfl rfl (by kernel_rfl) (by decide) (fun K hK => ?_)
  refine skip_ (w1 := ?_) (by rfl) rfl ?_ ?_
  rotate_left
  · go_simp
    rfl
  refine hK.out _ _ ?_
  clear hK K
  refine done_ (by kernel_rfl) ?_
  have B0 : ∀ n, n ≤ W.heap.size → n ≤ bc → n ≤ bv → n ≤ be → Below n W (Wc.setCell ⟨be, 0, none⟩ (.int .i64 x)) := fun n q1 q2 q3 q4 => by
    have b1 : Below n W wd := (Below.refl n W).grown g1 q1 (fun k e => by cases e)
    have b2 := b1.grown g2 (Nat.le_trans q1 b1.size) (fun k e => by cases e; exact q2)
    have b3 := b2.grown g3 (Nat.le_trans q1 b2.size) (fun k e => by cases e; exact q3)
    exact b3.grown g4 (Nat.le_trans q1 b3.size) (fun k e => by cases e; exact q4)
  refine (show bodyPostS _ _ _ _ _ _ _ _ _ from ?_)
  simp [bodyPostS, results, Try.results25]
  exact ⟨c4, v4, e4, B0⟩
set_option maxHeartbeats 4000000 in
set_option maxRecDepth 100000 in
theorem dec_idle (p q r : Value) (W : World) :
    CallsD Try.prog 25 #[p, q, r] .returning W fun e u' W' => e = .returned (.tuple #[]) ∧ u' = .returning ∧ W' = W.alloc (.cells #[.int .i64 0] 56) := by
  have hta : ∀ (X : World), (Instr.typeAssert Value.nilIface 20 56 true).run Try.prog X = .ok (.tuple #[.agg #[.int .i64 0], .bool false]) X := fun X => by kernel_rfl
  refine callsD_of_wpS Try.func25 rfl fun c₀ cs hu => ?_
  apply wpS_seq
  apply wpS_region
  simp [wpOpsS, go_sem, recoverD, hu, hta, Try.ntmps25, Exit.thenS]
  simp only [Array.replicate_succ, Array.replicate_zero, List.push_toArray, List.append_toArray, List.nil_append, List.cons_append, List.setIfInBounds_toArray, List.set_cons_zero, List.set_cons_succ]
  refine wpS_of_wp ?_
  go_wp2
  refine (show bodyPostS _ _ _ _ _ _ _ _ _ from ?_)
  cases c₀
  simp_all [bodyPostS, results, Try.results25]

/-! ### command_Decode: function 14, by hand -/
/-- What octets are as a command: its parts, its version, or why there is none. -/
def sc_dec (l : List Int) : Int × Int × Int × Int × List ScOp × Int × Int :=
  match sc_cmd l with
  | .error x => (0, 0, 0, 0, [], 0, x)
  | .ok (a, b, c, d, os, v) => if (cmd_encode v a b c d os).2 ≠ 0 then (0, 0, 0, 0, [], 0, (cmd_encode v a b c d os).2) else (a, b, c, d, os, v, 0)
def command_Decode.f (l0 : List Int) : Option (Int × Int × Int × Int × List ScOp × Int × Int) := if (l0.all fun x => decide (0 ≤ x ∧ x < 256)) = true then some (sc_dec l0) else none
theorem leaves_congr {P : Program} {fn : Func} {t1 t2 : Array Value} {R : Ending → World → Prop} (ht : results fn t1 = results fn t2) : ∀ (ds : List Deferred) (u : FrameMode) (w : World), Leaves P fn t1 R ds u w → Leaves P fn t2 R ds u w := by
  intro ds
  induction ds with
  | nil =>
    intro u w h
    cases u with
    | run => exact h
    | returning => obtain ⟨v, h1, h2⟩ := h; exact ⟨v, by rw [← ht]; exact h1, h2⟩
    | panicking c => exact h
  | cons d ds ih =>
    intro u w h
    obtain ⟨hu, fv, cap, f, args, h1, h2, h3⟩ := h
    refine ⟨hu, fv, cap, f, args, h1, h2, h3.mono ?_⟩
    intro e u' w' h4
    cases e with
    | returned v => exact ih _ _ h4
    | panicked c => exact ih _ _ h4
    | outgrown => exact h4
theorem dec_hQ {R : Ending → World → Prop} {c : List PanicEntry} {a : Act} {w : World} {v : Value} {N : Nat} (hN : 5 ≤ N) (h : bodyPostD Try.prog Try.f14 R (.panic c) (a.put (some N) v) w) : bodyPostD Try.prog Try.f14 R (.panic c) a w := by
  refine leaves_congr ?_ _ _ _ h
  have q : ∀ k, k < 5 → (a.put (some N) v).tmps[k]?.getD undef = a.tmps[k]?.getD undef := by
    intro k hk
    have hne : ¬ N = k := by omega
    simp [Act.put, Array.getElem?_setIfInBounds, hne]
  simp only [results, Try.results14]
  simp [q 2 (by decide), q 3 (by decide), q 4 (by decide)]
theorem leaves_nil {P : Program} {fn : Func} {tmps : Array Value} {R : Ending → World → Prop} {w : World} {v : Value} (h : (results fn tmps).run P w = .ok v w) (hr : R (.returned v) w) : Leaves P fn tmps R [] .returning w := ⟨v, h, hr⟩
theorem dec_res {tmps : Array Value} {W : World} {bc bv be : Nat} {cs : Array Value} {y z : Int} (h2 : tmps.getD 2 undef = .pointer (some ⟨bc, 0, none⟩)) (h3 : tmps.getD 3 undef = .pointer (some ⟨bv, 0, none⟩)) (h4 : tmps.getD 4 undef = .pointer (some ⟨be, 0, none⟩))
    (hc : W.heap[bc]? = some (.cells cs 24 (0, 0))) (hs : cs.size = 5) (hv : Boxed W bv 3 (.int .i64 y)) (he : Boxed W be 27 (.int .i64 z)) :
    (results Try.f14 tmps).run Try.prog W = .ok (.tuple #[.agg cs, .int .i64 y, .int .i64 z]) W := by
  have hl1 := run_loadVar_row (P := Try.prog) W bc 24 24 cs (0, 0) _ hc Try.underlying24 rfl (by rw [hs]; kernel_rfl)
  have hl2 : (loadVar 3 ⟨bv, 0, none⟩).run Try.prog W = .ok (.int .i64 y) W := by
    have := hv.cell
    simp [go_sem, this]
  have hl3 : (loadVar 27 ⟨be, 0, none⟩).run Try.prog W = .ok (.int .i64 z) W := by
    have := he.cell
    simp [go_sem, this]
  simp only [results, Try.results14]
  simp only [Array.getD_eq_getD_getElem?] at h2 h3 h4
  simp [h2, h3, h4, asAddr, hl1, hl2, hl3, Result.andThen, Sem.run_bind]
theorem ops_below {W W' : World} {base : Nat} {v : Value} {os : List ScOp} (h : Kd.R k48 48 W base (fun _ => True) v os) (hb : Below W.heap.size W W') : Kd.R k48 48 W' base (fun _ => True) v os := by
  obtain ⟨h0, inner, hown, hr⟩ := h
  refine ⟨fun _ _ => trivial, inner, ⟨hown.1, ?_⟩, hr.imp_ (fun x cs hx => by rw [k48_openM hx]; exact k48_mkM _ _ _ _)⟩
  rcases hown.2 with hn | ⟨g, cap, cur, rfl, hb1, hgg, rest⟩
  · exact .inl hn
  · exact .inr ⟨g, cap, cur, rfl, hb1, (hb.block g (Array.getElem?_eq_some_iff.1 hgg).1).trans hgg, rest⟩
set_option maxHeartbeats 8000000 in
set_option maxRecDepth 100000 in
theorem command_Decode.calls (A0 : Option Addr) (c0 : Nat) (l0 : List Int) (r1 r2 r3 r4 : Int) (r5 : List ScOp) (r6 r7 : Int) (w : World) (hr0 : Kd.C (Kd.int .u8) w A0 l0.length l0) (hc0 : l0.length ≤ c0) (h : command_Decode.f l0 = some (r1, r2, r3, r4, r5, r6, r7)) :
    Calls Try.prog 14 #[.slice A0 l0.length c0] w fun e w' => ∃ v0_ : Value, e = .returned (.tuple #[.agg #[.int .i64 r1, .int .i64 r2, .int .i64 r3, .int .i64 r4, v0_], .int .i64 r6, .int .i64 r7]) ∧ Kd.R k48 48 w' w.heap.size (fun _ => True) v0_ r5 ∧ Below w.heap.size w w' := by
  unfold command_Decode.f at h
  split at h
  case isFalse => cases h
  rename_i hall
  have hby : sc_bytes l0 := fun x hx => by have := List.all_eq_true.1 hall x hx; simpa using this
  have H := Aside0.mk (Option.some.inj h)
  clear h hall
  have HR := Aside0.mk hr0
  have HC := Aside0.mk hc0
  have hmf : ∀ (fn : Fn) (first cap : Array Value) (w : World), (Instr.makeFunc fn first cap).run Try.prog w = .ok (.func fn first cap) w := fun _ _ _ _ => rfl
  have hB0 : Below w.heap.size w ((((w.alloc (.cells #[.int .i64 0, .int .i64 0, .int .i64 0, .int .i64 0, .slice none 0 0] 24)).alloc (.cells #[.int .i64 0] 3)).alloc (.cells #[.int .i64 0] 27)).alloc (.cells #[.slice A0 l0.length c0] 58)) :=
    ((((Below.refl _ w).alloc (Nat.le_refl _) _).alloc (by simp) _).alloc (by simp; omega) _).alloc (by simp; omega) _
  have hbc : cmBox ((((w.alloc (.cells #[.int .i64 0, .int .i64 0, .int .i64 0, .int .i64 0, .slice none 0 0] 24)).alloc (.cells #[.int .i64 0] 3)).alloc (.cells #[.int .i64 0] 27)).alloc (.cells #[.slice A0 l0.length c0] 58)) w.heap.size 0 0 0 0 (.slice none 0 0) :=
    cmBox.kept (cmBox.kept (cmBox.kept (World.alloc_heap_new w _) (World.grownBy_alloc _ _ none) (by simp)) (World.grownBy_alloc _ _ none) (by simp)) (World.grownBy_alloc _ _ none) (by simp)
  have hbv : Boxed ((((w.alloc (.cells #[.int .i64 0, .int .i64 0, .int .i64 0, .int .i64 0, .slice none 0 0] 24)).alloc (.cells #[.int .i64 0] 3)).alloc (.cells #[.int .i64 0] 27)).alloc (.cells #[.slice A0 l0.length c0] 58)) (w.heap.size + 1) 3 (.int .i64 0) := by
    have := Boxed.new (w.alloc (.cells #[.int .i64 0, .int .i64 0, .int .i64 0, .int .i64 0, .slice none 0 0] 24)) 3 (.int .i64 0)
    rw [World.size_alloc] at this
    exact (this.alloc _).alloc _
  have hbe : Boxed ((((w.alloc (.cells #[.int .i64 0, .int .i64 0, .int .i64 0, .int .i64 0, .slice none 0 0] 24)).alloc (.cells #[.int .i64 0] 3)).alloc (.cells #[.int .i64 0] 27)).alloc (.cells #[.slice A0 l0.length c0] 58)) (w.heap.size + 1 + 1) 27 (.int .i64 0) := by
    have := Boxed.new ((w.alloc (.cells #[.int .i64 0, .int .i64 0, .int .i64 0, .int .i64 0, .slice none 0 0] 24)).alloc (.cells #[.int .i64 0] 3)) 27 (.int .i64 0)
    rw [World.size_alloc, World.size_alloc] at this
    exact this.alloc _
  have hbs : Boxed ((((w.alloc (.cells #[.int .i64 0, .int .i64 0, .int .i64 0, .int .i64 0, .slice none 0 0] 24)).alloc (.cells #[.int .i64 0] 3)).alloc (.cells #[.int .i64 0] 27)).alloc (.cells #[.slice A0 l0.length c0] 58)) (w.heap.size + 1 + 1 + 1) 58 (.slice A0 l0.length c0) := by
    have := Boxed.new (((w.alloc (.cells #[.int .i64 0, .int .i64 0, .int .i64 0, .int .i64 0, .slice none 0 0] 24)).alloc (.cells #[.int .i64 0] 3)).alloc (.cells #[.int .i64 0] 27)) 58 (.slice A0 l0.length c0)
    rw [World.size_alloc, World.size_alloc, World.size_alloc] at this
    exact this
  have T := Aside0.mk (sc_command w _ _ l0 hby ⟨hB0, by omega, A0, c0, hbs, hr0, hc0⟩)
  have HBC := Aside0.mk hbc
  have HBV := Aside0.mk hbv
  have HBE := Aside0.mk hbe
  have HBB := Aside0.mk hB0
  clear hr0 hc0 hbc hbv hbe hbs hB0 hby
  go_enter_defers Try.func14, Try.ntmps14
  go_wp2_with fail
  refine T.out.mono ?_
  rintro e W1 ⟨hg, ⟨x, hx, rfl⟩ | ⟨a, b, c, d, os, v, u, hok, rfl, HO⟩⟩
  · have B1 := Aside0.mk (HBB.out.grown hg HBB.out.size (fun k e => by cases e; omega))
    have hc1 := HBC.out.kept hg (by simp; omega)
    have hv1 := HBV.out.kept hg (by simp)
    have he1 := HBE.out.kept hg (by simp)
    clear hg T HBC HBV HBE HBB
    go_wp2
    refine leaves_cons (f := 25) (args := #[.pointer (some ⟨w.heap.size, 0, none⟩), .pointer (some ⟨w.heap.size + 1, 0, none⟩), .pointer (some ⟨w.heap.size + 1 + 1, 0, none⟩)]) (by simp) (by simp [go_sem]) ?_
    refine (dec_catch _ _ _ 0 0 0 0 0 0 x _ ⟨_, _, _, rfl⟩ W1 hc1 hv1 he1 (by omega) (by omega) (by omega)).mono ?_
    rintro e u' W2 ⟨rfl, rfl, hc2, hv2, he2, hB2⟩
    have hrr := H.out
    unfold sc_dec at hrr
    rw [hx] at hrr
    cases hrr
    have BF := Aside0.mk (B1.out.trans (hB2 _ B1.out.size (Nat.le_refl _) (by omega) (by omega)))
    refine leaves_nil (dec_res (bc := w.heap.size) (bv := w.heap.size + 1) (be := w.heap.size + 1 + 1) rfl rfl rfl hc2 rfl hv2 he2) ?_
    exact ⟨_, rfl, Kd.R_nil _ _ _ _ _, BF.out⟩
  · have B1 := HBB.out.grown hg HBB.out.size (fun k e => by cases e; omega)
    have hc1 := HBC.out.kept hg (by intro e; injection e with e; omega)
    have hv1 := HBV.out.kept hg (by intro e; injection e with e; omega)
    have he1 := HBE.out.kept hg (by intro e; injection e with e; omega)
    clear hg T HBC HBV HBE
    obtain ⟨Au, cu, eu⟩ := Kd.R_slice HO
    subst eu
    obtain ⟨c2, g2⟩ := cm_put (b1 := a) (b2 := b) (b3 := c) (b4 := d) (v := .slice Au os.length cu) hc1
    have v2 := hv1.kept g2 (by intro e; injection e with e; omega)
    have e2 := he1.kept g2 (by intro e; injection e with e; omega)
    have g3 := sc_grown_setCell (((((W1.setCell ⟨w.heap.size, 0, none⟩ (.int .i64 a)).setCell ⟨w.heap.size, 1, none⟩ (.int .i64 b)).setCell ⟨w.heap.size, 2, none⟩ (.int .i64 c)).setCell ⟨w.heap.size, 3, none⟩ (.int .i64 d)).setCell ⟨w.heap.size, 4, none⟩ (.slice Au os.length cu)) (w.heap.size + 1) 0 (.int .i64 v)
    have v3 := v2.set (.int .i64 v)
    have c3 := c2.kept g3 (by intro e; injection e with e; omega)
    have e3 := e2.kept g3 (by intro e; injection e with e; omega)
    have ne1 : ∀ bb, bb < w.heap.size + 4 → (Value.slice Au os.length cu).ownBlock = none ∨ (Value.slice Au os.length cu).ownBlock ≠ some bb := fun bb hbb => by
      cases e : (Value.slice Au os.length cu).ownBlock with
      | none => exact .inl rfl
      | some k => right; have := (ops_base HO k e).1; simp at this; intro e2; injection e2 with e2; omega
    have NE1 := Aside0.mk ne1
    have o3 := ops_grown (ops_grown HO g2 (ne1 _ (by omega))) g3 (ne1 _ (by omega))
    have B3 := (B1.grown g2 B1.size (fun k e => by cases e; exact Nat.le_refl _)).grown g3 (B1.grown g2 B1.size (fun k e => by cases e; exact Nat.le_refl _)).size (fun k e => by cases e; omega)
    have hr3 := Kd.R_reads' o3
    obtain ⟨p, q, hpq⟩ : ∃ p q, cmd_encode v a b c d os = (p, q) := ⟨_, _, rfl⟩
    have HE := Aside0.mk (command_Encode.calls a b c d Au cu os v p q _ hr3.2.2 hr3.2.1 (show some (cmd_encode v a b c d os) = _ by rw [hpq]))
    have HPQ := Aside0.mk hpq
    have HOK := Aside0.mk hok
    have hcc1 := hc1.cell
    have hcf1 := hc1.frozen
    have hvc1 := v2.cell
    have hvf1 := v2.frozen
    have hcc3 := c3.cell
    have hvc3 := v3.cell
    have C3 := Aside0.mk c3
    have V3 := Aside0.mk v3
    have E3 := Aside0.mk e3
    have O3 := Aside0.mk o3
    have BB3 := Aside0.mk B3
    clear hr3 g2 g3 v2 e2 c2 hc1 hv1 he1 B1 HBB hpq hok c3 v3 e3 o3 B3 HO ne1
    go_wp2_with fail
    refine HE.out.mono ?_
    rintro e W2 ⟨vb, rfl, _, hb2⟩
    have c4 : cmBox W2 w.heap.size a b c d (.slice Au os.length cu) := (hb2.block _ C3.out.lt).trans C3.out
    have v4 : Boxed W2 (w.heap.size + 1) 3 (.int .i64 v) := (hb2.block _ V3.out.lt).trans V3.out
    have e4 : Boxed W2 (w.heap.size + 1 + 1) 27 (.int .i64 0) := (hb2.block _ E3.out.lt).trans E3.out
    have o4 := ops_below O3.out hb2
    have B4 := BB3.out.trans (hb2.mono BB3.out.size)
    have g5 := sc_grown_setCell W2 (w.heap.size + 1 + 1) 0 (.int .i64 q)
    have e5 := e4.set (.int .i64 q)
    have c5 := c4.kept g5 (by intro e; injection e with e; omega)
    have v5 := v4.kept g5 (by intro e; injection e with e; omega)
    have o5 := ops_grown o4 g5 (NE1.out _ (by omega))
    have B5 := B4.grown g5 B4.size (fun k e => by cases e; omega)
    have hec4 := e4.cell
    have hef4 := e4.frozen
    have hec5 := e5.cell
    clear C3 V3 E3 O3 BB3 HE hb2 o4 B4 v4 c4 hcc1 hcf1 hvc1 hvf1 hcc3 hvc3
    have C5 := Aside0.mk c5
    have V5 := Aside0.mk v5
    have E5 := Aside0.mk e5
    have O5 := Aside0.mk o5
    have B5' := Aside0.mk B5
    clear c5 v5 e5 o5 B5 g5 e4
    by_cases hq : q = 0
    · subst hq
      go_wp2_with fail
      refine start_ (n := 5) (S := fun w' => (w'.cell? ⟨w.heap.size, 0, none⟩ = some (.int .i64 a) ∧ w'.cell? ⟨w.heap.size, 1, none⟩ = some (.int .i64 b) ∧ w'.cell? ⟨w.heap.size, 2, none⟩ = some (.int .i64 c) ∧ w'.cell? ⟨w.heap.size, 3, none⟩ = some (.int .i64 d) ∧ w'.cell? ⟨w.heap.size, 4, none⟩ = some (.slice Au os.length cu)) ∧ w'.cell? ⟨w.heap.size + 1, 0, none⟩ = some (.int .i64 v)) (ds := [3, 4]) #[false, false, false, false, false] (by kernel_rfl) rfl rfl ⟨C5.out.cell, V5.out.cell⟩ (fun hHeld => ?_)
      have g6 : (W2.setCell ⟨w.heap.size + 1 + 1, 0, none⟩ (.int .i64 0)).grownBy (W2.setCell ⟨w.heap.size + 1 + 1, 0, none⟩ (.int .i64 0)).drew none := ⟨rfl, rfl, rfl, Nat.le_refl _, fun _ _ _ => rfl⟩
      have c6 := C5.out.kept g6 (by simp)
      have v6 := V5.out.kept g6 (by simp)
      have e6 := E5.out.kept g6 (by simp)
      have o6 := ops_grown O5.out g6 (by cases e : (Value.slice Au os.length cu).ownBlock with | none => exact .inl rfl | some k => right; simp)
      have B6 := B5'.out.grown g6 B5'.out.size (fun k e => by cases e)
      generalize (W2.setCell ⟨w.heap.size + 1 + 1, 0, none⟩ (.int .i64 0)).drew = wd at hHeld c6 v6 e6 o6 B6 ⊢
      clear g6
      obtain ⟨c7, g7⟩ := cm_put (b1 := a) (b2 := b) (b3 := c) (b4 := d) (v := .slice Au os.length cu) c6
      have v7 := v6.kept g7 (by intro e; injection e with e; omega)
      have e7 := e6.kept g7 (by intro e; injection e with e; omega)
      have o7 := ops_grown o6 g7 (NE1.out _ (by omega))
      have B7 := B6.grown g7 B6.size (fun k e => by cases e; exact Nat.le_refl _)
      have hc6 := c6.cell
      have hcf6 := c6.frozen
      refine take_ (i := 0) (N := some 22) (v := ?_) (a' := ?_) #[true, false, false, false, false] rfl rfl (by kernel_rfl) (fun _ _ _ h => dec_hQ (N := 22) (by decide) h) (Or.inl ⟨by rfl, ?_⟩) hHeld ?_ ?_
      rotate_left
      · rintro w' ⟨⟨s0, s1, s2, s3, s4⟩, s5⟩
        go_simp
        with_reducible rfl
      rotate_left
      · simp only [Act.put, List.setIfInBounds_toArray, List.set_cons_zero, List.set_cons_succ, i64_w, i32_w]
        rfl
      refine take_ (i := 1) (N := some 23) (v := ?_) (a' := ?_) #[true, true, false, false, false] rfl rfl (by kernel_rfl) (fun _ _ _ h => dec_hQ (N := 23) (by decide) h) (Or.inl ⟨by rfl, ?_⟩) hHeld ?_ ?_
      rotate_left
      · rintro w' ⟨_, s5⟩
        go_simp
        with_reducible rfl
      rotate_left
      · simp only [Act.put, List.setIfInBounds_toArray, List.set_cons_zero, List.set_cons_succ, i64_w, i32_w]
        rfl
      refine one_ (i := 2) (N := none) #[true, true, true, false, false] rfl rfl (by kernel_rfl) (by decide) (fun K hK => ?_)
      refine skip_ (w1 := ?_) (by rfl) rfl ?_ ?_
      rotate_left
      · go_simp
        rfl
      refine hK.out _ _ ⟨c7.cell, v7.cell⟩ (fun hHeld2 => ?_)
      clear hK K hHeld
      have hHeld := hHeld2
      clear hHeld2
      generalize (((((wd.setCell ⟨w.heap.size, 0, none⟩ (.int .i64 a)).setCell ⟨w.heap.size, 1, none⟩ (.int .i64 b)).setCell ⟨w.heap.size, 2, none⟩ (.int .i64 c)).setCell ⟨w.heap.size, 3, none⟩ (.int .i64 d)).setCell ⟨w.heap.size, 4, none⟩ (.slice Au os.length cu)) = we at c7 g7 v7 e7 o7 B7 hHeld ⊢
      have hv7 := v7.cell
      have hvf7 := v7.frozen
      have g8 := sc_grown_setCell we (w.heap.size + 1) 0 (.int .i64 v)
      have v8 := v7.set (.int .i64 v)
      have c8 := c7.kept g8 (by intro e; injection e with e; omega)
      have e8 := e7.kept g8 (by intro e; injection e with e; omega)
      have o8 := ops_grown o7 g8 (NE1.out _ (by omega))
      have B8 := B7.grown g8 B7.size (fun k e => by cases e; omega)
      refine last_ (i := 3) (N := none) #[true, true, true, true, false] rfl rfl (by kernel_rfl) (by decide) (fun K hK => ?_)
      refine skip_ (w1 := ?_) (by rfl) rfl ?_ ?_
      rotate_left
      · go_simp
        rfl
      refine hK.out _ _ ?_
      clear hK K
      generalize we.setCell ⟨w.heap.size + 1, 0, none⟩ (.int .i64 v) = wf at c8 g8 v8 e8 o8 B8 ⊢
      have he8 := e8.cell
      have hef8 := e8.frozen
      have g9 := sc_grown_setCell wf (w.heap.size + 1 + 1) 0 (.int .i64 0)
      have e9 := e8.set (.int .i64 0)
      have c9 := c8.kept g9 (by intro e; injection e with e; omega)
      have v9 := v8.kept g9 (by intro e; injection e with e; omega)
      have o9 := ops_grown o8 g9 (NE1.out _ (by omega))
      have B9 := B8.grown g9 B8.size (fun k e => by cases e; omega)
      refine last_ (i := 4) (N := none) #[true, true, true, true, true] rfl rfl (by kernel_rfl) (by decide) (fun K hK => ?_)
      refine skip_ (w1 := ?_) (by rfl) rfl ?_ ?_
      rotate_left
      · go_simp
        rfl
      refine hK.out _ _ ?_
      clear hK K
      refine done_ (by kernel_rfl) ?_
      try go_wp2
      refine leaves_cons (f := 25) (args := #[.pointer (some ⟨w.heap.size, 0, none⟩), .pointer (some ⟨w.heap.size + 1, 0, none⟩), .pointer (some ⟨w.heap.size + 1 + 1, 0, none⟩)]) (by simp) (by simp [go_sem]) ?_
      refine (dec_idle _ _ _ _).mono ?_
      rintro e u' Wl ⟨rfl, rfl, rfl⟩
      have hrr := H.out
      unfold sc_dec at hrr
      rw [HOK.out] at hrr
      dsimp only at hrr
      rw [HPQ.out] at hrr
      rw [if_neg (by simp)] at hrr
      have ga := World.grownBy_alloc (wf.setCell ⟨w.heap.size + 1 + 1, 0, none⟩ (.int .i64 0)) (.cells #[.int .i64 0] 56) none
      have o10 := ops_grown o9 ga (by cases e : (Value.slice Au os.length cu).ownBlock with | none => exact .inl rfl | some k => right; simp)
      cases hrr
      refine leaves_nil (dec_res (bc := w.heap.size) (bv := w.heap.size + 1) (be := w.heap.size + 1 + 1) rfl rfl rfl (c9.kept ga (by simp)) rfl (v9.kept ga (by simp)) (e9.kept ga (by simp))) ?_
      exact ⟨_, rfl, Kd.R_lower o10 (by simp; omega), B9.grown ga B9.size (fun k e => by cases e)⟩
    · have hq2 : (q == 0) = false := by simpa using hq
      have hq3 : (q != 0) = true := by simpa using hq
      have HQ := Aside0.mk hq
      go_wp2_with fail
      refine start_ (n := 5) (S := fun w' => w'.cell? ⟨w.heap.size + 1 + 1, 0, none⟩ = some (.int .i64 q)) (ds := [4]) #[false, false, false, false, false] (by kernel_rfl) rfl rfl E5.out.cell (fun hHeld => ?_)
      have g6 : (W2.setCell ⟨w.heap.size + 1 + 1, 0, none⟩ (.int .i64 q)).grownBy (W2.setCell ⟨w.heap.size + 1 + 1, 0, none⟩ (.int .i64 q)).drew none := ⟨rfl, rfl, rfl, Nat.le_refl _, fun _ _ _ => rfl⟩
      have c6 := C5.out.kept g6 (by simp)
      have v6 := V5.out.kept g6 (by simp)
      have e6 := E5.out.kept g6 (by simp)
      have B6 := B5'.out.grown g6 B5'.out.size (fun k e => by cases e)
      generalize (W2.setCell ⟨w.heap.size + 1 + 1, 0, none⟩ (.int .i64 q)).drew = wd at hHeld c6 v6 e6 B6 ⊢
      clear g6
      obtain ⟨c7, g7⟩ := cm_put (b1 := 0) (b2 := 0) (b3 := 0) (b4 := 0) (v := .slice none 0 0) c6
      have v7 := v6.kept g7 (by intro e; injection e with e; omega)
      have e7 := e6.kept g7 (by intro e; injection e with e; omega)
      have B7 := B6.grown g7 B6.size (fun k e => by cases e; exact Nat.le_refl _)
      have hc6 := c6.cell
      have hcf6 := c6.frozen
      refine pure_ (i := 0) (N := some 20) (v := ?_) (a' := ?_) #[true, false, false, false, false] rfl rfl (by kernel_rfl) (fun _ _ _ h => dec_hQ (N := 20) (by decide) h) (Or.inl ⟨by rfl, ?_⟩) ?_ ?_
      rotate_left
      · intro w'
        go_simp
        with_reducible rfl
      rotate_left
      · simp only [Act.put, List.setIfInBounds_toArray, List.set_cons_zero, List.set_cons_succ, i64_w, i32_w]
        rfl
      refine take_ (i := 1) (N := some 21) (v := ?_) (a' := ?_) #[true, true, false, false, false] rfl rfl (by kernel_rfl) (fun _ _ _ h => dec_hQ (N := 21) (by decide) h) (Or.inl ⟨by rfl, ?_⟩) hHeld ?_ ?_
      rotate_left
      · rintro w' s0
        go_simp
        with_reducible rfl
      rotate_left
      · simp only [Act.put, List.setIfInBounds_toArray, List.set_cons_zero, List.set_cons_succ, i64_w, i32_w]
        rfl
      refine one_ (i := 2) (N := none) #[true, true, true, false, false] rfl rfl (by kernel_rfl) (by decide) (fun K hK => ?_)
      refine skip_ (w1 := ?_) (by rfl) rfl ?_ ?_
      rotate_left
      · go_simp
        rfl
      refine hK.out _ _ e7.cell (fun hHeld2 => ?_)
      clear hK K hHeld
      have hHeld := hHeld2
      clear hHeld2
      generalize (((((wd.setCell ⟨w.heap.size, 0, none⟩ (.int .i64 0)).setCell ⟨w.heap.size, 1, none⟩ (.int .i64 0)).setCell ⟨w.heap.size, 2, none⟩ (.int .i64 0)).setCell ⟨w.heap.size, 3, none⟩ (.int .i64 0)).setCell ⟨w.heap.size, 4, none⟩ (.slice none 0 0)) = we at c7 g7 v7 e7 B7 hHeld ⊢
      have hv7 := v7.cell
      have hvf7 := v7.frozen
      have g8 := sc_grown_setCell we (w.heap.size + 1) 0 (.int .i64 0)
      have v8 := v7.set (.int .i64 0)
      have c8 := c7.kept g8 (by intro e; injection e with e; omega)
      have e8 := e7.kept g8 (by intro e; injection e with e; omega)
      have B8 := B7.grown g8 B7.size (fun k e => by cases e; omega)
      refine one_ (i := 3) (N := none) #[true, true, true, true, false] rfl rfl (by kernel_rfl) (by decide) (fun K hK => ?_)
      refine skip_ (w1 := ?_) (by rfl) rfl ?_ ?_
      rotate_left
      · go_simp
        rfl
      refine hK.out _ _ e8.cell (fun hHeld2 => ?_)
      clear hK K hHeld
      have hHeld := hHeld2
      clear hHeld2
      generalize we.setCell ⟨w.heap.size + 1, 0, none⟩ (.int .i64 0) = wf at c8 g8 v8 e8 B8 hHeld ⊢
      have he8 := e8.cell
      have hef8 := e8.frozen
      have g9 := sc_grown_setCell wf (w.heap.size + 1 + 1) 0 (.int .i64 q)
      have e9 := e8.set (.int .i64 q)
      have c9 := c8.kept g9 (by intro e; injection e with e; omega)
      have v9 := v8.kept g9 (by intro e; injection e with e; omega)
      have B9 := B8.grown g9 B8.size (fun k e => by cases e; omega)
      refine last_ (i := 4) (N := none) #[true, true, true, true, true] rfl rfl (by kernel_rfl) (by decide) (fun K hK => ?_)
      refine skip_ (w1 := ?_) (by rfl) rfl ?_ ?_
      rotate_left
      · go_simp
        rfl
      refine hK.out _ _ ?_
      clear hK K
      refine done_ (by kernel_rfl) ?_
      try go_wp2
      refine leaves_cons (f := 25) (args := #[.pointer (some ⟨w.heap.size, 0, none⟩), .pointer (some ⟨w.heap.size + 1, 0, none⟩), .pointer (some ⟨w.heap.size + 1 + 1, 0, none⟩)]) (by simp) (by simp [go_sem]) ?_
      refine (dec_idle _ _ _ _).mono ?_
      rintro e u' Wl ⟨rfl, rfl, rfl⟩
      have hrr := H.out
      unfold sc_dec at hrr
      rw [HOK.out] at hrr
      dsimp only at hrr
      rw [HPQ.out] at hrr
      rw [if_pos HQ.out] at hrr
      cases hrr
      have ga := World.grownBy_alloc (wf.setCell ⟨w.heap.size + 1 + 1, 0, none⟩ (.int .i64 q)) (.cells #[.int .i64 0] 56) none
      refine leaves_nil (dec_res (bc := w.heap.size) (bv := w.heap.size + 1) (be := w.heap.size + 1 + 1) rfl rfl rfl (c9.kept ga (by simp)) rfl (v9.kept ga (by simp)) (e9.kept ga (by simp))) ?_
      exact ⟨_, rfl, Kd.R_nil _ _ _ _ _, B9.grown ga B9.size (fun k e => by cases e)⟩


/-! ### transeptplain_SameOps: function 30 -/
def transeptplain_SameOps.l0 : Nat → List (S48) → List (S48) → Int → Option (Bool)
  | 0, _, _, _ => none
  | k + 1, x0, x1, x5 => if x5 < (x0.length : Int) then (if 0 ≤ x5 then (if x5 < (x1.length : Int) then (if (!(((rd_T48 x0 x5).f0) == ((rd_T48 x1 x5).f0)) || (!((((rd_T48 x0 x5).f1).toList) == (((rd_T48 x1 x5).f1).toList)) || (!((((rd_T48 x0 x5).f2).toList) == (((rd_T48 x1 x5).f2).toList))))) = true then (some false) else (transeptplain_SameOps.l0 k x0 x1 (wrap64 (x5 + 1)))) else (none)) else (none)) else (some true)
def transeptplain_SameOps.f (k : Nat) (l0 : List (S48)) (l1 : List (S48)) : Option (Bool) := if (l0.length : Int) = (l1.length : Int) then (transeptplain_SameOps.l0 k l0 l1 0) else (some false)
theorem transeptplain_SameOps.mono_l : ∀ k, (∀ y0 y1 y2, LeO (transeptplain_SameOps.l0 k y0 y1 y2) (transeptplain_SameOps.l0 (k + 1) y0 y1 y2))
  | 0 => fun _ _ _ r h => by simp [transeptplain_SameOps.l0] at h
  | k + 1 => by
    have ih0 := transeptplain_SameOps.mono_l k
    · intro y0 y1 y2
      unfold transeptplain_SameOps.l0
      repeat' first
      | (with_reducible exact ih0 _ _ _)
      | (with_reducible exact LeO.refl _)
      | (with_reducible exact LeO.none _)
      | (with_reducible refine LeO.ite ?_ ?_)
      | (with_reducible refine LeO.bind ?_ (fun _ => ?_))
      | exact ih0 _ _ _
      | exact LeO.none _
      | refine LeO.ite ?_ ?_
      | refine LeO.bind ?_ (fun _ => ?_)
theorem transeptplain_SameOps.mono : ∀ a0 a1 k, LeO (transeptplain_SameOps.f k a0 a1) (transeptplain_SameOps.f (k + 1) a0 a1) := by
  intro a0 a1 k
  have ih0 := transeptplain_SameOps.mono_l k
  unfold transeptplain_SameOps.f
  repeat' first
      | (with_reducible exact ih0 _ _ _)
      | (with_reducible exact LeO.refl _)
      | (with_reducible exact LeO.none _)
      | (with_reducible refine LeO.ite ?_ ?_)
      | (with_reducible refine LeO.bind ?_ (fun _ => ?_))
      | exact ih0 _ _ _
      | exact LeO.none _
      | refine LeO.ite ?_ ?_
      | refine LeO.bind ?_ (fun _ => ?_)
set_option maxHeartbeats 8000000 in
set_option maxRecDepth 100000 in
theorem transeptplain_SameOps.calls (k : Nat) (A0 : Option Addr) (c0 : Nat) (l0 : List (S48)) (A1 : Option Addr) (c1 : Nat) (l1 : List (S48)) (r : Bool) (w : World) (hr0 : Kd.C k48 w A0 l0.length l0) (hc0 : l0.length ≤ c0) (hr1 : Kd.C k48 w A1 l1.length l1) (hc1 : l1.length ≤ c1) (h : transeptplain_SameOps.f k l0 l1 = some r) :
    Calls Try.prog 30 #[.slice A0 l0.length c0, .slice A1 l1.length c1] w fun e w' => e = .returned (.bool r) ∧ Drawn0 w w' := by
  have hu48 := Try.underlying48
  have HR0 := Aside0.mk hr0
  have HC0 := Aside0.mk hc0
  clear hr0 hc0
  have HR1 := Aside0.mk hr1
  have HC1 := Aside0.mk hc1
  clear hr1 hc1
  have H : (if (l0.length : Int) = (l1.length : Int) then (transeptplain_SameOps.l0 k l0 l1 0) else (some false)) = some r := h
  clear h
  by_cases c3 : (l0.length : Int) = (l1.length : Int)
  · rw [if_pos c3] at H
    have c3b0 : ((l0.length : Int) == (l1.length : Int)) = true := beq_iff_eq.mpr c3
    have c3b1 : ((l0.length : Int) != (l1.length : Int)) = false := bne_eq_false_iff_eq.mpr c3
    have c3b2 : (l0.length == l1.length) = true := by first | simpa using c3 | (simp at c3 ⊢; omega)
    clear c3
    have H' := Aside0.mk H
    clear H
    go_enter Try.func30, Try.ntmps30
    go_wp2
    repeat (go_quiet (fail); try go_wp2)
    go_loopg [5] k (fun kq v5 w' => ∃ (x5_1 : Int), v5 = .int .i64 x5_1 ∧ Aside0 (transeptplain_SameOps.l0 kq l0 l1 x5_1 = some r) ∧ Aside0 (kq ≤ k) ∧ Drawn0 w w')
    case atStart => exact ⟨(0), (by first | rfl | (simp; done) | (simp [*]; done)), H', ⟨Nat.le_refl _⟩, by repeat (first | exact Drawn0.refl _ | apply Drawn0.step)⟩
    case round =>
      clear H'
      try clear c1
      try clear p2
      try clear c3
      try clear c3b0
      try clear c3b1
      try clear c3b2
      obtain ⟨x5_1, rfl, HA, HK1, ⟨m1, rfl⟩⟩ := hrel
      cases gk with
      | zero => exact absurd HA.out (by simp [transeptplain_SameOps.l0])
      | succ k1 =>
        have H := HA.out
        clear HA
        simp only [transeptplain_SameOps.l0] at H
        by_cases c4 : x5_1 < (l0.length : Int)
        · rw [if_pos c4] at H
          have c4b0 : decide (x5_1 < (l0.length : Int)) = true := decide_eq_true c4
          clear c4
          by_cases c5 : 0 ≤ x5_1
          · rw [if_pos c5] at H
            have c5b0 : decide (0 ≤ x5_1) = true := decide_eq_true c5
            clear c5
            by_cases c6 : x5_1 < (l1.length : Int)
            · rw [if_pos c6] at H
              have c6b0 : decide (x5_1 < (l1.length : Int)) = true := decide_eq_true c6
              clear c6
              by_cases c7 : (!(((rd_T48 l0 x5_1).f0) == ((rd_T48 l1 x5_1).f0)) || (!((((rd_T48 l0 x5_1).f1).toList) == (((rd_T48 l1 x5_1).f1).toList)) || (!((((rd_T48 l0 x5_1).f2).toList) == (((rd_T48 l1 x5_1).f2).toList))))) = true
              · rw [if_pos c7] at H
                have c7b0 : (!(((rd_T48 l0 x5_1).f0) == ((rd_T48 l1 x5_1).f0)) || (!((((rd_T48 l0 x5_1).f1).toList) == (((rd_T48 l1 x5_1).f1).toList)) || (!((((rd_T48 l0 x5_1).f2).toList) == (((rd_T48 l1 x5_1).f2).toList))))) = true := c7
                clear c7
                obtain rfl := Option.some.inj H
                have p114 : 0 ≤ (x5_1 : Int) := of_decide_eq_true (by first | (with_reducible assumption) | assumption)
                have q114 : x5_1 < (l0.length : Int) := of_decide_eq_true (by first | (with_reducible assumption) | assumption)
                obtain ⟨ad114, e114, hx114_0, hx114_1, hx114_2⟩ := at_T48 HR0.out x5_1 p114 q114
                cases e114
                replace p114 := eq_true p114
                replace q114 := eq_true q114
                have p115 : 0 ≤ (x5_1 : Int) := of_decide_eq_true (by first | (with_reducible assumption) | assumption)
                have q115 : x5_1 < (l1.length : Int) := of_decide_eq_true (by first | (with_reducible assumption) | assumption)
                obtain ⟨ad115, e115, hx115_0, hx115_1, hx115_2⟩ := at_T48 HR1.out x5_1 p115 q115
                cases e115
                replace p115 := eq_true p115
                replace q115 := eq_true q115
                go_wp2
                repeat (go_quiet (fail); try go_wp2)
                go_ret
                exact ⟨by first | rfl | (simp; done) | (simp [*]; done), by repeat (first | exact Drawn0.refl _ | apply Drawn0.step)⟩
              · rw [if_neg c7] at H
                have c7b0 : (!(((rd_T48 l0 x5_1).f0) == ((rd_T48 l1 x5_1).f0)) || (!((((rd_T48 l0 x5_1).f1).toList) == (((rd_T48 l1 x5_1).f1).toList)) || (!((((rd_T48 l0 x5_1).f2).toList) == (((rd_T48 l1 x5_1).f2).toList))))) = false := by simpa using c7
                clear c7
                have H' := Aside0.mk H
                clear H
                have p114 : 0 ≤ (x5_1 : Int) := of_decide_eq_true (by first | (with_reducible assumption) | assumption)
                have q114 : x5_1 < (l0.length : Int) := of_decide_eq_true (by first | (with_reducible assumption) | assumption)
                obtain ⟨ad114, e114, hx114_0, hx114_1, hx114_2⟩ := at_T48 HR0.out x5_1 p114 q114
                cases e114
                replace p114 := eq_true p114
                replace q114 := eq_true q114
                have p115 : 0 ≤ (x5_1 : Int) := of_decide_eq_true (by first | (with_reducible assumption) | assumption)
                have q115 : x5_1 < (l1.length : Int) := of_decide_eq_true (by first | (with_reducible assumption) | assumption)
                obtain ⟨ad115, e115, hx115_0, hx115_1, hx115_2⟩ := at_T48 HR1.out x5_1 p115 q115
                cases e115
                replace p115 := eq_true p115
                replace q115 := eq_true q115
                go_wp2
                repeat (go_quiet (fail); try go_wp2)
                go_roundg k1
                case measure => have := HK1.out; omega
                case rel => exact ⟨(wrap64 (x5_1 + 1)), (by first | rfl | (simp; done) | (simp [*]; done)), H', ⟨by have := HK1.out; omega⟩, by repeat (first | exact Drawn0.refl _ | apply Drawn0.step)⟩
            · rw [if_neg c6] at H
              exact absurd H (by simp)
          · rw [if_neg c5] at H
            exact absurd H (by simp)
        · rw [if_neg c4] at H
          have c4b0 : decide (x5_1 < (l0.length : Int)) = false := decide_eq_false c4
          clear c4
          obtain rfl := Option.some.inj H
          go_wp2
          repeat (go_quiet (fail); try go_wp2)
          go_ret
          exact ⟨by first | rfl | (simp; done) | (simp [*]; done), by repeat (first | exact Drawn0.refl _ | apply Drawn0.step)⟩
  · rw [if_neg c3] at H
    have c3b0 : ((l0.length : Int) == (l1.length : Int)) = false := beq_eq_false_iff_ne.mpr c3
    have c3b1 : ((l0.length : Int) != (l1.length : Int)) = true := bne_iff_ne.mpr c3
    have c3b2 : (l0.length == l1.length) = false := by first | simpa using c3 | (simp at c3 ⊢; omega)
    obtain rfl := Option.some.inj H
    go_enter Try.func30, Try.ntmps30
    go_wp2
    repeat (go_quiet (fail); try go_wp2)
    go_ret
    exact ⟨by first | rfl | (simp; done) | (simp [*]; done), by repeat (first | exact Drawn0.refl _ | apply Drawn0.step)⟩

/-! ### transeptplain_SameCommand: function 17 -/
def transeptplain_SameCommand.f (k : Nat) (a0_0 : Int) (a0_1 : Int) (a0_2 : Int) (a0_3 : Int) (l0_4 : List (S48)) (a1_0 : Int) (a1_1 : Int) (a1_2 : Int) (a1_3 : Int) (l1_4 : List (S48)) : Option (Bool) := if a0_0 = a1_0 then (if a0_1 = a1_1 then (if a0_2 = a1_2 then (if a0_3 = a1_3 then ((transeptplain_SameOps.f k l0_4 l1_4).bind fun t118 => (some t118)) else (some false)) else (some false)) else (some false)) else (some false)
theorem transeptplain_SameCommand.mono : ∀ a0 a1 a2 a3 a4 a5 a6 a7 a8 a9 k, LeO (transeptplain_SameCommand.f k a0 a1 a2 a3 a4 a5 a6 a7 a8 a9) (transeptplain_SameCommand.f (k + 1) a0 a1 a2 a3 a4 a5 a6 a7 a8 a9) := by
  intro a0 a1 a2 a3 a4 a5 a6 a7 a8 a9 k
  unfold transeptplain_SameCommand.f
  repeat' first
      | (with_reducible exact transeptplain_SameOps.mono _ _ _)
      | (with_reducible exact LeO.refl _)
      | (with_reducible exact LeO.none _)
      | (with_reducible refine LeO.ite ?_ ?_)
      | (with_reducible refine LeO.bind ?_ (fun _ => ?_))
      | exact transeptplain_SameOps.mono _ _ _
      | exact LeO.none _
      | refine LeO.ite ?_ ?_
      | refine LeO.bind ?_ (fun _ => ?_)
set_option maxHeartbeats 8000000 in
set_option maxRecDepth 100000 in
theorem transeptplain_SameCommand.calls (k : Nat) (a0_0 : Int) (a0_1 : Int) (a0_2 : Int) (a0_3 : Int) (A0_4 : Option Addr) (c0_4 : Nat) (l0_4 : List (S48)) (a1_0 : Int) (a1_1 : Int) (a1_2 : Int) (a1_3 : Int) (A1_4 : Option Addr) (c1_4 : Nat) (l1_4 : List (S48)) (r : Bool) (w : World) (hr0_4 : Kd.C k48 w A0_4 l0_4.length l0_4) (hc0_4 : l0_4.length ≤ c0_4) (hr1_4 : Kd.C k48 w A1_4 l1_4.length l1_4) (hc1_4 : l1_4.length ≤ c1_4) (h : transeptplain_SameCommand.f k a0_0 a0_1 a0_2 a0_3 l0_4 a1_0 a1_1 a1_2 a1_3 l1_4 = some r) :
    Calls Try.prog 17 #[.agg #[.int .i64 a0_0, .int .i64 a0_1, .int .i64 a0_2, .int .i64 a0_3, .slice A0_4 l0_4.length c0_4], .agg #[.int .i64 a1_0, .int .i64 a1_1, .int .i64 a1_2, .int .i64 a1_3, .slice A1_4 l1_4.length c1_4]] w fun e w' => e = .returned (.bool r) ∧ Below w.heap.size w w' := by
  have hu24 := Try.underlying24
  have HR0_4 := Aside0.mk hr0_4
  have HC0_4 := Aside0.mk hc0_4
  clear hr0_4 hc0_4
  have HR1_4 := Aside0.mk hr1_4
  have HC1_4 := Aside0.mk hc1_4
  clear hr1_4 hc1_4
  have HB := Aside0.mk (Below.refl w.heap.size w)
  have H : (if a0_0 = a1_0 then (if a0_1 = a1_1 then (if a0_2 = a1_2 then (if a0_3 = a1_3 then ((transeptplain_SameOps.f k l0_4 l1_4).bind fun t118 => (some t118)) else (some false)) else (some false)) else (some false)) else (some false)) = some r := h
  clear h
  by_cases c3 : a0_0 = a1_0
  · rw [if_pos c3] at H
    have c3b0 : (a0_0 == a1_0) = true := beq_iff_eq.mpr c3
    have c3b1 : (a0_0 != a1_0) = false := bne_eq_false_iff_eq.mpr c3
    clear c3
    by_cases c4 : a0_1 = a1_1
    · rw [if_pos c4] at H
      have c4b0 : (a0_1 == a1_1) = true := beq_iff_eq.mpr c4
      have c4b1 : (a0_1 != a1_1) = false := bne_eq_false_iff_eq.mpr c4
      clear c4
      by_cases c5 : a0_2 = a1_2
      · rw [if_pos c5] at H
        have c5b0 : (a0_2 == a1_2) = true := beq_iff_eq.mpr c5
        have c5b1 : (a0_2 != a1_2) = false := bne_eq_false_iff_eq.mpr c5
        clear c5
        by_cases c6 : a0_3 = a1_3
        · rw [if_pos c6] at H
          have c6b0 : (a0_3 == a1_3) = true := beq_iff_eq.mpr c6
          have c6b1 : (a0_3 != a1_3) = false := bne_eq_false_iff_eq.mpr c6
          clear c6
          replace H := Option.bind_eq_some_iff.mp H
          obtain ⟨t118, A70, H⟩ := H
          replace H : (some t118) = some r := H
          have A7 := Aside0.mk A70
          clear A70
          obtain rfl := Option.some.inj H
          go_enter Try.func17, Try.ntmps17
          go_wp2_with (first | ((with_reducible refine gate_dst (N := 2) rfl ?_); refine box_event ?hg (N := 2) ?hd (cs := #[.int .i64 a0_0, .int .i64 a0_1, .int .i64 a0_2, .int .i64 a0_3, .slice A0_4 l0_4.length c0_4]) (t := 24) ?hr ?_; (case hd => rfl); (case hg => rfl); (case hr => first | (go_simp; done) | (go_simp; rfl)); intro gb116 hg w8 hbox hb; have n0_ := Aside0.mk (below_step (by repeat (first | (with_reducible first | exact HB.out | apply below_alloc | apply pw_below_drewN | apply below_drew1) | exact HB.out)) hb); have n1_ := Aside0.mk (hbox); have n2_ := Aside0.mk ((by rw [hg]; exact (below_size (by repeat (first | (with_reducible first | exact HB.out | apply below_alloc | apply pw_below_drewN | apply below_drew1) | exact HB.out))) : w.heap.size ≤ gb116)); have n3_ := Aside0.mk ((by rw [hg]; exact (below_size (by repeat (first | (with_reducible first | exact HB.out | apply below_alloc | apply pw_below_drewN | apply below_drew1) | exact HB.out))) : w.heap.size ≤ gb116)); clear HB; have HB := n0_; have BK116 := n1_; have GW116 := n2_; have GE116 := n3_; clear n0_ n1_ n2_ n3_; clear hb hbox hg) | ((with_reducible refine gate_dst (N := 3) rfl ?_); refine box_event ?hg (N := 3) ?hd (cs := #[.int .i64 a1_0, .int .i64 a1_1, .int .i64 a1_2, .int .i64 a1_3, .slice A1_4 l1_4.length c1_4]) (t := 24) ?hr ?_; (case hd => rfl); (case hg => rfl); (case hr => first | (go_simp; done) | (go_simp; rfl)); intro gb117 hg w9 hbox hb; have n0_ := Aside0.mk (blk_below (g := gb116) (o := .cells #[.int .i64 a0_0, .int .i64 a0_1, .int .i64 a0_2, .int .i64 a0_3, .slice A0_4 l0_4.length c0_4] 24 (0, 0)) (by (with_reducible repeat (first | refine blk_drewN ?_ _ | refine blk_drew ?_ | refine blk_alloc ?_ _)); exact BK116.out) hb); have n1_ := Aside0.mk (below_step (by repeat (first | (with_reducible first | exact HB.out | apply below_alloc | apply pw_below_drewN | apply below_drew1 | refine below_set ?_ GE116.out) | exact HB.out)) hb); have n2_ := Aside0.mk (hbox); have n3_ := Aside0.mk ((by rw [hg]; exact (below_size (by repeat (first | (with_reducible first | exact HB.out | apply below_alloc | apply pw_below_drewN | apply below_drew1 | refine below_set ?_ GE116.out) | exact HB.out))) : w.heap.size ≤ gb117)); have n4_ := Aside0.mk ((by rw [hg]; exact (below_size (by repeat (first | (with_reducible first | exact HB.out | apply below_alloc | apply pw_below_drewN | apply below_drew1 | refine below_set ?_ GE116.out) | exact HB.out))) : w.heap.size ≤ gb117)); have n5_ := Aside0.mk ((by rw [hg]; exact Nat.ne_of_lt (blk_lt (g := gb116) (o := .cells #[.int .i64 a0_0, .int .i64 a0_1, .int .i64 a0_2, .int .i64 a0_3, .slice A0_4 l0_4.length c0_4] 24 (0, 0)) (by (with_reducible repeat (first | refine blk_drewN ?_ _ | refine blk_drew ?_ | refine blk_alloc ?_ _)); exact BK116.out)) : gb116 ≠ gb117)); have n6_ := Aside0.mk ((by rw [hg]; exact Nat.ne_of_gt (blk_lt (g := gb116) (o := .cells #[.int .i64 a0_0, .int .i64 a0_1, .int .i64 a0_2, .int .i64 a0_3, .slice A0_4 l0_4.length c0_4] 24 (0, 0)) (by (with_reducible repeat (first | refine blk_drewN ?_ _ | refine blk_drew ?_ | refine blk_alloc ?_ _)); exact BK116.out)) : gb117 ≠ gb116)); clear BK116; clear HB; have BK116 := n0_; have HB := n1_; have BK117 := n2_; have GW117 := n3_; have GE117 := n4_; have NB116_117 := n5_; have NB117_116 := n6_; clear n0_ n1_ n2_ n3_ n4_ n5_ n6_; clear hb hbox hg; have hnb10 := NB116_117.out; have hnc10 := NB117_116.out; have hcz11_0 : w9.cell? ⟨gb116, 0, none⟩ = some (.int .i64 a0_0) := (blk_cell BK116.out 0).trans rfl; have hcz11_1 : w9.cell? ⟨gb116, 1, none⟩ = some (.int .i64 a0_1) := (blk_cell BK116.out 1).trans rfl; have hcz11_2 : w9.cell? ⟨gb116, 2, none⟩ = some (.int .i64 a0_2) := (blk_cell BK116.out 2).trans rfl; have hcz11_3 : w9.cell? ⟨gb116, 3, none⟩ = some (.int .i64 a0_3) := (blk_cell BK116.out 3).trans rfl; have hcz11_4 : w9.cell? ⟨gb116, 4, none⟩ = some (.slice A0_4 l0_4.length c0_4) := (blk_cell BK116.out 4).trans rfl; have hfz11_0 := blk_frozen BK116.out 0; have hfz11_1 := blk_frozen BK116.out 1; have hfz11_2 := blk_frozen BK116.out 2; have hfz11_3 := blk_frozen BK116.out 3; have hfz11_4 := blk_frozen BK116.out 4; have hcz12_0 : w9.cell? ⟨gb117, 0, none⟩ = some (.int .i64 a1_0) := (blk_cell BK117.out 0).trans rfl; have hcz12_1 : w9.cell? ⟨gb117, 1, none⟩ = some (.int .i64 a1_1) := (blk_cell BK117.out 1).trans rfl; have hcz12_2 : w9.cell? ⟨gb117, 2, none⟩ = some (.int .i64 a1_2) := (blk_cell BK117.out 2).trans rfl; have hcz12_3 : w9.cell? ⟨gb117, 3, none⟩ = some (.int .i64 a1_3) := (blk_cell BK117.out 3).trans rfl; have hcz12_4 : w9.cell? ⟨gb117, 4, none⟩ = some (.slice A1_4 l1_4.length c1_4) := (blk_cell BK117.out 4).trans rfl; have hfz12_0 := blk_frozen BK117.out 0; have hfz12_1 := blk_frozen BK117.out 1; have hfz12_2 := blk_frozen BK117.out 2; have hfz12_3 := blk_frozen BK117.out 3; have hfz12_4 := blk_frozen BK117.out 4) | (go_at_call 30; (with_reducible refine (transeptplain_SameOps.calls k _ _ l0_4 _ _ l1_4 t118 _ ?side1 ?side2 ?side3 ?side4 A7.out).mono ?_); (case side1 => repeat (first | exact (Kd.C_below HR0_4.out HB.out) | (with_reducible refine Kd.C_alloc ?_ _) | (with_reducible refine Kd.C_drewN ?_ _) | (with_reducible refine Kd.C_drew ?_))); (case side2 => exact HC0_4.out); (case side3 => repeat (first | exact (Kd.C_below HR1_4.out HB.out) | (with_reducible refine Kd.C_alloc ?_ _) | (with_reducible refine Kd.C_drewN ?_ _) | (with_reducible refine Kd.C_drew ?_))); (case side4 => exact HC1_4.out); rintro e w' ⟨rfl, ⟨nd, rfl⟩⟩))
          go_ret
          exact ⟨by first | rfl | (simp [errW_none, errW_some] <;> rfl) | (simp [*, errW_none, errW_some] <;> rfl), by repeat (first | (with_reducible first | exact HB.out | apply below_alloc | apply pw_below_drewN | apply below_drew1 | refine below_set ?_ GE116.out | refine below_set ?_ GE117.out) | exact HB.out)⟩
        · rw [if_neg c6] at H
          have c6b0 : (a0_3 == a1_3) = false := beq_eq_false_iff_ne.mpr c6
          have c6b1 : (a0_3 != a1_3) = true := bne_iff_ne.mpr c6
          obtain rfl := Option.some.inj H
          go_enter Try.func17, Try.ntmps17
          go_wp2_with (first | ((with_reducible refine gate_dst (N := 2) rfl ?_); refine box_event ?hg (N := 2) ?hd (cs := #[.int .i64 a0_0, .int .i64 a0_1, .int .i64 a0_2, .int .i64 a0_3, .slice A0_4 l0_4.length c0_4]) (t := 24) ?hr ?_; (case hd => rfl); (case hg => rfl); (case hr => first | (go_simp; done) | (go_simp; rfl)); intro gb116 hg w13 hbox hb; have n0_ := Aside0.mk (below_step (by repeat (first | (with_reducible first | exact HB.out | apply below_alloc | apply pw_below_drewN | apply below_drew1) | exact HB.out)) hb); have n1_ := Aside0.mk (hbox); have n2_ := Aside0.mk ((by rw [hg]; exact (below_size (by repeat (first | (with_reducible first | exact HB.out | apply below_alloc | apply pw_below_drewN | apply below_drew1) | exact HB.out))) : w.heap.size ≤ gb116)); have n3_ := Aside0.mk ((by rw [hg]; exact (below_size (by repeat (first | (with_reducible first | exact HB.out | apply below_alloc | apply pw_below_drewN | apply below_drew1) | exact HB.out))) : w.heap.size ≤ gb116)); clear HB; have HB := n0_; have BK116 := n1_; have GW116 := n2_; have GE116 := n3_; clear n0_ n1_ n2_ n3_; clear hb hbox hg) | ((with_reducible refine gate_dst (N := 3) rfl ?_); refine box_event ?hg (N := 3) ?hd (cs := #[.int .i64 a1_0, .int .i64 a1_1, .int .i64 a1_2, .int .i64 a1_3, .slice A1_4 l1_4.length c1_4]) (t := 24) ?hr ?_; (case hd => rfl); (case hg => rfl); (case hr => first | (go_simp; done) | (go_simp; rfl)); intro gb117 hg w14 hbox hb; have n0_ := Aside0.mk (blk_below (g := gb116) (o := .cells #[.int .i64 a0_0, .int .i64 a0_1, .int .i64 a0_2, .int .i64 a0_3, .slice A0_4 l0_4.length c0_4] 24 (0, 0)) (by (with_reducible repeat (first | refine blk_drewN ?_ _ | refine blk_drew ?_ | refine blk_alloc ?_ _)); exact BK116.out) hb); have n1_ := Aside0.mk (below_step (by repeat (first | (with_reducible first | exact HB.out | apply below_alloc | apply pw_below_drewN | apply below_drew1 | refine below_set ?_ GE116.out) | exact HB.out)) hb); have n2_ := Aside0.mk (hbox); have n3_ := Aside0.mk ((by rw [hg]; exact (below_size (by repeat (first | (with_reducible first | exact HB.out | apply below_alloc | apply pw_below_drewN | apply below_drew1 | refine below_set ?_ GE116.out) | exact HB.out))) : w.heap.size ≤ gb117)); have n4_ := Aside0.mk ((by rw [hg]; exact (below_size (by repeat (first | (with_reducible first | exact HB.out | apply below_alloc | apply pw_below_drewN | apply below_drew1 | refine below_set ?_ GE116.out) | exact HB.out))) : w.heap.size ≤ gb117)); have n5_ := Aside0.mk ((by rw [hg]; exact Nat.ne_of_lt (blk_lt (g := gb116) (o := .cells #[.int .i64 a0_0, .int .i64 a0_1, .int .i64 a0_2, .int .i64 a0_3, .slice A0_4 l0_4.length c0_4] 24 (0, 0)) (by (with_reducible repeat (first | refine blk_drewN ?_ _ | refine blk_drew ?_ | refine blk_alloc ?_ _)); exact BK116.out)) : gb116 ≠ gb117)); have n6_ := Aside0.mk ((by rw [hg]; exact Nat.ne_of_gt (blk_lt (g := gb116) (o := .cells #[.int .i64 a0_0, .int .i64 a0_1, .int .i64 a0_2, .int .i64 a0_3, .slice A0_4 l0_4.length c0_4] 24 (0, 0)) (by (with_reducible repeat (first | refine blk_drewN ?_ _ | refine blk_drew ?_ | refine blk_alloc ?_ _)); exact BK116.out)) : gb117 ≠ gb116)); clear BK116; clear HB; have BK116 := n0_; have HB := n1_; have BK117 := n2_; have GW117 := n3_; have GE117 := n4_; have NB116_117 := n5_; have NB117_116 := n6_; clear n0_ n1_ n2_ n3_ n4_ n5_ n6_; clear hb hbox hg; have hnb15 := NB116_117.out; have hnc15 := NB117_116.out; have hcz16_0 : w14.cell? ⟨gb116, 0, none⟩ = some (.int .i64 a0_0) := (blk_cell BK116.out 0).trans rfl; have hcz16_1 : w14.cell? ⟨gb116, 1, none⟩ = some (.int .i64 a0_1) := (blk_cell BK116.out 1).trans rfl; have hcz16_2 : w14.cell? ⟨gb116, 2, none⟩ = some (.int .i64 a0_2) := (blk_cell BK116.out 2).trans rfl; have hcz16_3 : w14.cell? ⟨gb116, 3, none⟩ = some (.int .i64 a0_3) := (blk_cell BK116.out 3).trans rfl; have hcz16_4 : w14.cell? ⟨gb116, 4, none⟩ = some (.slice A0_4 l0_4.length c0_4) := (blk_cell BK116.out 4).trans rfl; have hfz16_0 := blk_frozen BK116.out 0; have hfz16_1 := blk_frozen BK116.out 1; have hfz16_2 := blk_frozen BK116.out 2; have hfz16_3 := blk_frozen BK116.out 3; have hfz16_4 := blk_frozen BK116.out 4; have hcz17_0 : w14.cell? ⟨gb117, 0, none⟩ = some (.int .i64 a1_0) := (blk_cell BK117.out 0).trans rfl; have hcz17_1 : w14.cell? ⟨gb117, 1, none⟩ = some (.int .i64 a1_1) := (blk_cell BK117.out 1).trans rfl; have hcz17_2 : w14.cell? ⟨gb117, 2, none⟩ = some (.int .i64 a1_2) := (blk_cell BK117.out 2).trans rfl; have hcz17_3 : w14.cell? ⟨gb117, 3, none⟩ = some (.int .i64 a1_3) := (blk_cell BK117.out 3).trans rfl; have hcz17_4 : w14.cell? ⟨gb117, 4, none⟩ = some (.slice A1_4 l1_4.length c1_4) := (blk_cell BK117.out 4).trans rfl; have hfz17_0 := blk_frozen BK117.out 0; have hfz17_1 := blk_frozen BK117.out 1; have hfz17_2 := blk_frozen BK117.out 2; have hfz17_3 := blk_frozen BK117.out 3; have hfz17_4 := blk_frozen BK117.out 4))
          go_ret
          exact ⟨by first | rfl | (simp [errW_none, errW_some] <;> rfl) | (simp [*, errW_none, errW_some] <;> rfl), by repeat (first | (with_reducible first | exact HB.out | apply below_alloc | apply pw_below_drewN | apply below_drew1 | refine below_set ?_ GE116.out | refine below_set ?_ GE117.out) | exact HB.out)⟩
      · rw [if_neg c5] at H
        have c5b0 : (a0_2 == a1_2) = false := beq_eq_false_iff_ne.mpr c5
        have c5b1 : (a0_2 != a1_2) = true := bne_iff_ne.mpr c5
        obtain rfl := Option.some.inj H
        go_enter Try.func17, Try.ntmps17
        go_wp2_with (first | ((with_reducible refine gate_dst (N := 2) rfl ?_); refine box_event ?hg (N := 2) ?hd (cs := #[.int .i64 a0_0, .int .i64 a0_1, .int .i64 a0_2, .int .i64 a0_3, .slice A0_4 l0_4.length c0_4]) (t := 24) ?hr ?_; (case hd => rfl); (case hg => rfl); (case hr => first | (go_simp; done) | (go_simp; rfl)); intro gb116 hg w18 hbox hb; have n0_ := Aside0.mk (below_step (by repeat (first | (with_reducible first | exact HB.out | apply below_alloc | apply pw_below_drewN | apply below_drew1) | exact HB.out)) hb); have n1_ := Aside0.mk (hbox); have n2_ := Aside0.mk ((by rw [hg]; exact (below_size (by repeat (first | (with_reducible first | exact HB.out | apply below_alloc | apply pw_below_drewN | apply below_drew1) | exact HB.out))) : w.heap.size ≤ gb116)); have n3_ := Aside0.mk ((by rw [hg]; exact (below_size (by repeat (first | (with_reducible first | exact HB.out | apply below_alloc | apply pw_below_drewN | apply below_drew1) | exact HB.out))) : w.heap.size ≤ gb116)); clear HB; have HB := n0_; have BK116 := n1_; have GW116 := n2_; have GE116 := n3_; clear n0_ n1_ n2_ n3_; clear hb hbox hg) | ((with_reducible refine gate_dst (N := 3) rfl ?_); refine box_event ?hg (N := 3) ?hd (cs := #[.int .i64 a1_0, .int .i64 a1_1, .int .i64 a1_2, .int .i64 a1_3, .slice A1_4 l1_4.length c1_4]) (t := 24) ?hr ?_; (case hd => rfl); (case hg => rfl); (case hr => first | (go_simp; done) | (go_simp; rfl)); intro gb117 hg w19 hbox hb; have n0_ := Aside0.mk (blk_below (g := gb116) (o := .cells #[.int .i64 a0_0, .int .i64 a0_1, .int .i64 a0_2, .int .i64 a0_3, .slice A0_4 l0_4.length c0_4] 24 (0, 0)) (by (with_reducible repeat (first | refine blk_drewN ?_ _ | refine blk_drew ?_ | refine blk_alloc ?_ _)); exact BK116.out) hb); have n1_ := Aside0.mk (below_step (by repeat (first | (with_reducible first | exact HB.out | apply below_alloc | apply pw_below_drewN | apply below_drew1 | refine below_set ?_ GE116.out) | exact HB.out)) hb); have n2_ := Aside0.mk (hbox); have n3_ := Aside0.mk ((by rw [hg]; exact (below_size (by repeat (first | (with_reducible first | exact HB.out | apply below_alloc | apply pw_below_drewN | apply below_drew1 | refine below_set ?_ GE116.out) | exact HB.out))) : w.heap.size ≤ gb117)); have n4_ := Aside0.mk ((by rw [hg]; exact (below_size (by repeat (first | (with_reducible first | exact HB.out | apply below_alloc | apply pw_below_drewN | apply below_drew1 | refine below_set ?_ GE116.out) | exact HB.out))) : w.heap.size ≤ gb117)); have n5_ := Aside0.mk ((by rw [hg]; exact Nat.ne_of_lt (blk_lt (g := gb116) (o := .cells #[.int .i64 a0_0, .int .i64 a0_1, .int .i64 a0_2, .int .i64 a0_3, .slice A0_4 l0_4.length c0_4] 24 (0, 0)) (by (with_reducible repeat (first | refine blk_drewN ?_ _ | refine blk_drew ?_ | refine blk_alloc ?_ _)); exact BK116.out)) : gb116 ≠ gb117)); have n6_ := Aside0.mk ((by rw [hg]; exact Nat.ne_of_gt (blk_lt (g := gb116) (o := .cells #[.int .i64 a0_0, .int .i64 a0_1, .int .i64 a0_2, .int .i64 a0_3, .slice A0_4 l0_4.length c0_4] 24 (0, 0)) (by (with_reducible repeat (first | refine blk_drewN ?_ _ | refine blk_drew ?_ | refine blk_alloc ?_ _)); exact BK116.out)) : gb117 ≠ gb116)); clear BK116; clear HB; have BK116 := n0_; have HB := n1_; have BK117 := n2_; have GW117 := n3_; have GE117 := n4_; have NB116_117 := n5_; have NB117_116 := n6_; clear n0_ n1_ n2_ n3_ n4_ n5_ n6_; clear hb hbox hg; have hnb20 := NB116_117.out; have hnc20 := NB117_116.out; have hcz21_0 : w19.cell? ⟨gb116, 0, none⟩ = some (.int .i64 a0_0) := (blk_cell BK116.out 0).trans rfl; have hcz21_1 : w19.cell? ⟨gb116, 1, none⟩ = some (.int .i64 a0_1) := (blk_cell BK116.out 1).trans rfl; have hcz21_2 : w19.cell? ⟨gb116, 2, none⟩ = some (.int .i64 a0_2) := (blk_cell BK116.out 2).trans rfl; have hcz21_3 : w19.cell? ⟨gb116, 3, none⟩ = some (.int .i64 a0_3) := (blk_cell BK116.out 3).trans rfl; have hcz21_4 : w19.cell? ⟨gb116, 4, none⟩ = some (.slice A0_4 l0_4.length c0_4) := (blk_cell BK116.out 4).trans rfl; have hfz21_0 := blk_frozen BK116.out 0; have hfz21_1 := blk_frozen BK116.out 1; have hfz21_2 := blk_frozen BK116.out 2; have hfz21_3 := blk_frozen BK116.out 3; have hfz21_4 := blk_frozen BK116.out 4; have hcz22_0 : w19.cell? ⟨gb117, 0, none⟩ = some (.int .i64 a1_0) := (blk_cell BK117.out 0).trans rfl; have hcz22_1 : w19.cell? ⟨gb117, 1, none⟩ = some (.int .i64 a1_1) := (blk_cell BK117.out 1).trans rfl; have hcz22_2 : w19.cell? ⟨gb117, 2, none⟩ = some (.int .i64 a1_2) := (blk_cell BK117.out 2).trans rfl; have hcz22_3 : w19.cell? ⟨gb117, 3, none⟩ = some (.int .i64 a1_3) := (blk_cell BK117.out 3).trans rfl; have hcz22_4 : w19.cell? ⟨gb117, 4, none⟩ = some (.slice A1_4 l1_4.length c1_4) := (blk_cell BK117.out 4).trans rfl; have hfz22_0 := blk_frozen BK117.out 0; have hfz22_1 := blk_frozen BK117.out 1; have hfz22_2 := blk_frozen BK117.out 2; have hfz22_3 := blk_frozen BK117.out 3; have hfz22_4 := blk_frozen BK117.out 4))
        go_ret
        exact ⟨by first | rfl | (simp [errW_none, errW_some] <;> rfl) | (simp [*, errW_none, errW_some] <;> rfl), by repeat (first | (with_reducible first | exact HB.out | apply below_alloc | apply pw_below_drewN | apply below_drew1 | refine below_set ?_ GE116.out | refine below_set ?_ GE117.out) | exact HB.out)⟩
    · rw [if_neg c4] at H
      have c4b0 : (a0_1 == a1_1) = false := beq_eq_false_iff_ne.mpr c4
      have c4b1 : (a0_1 != a1_1) = true := bne_iff_ne.mpr c4
      obtain rfl := Option.some.inj H
      go_enter Try.func17, Try.ntmps17
      go_wp2_with (first | ((with_reducible refine gate_dst (N := 2) rfl ?_); refine box_event ?hg (N := 2) ?hd (cs := #[.int .i64 a0_0, .int .i64 a0_1, .int .i64 a0_2, .int .i64 a0_3, .slice A0_4 l0_4.length c0_4]) (t := 24) ?hr ?_; (case hd => rfl); (case hg => rfl); (case hr => first | (go_simp; done) | (go_simp; rfl)); intro gb116 hg w23 hbox hb; have n0_ := Aside0.mk (below_step (by repeat (first | (with_reducible first | exact HB.out | apply below_alloc | apply pw_below_drewN | apply below_drew1) | exact HB.out)) hb); have n1_ := Aside0.mk (hbox); have n2_ := Aside0.mk ((by rw [hg]; exact (below_size (by repeat (first | (with_reducible first | exact HB.out | apply below_alloc | apply pw_below_drewN | apply below_drew1) | exact HB.out))) : w.heap.size ≤ gb116)); have n3_ := Aside0.mk ((by rw [hg]; exact (below_size (by repeat (first | (with_reducible first | exact HB.out | apply below_alloc | apply pw_below_drewN | apply below_drew1) | exact HB.out))) : w.heap.size ≤ gb116)); clear HB; have HB := n0_; have BK116 := n1_; have GW116 := n2_; have GE116 := n3_; clear n0_ n1_ n2_ n3_; clear hb hbox hg) | ((with_reducible refine gate_dst (N := 3) rfl ?_); refine box_event ?hg (N := 3) ?hd (cs := #[.int .i64 a1_0, .int .i64 a1_1, .int .i64 a1_2, .int .i64 a1_3, .slice A1_4 l1_4.length c1_4]) (t := 24) ?hr ?_; (case hd => rfl); (case hg => rfl); (case hr => first | (go_simp; done) | (go_simp; rfl)); intro gb117 hg w24 hbox hb; have n0_ := Aside0.mk (blk_below (g := gb116) (o := .cells #[.int .i64 a0_0, .int .i64 a0_1, .int .i64 a0_2, .int .i64 a0_3, .slice A0_4 l0_4.length c0_4] 24 (0, 0)) (by (with_reducible repeat (first | refine blk_drewN ?_ _ | refine blk_drew ?_ | refine blk_alloc ?_ _)); exact BK116.out) hb); have n1_ := Aside0.mk (below_step (by repeat (first | (with_reducible first | exact HB.out | apply below_alloc | apply pw_below_drewN | apply below_drew1 | refine below_set ?_ GE116.out) | exact HB.out)) hb); have n2_ := Aside0.mk (hbox); have n3_ := Aside0.mk ((by rw [hg]; exact (below_size (by repeat (first | (with_reducible first | exact HB.out | apply below_alloc | apply pw_below_drewN | apply below_drew1 | refine below_set ?_ GE116.out) | exact HB.out))) : w.heap.size ≤ gb117)); have n4_ := Aside0.mk ((by rw [hg]; exact (below_size (by repeat (first | (with_reducible first | exact HB.out | apply below_alloc | apply pw_below_drewN | apply below_drew1 | refine below_set ?_ GE116.out) | exact HB.out))) : w.heap.size ≤ gb117)); have n5_ := Aside0.mk ((by rw [hg]; exact Nat.ne_of_lt (blk_lt (g := gb116) (o := .cells #[.int .i64 a0_0, .int .i64 a0_1, .int .i64 a0_2, .int .i64 a0_3, .slice A0_4 l0_4.length c0_4] 24 (0, 0)) (by (with_reducible repeat (first | refine blk_drewN ?_ _ | refine blk_drew ?_ | refine blk_alloc ?_ _)); exact BK116.out)) : gb116 ≠ gb117)); have n6_ := Aside0.mk ((by rw [hg]; exact Nat.ne_of_gt (blk_lt (g := gb116) (o := .cells #[.int .i64 a0_0, .int .i64 a0_1, .int .i64 a0_2, .int .i64 a0_3, .slice A0_4 l0_4.length c0_4] 24 (0, 0)) (by (with_reducible repeat (first | refine blk_drewN ?_ _ | refine blk_drew ?_ | refine blk_alloc ?_ _)); exact BK116.out)) : gb117 ≠ gb116)); clear BK116; clear HB; have BK116 := n0_; have HB := n1_; have BK117 := n2_; have GW117 := n3_; have GE117 := n4_; have NB116_117 := n5_; have NB117_116 := n6_; clear n0_ n1_ n2_ n3_ n4_ n5_ n6_; clear hb hbox hg; have hnb25 := NB116_117.out; have hnc25 := NB117_116.out; have hcz26_0 : w24.cell? ⟨gb116, 0, none⟩ = some (.int .i64 a0_0) := (blk_cell BK116.out 0).trans rfl; have hcz26_1 : w24.cell? ⟨gb116, 1, none⟩ = some (.int .i64 a0_1) := (blk_cell BK116.out 1).trans rfl; have hcz26_2 : w24.cell? ⟨gb116, 2, none⟩ = some (.int .i64 a0_2) := (blk_cell BK116.out 2).trans rfl; have hcz26_3 : w24.cell? ⟨gb116, 3, none⟩ = some (.int .i64 a0_3) := (blk_cell BK116.out 3).trans rfl; have hcz26_4 : w24.cell? ⟨gb116, 4, none⟩ = some (.slice A0_4 l0_4.length c0_4) := (blk_cell BK116.out 4).trans rfl; have hfz26_0 := blk_frozen BK116.out 0; have hfz26_1 := blk_frozen BK116.out 1; have hfz26_2 := blk_frozen BK116.out 2; have hfz26_3 := blk_frozen BK116.out 3; have hfz26_4 := blk_frozen BK116.out 4; have hcz27_0 : w24.cell? ⟨gb117, 0, none⟩ = some (.int .i64 a1_0) := (blk_cell BK117.out 0).trans rfl; have hcz27_1 : w24.cell? ⟨gb117, 1, none⟩ = some (.int .i64 a1_1) := (blk_cell BK117.out 1).trans rfl; have hcz27_2 : w24.cell? ⟨gb117, 2, none⟩ = some (.int .i64 a1_2) := (blk_cell BK117.out 2).trans rfl; have hcz27_3 : w24.cell? ⟨gb117, 3, none⟩ = some (.int .i64 a1_3) := (blk_cell BK117.out 3).trans rfl; have hcz27_4 : w24.cell? ⟨gb117, 4, none⟩ = some (.slice A1_4 l1_4.length c1_4) := (blk_cell BK117.out 4).trans rfl; have hfz27_0 := blk_frozen BK117.out 0; have hfz27_1 := blk_frozen BK117.out 1; have hfz27_2 := blk_frozen BK117.out 2; have hfz27_3 := blk_frozen BK117.out 3; have hfz27_4 := blk_frozen BK117.out 4))
      go_ret
      exact ⟨by first | rfl | (simp [errW_none, errW_some] <;> rfl) | (simp [*, errW_none, errW_some] <;> rfl), by repeat (first | (with_reducible first | exact HB.out | apply below_alloc | apply pw_below_drewN | apply below_drew1 | refine below_set ?_ GE116.out | refine below_set ?_ GE117.out) | exact HB.out)⟩
  · rw [if_neg c3] at H
    have c3b0 : (a0_0 == a1_0) = false := beq_eq_false_iff_ne.mpr c3
    have c3b1 : (a0_0 != a1_0) = true := bne_iff_ne.mpr c3
    obtain rfl := Option.some.inj H
    go_enter Try.func17, Try.ntmps17
    go_wp2_with (first | ((with_reducible refine gate_dst (N := 2) rfl ?_); refine box_event ?hg (N := 2) ?hd (cs := #[.int .i64 a0_0, .int .i64 a0_1, .int .i64 a0_2, .int .i64 a0_3, .slice A0_4 l0_4.length c0_4]) (t := 24) ?hr ?_; (case hd => rfl); (case hg => rfl); (case hr => first | (go_simp; done) | (go_simp; rfl)); intro gb116 hg w28 hbox hb; have n0_ := Aside0.mk (below_step (by repeat (first | (with_reducible first | exact HB.out | apply below_alloc | apply pw_below_drewN | apply below_drew1) | exact HB.out)) hb); have n1_ := Aside0.mk (hbox); have n2_ := Aside0.mk ((by rw [hg]; exact (below_size (by repeat (first | (with_reducible first | exact HB.out | apply below_alloc | apply pw_below_drewN | apply below_drew1) | exact HB.out))) : w.heap.size ≤ gb116)); have n3_ := Aside0.mk ((by rw [hg]; exact (below_size (by repeat (first | (with_reducible first | exact HB.out | apply below_alloc | apply pw_below_drewN | apply below_drew1) | exact HB.out))) : w.heap.size ≤ gb116)); clear HB; have HB := n0_; have BK116 := n1_; have GW116 := n2_; have GE116 := n3_; clear n0_ n1_ n2_ n3_; clear hb hbox hg) | ((with_reducible refine gate_dst (N := 3) rfl ?_); refine box_event ?hg (N := 3) ?hd (cs := #[.int .i64 a1_0, .int .i64 a1_1, .int .i64 a1_2, .int .i64 a1_3, .slice A1_4 l1_4.length c1_4]) (t := 24) ?hr ?_; (case hd => rfl); (case hg => rfl); (case hr => first | (go_simp; done) | (go_simp; rfl)); intro gb117 hg w29 hbox hb; have n0_ := Aside0.mk (blk_below (g := gb116) (o := .cells #[.int .i64 a0_0, .int .i64 a0_1, .int .i64 a0_2, .int .i64 a0_3, .slice A0_4 l0_4.length c0_4] 24 (0, 0)) (by (with_reducible repeat (first | refine blk_drewN ?_ _ | refine blk_drew ?_ | refine blk_alloc ?_ _)); exact BK116.out) hb); have n1_ := Aside0.mk (below_step (by repeat (first | (with_reducible first | exact HB.out | apply below_alloc | apply pw_below_drewN | apply below_drew1 | refine below_set ?_ GE116.out) | exact HB.out)) hb); have n2_ := Aside0.mk (hbox); have n3_ := Aside0.mk ((by rw [hg]; exact (below_size (by repeat (first | (with_reducible first | exact HB.out | apply below_alloc | apply pw_below_drewN | apply below_drew1 | refine below_set ?_ GE116.out) | exact HB.out))) : w.heap.size ≤ gb117)); have n4_ := Aside0.mk ((by rw [hg]; exact (below_size (by repeat (first | (with_reducible first | exact HB.out | apply below_alloc | apply pw_below_drewN | apply below_drew1 | refine below_set ?_ GE116.out) | exact HB.out))) : w.heap.size ≤ gb117)); have n5_ := Aside0.mk ((by rw [hg]; exact Nat.ne_of_lt (blk_lt (g := gb116) (o := .cells #[.int .i64 a0_0, .int .i64 a0_1, .int .i64 a0_2, .int .i64 a0_3, .slice A0_4 l0_4.length c0_4] 24 (0, 0)) (by (with_reducible repeat (first | refine blk_drewN ?_ _ | refine blk_drew ?_ | refine blk_alloc ?_ _)); exact BK116.out)) : gb116 ≠ gb117)); have n6_ := Aside0.mk ((by rw [hg]; exact Nat.ne_of_gt (blk_lt (g := gb116) (o := .cells #[.int .i64 a0_0, .int .i64 a0_1, .int .i64 a0_2, .int .i64 a0_3, .slice A0_4 l0_4.length c0_4] 24 (0, 0)) (by (with_reducible repeat (first | refine blk_drewN ?_ _ | refine blk_drew ?_ | refine blk_alloc ?_ _)); exact BK116.out)) : gb117 ≠ gb116)); clear BK116; clear HB; have BK116 := n0_; have HB := n1_; have BK117 := n2_; have GW117 := n3_; have GE117 := n4_; have NB116_117 := n5_; have NB117_116 := n6_; clear n0_ n1_ n2_ n3_ n4_ n5_ n6_; clear hb hbox hg; have hnb30 := NB116_117.out; have hnc30 := NB117_116.out; have hcz31_0 : w29.cell? ⟨gb116, 0, none⟩ = some (.int .i64 a0_0) := (blk_cell BK116.out 0).trans rfl; have hcz31_1 : w29.cell? ⟨gb116, 1, none⟩ = some (.int .i64 a0_1) := (blk_cell BK116.out 1).trans rfl; have hcz31_2 : w29.cell? ⟨gb116, 2, none⟩ = some (.int .i64 a0_2) := (blk_cell BK116.out 2).trans rfl; have hcz31_3 : w29.cell? ⟨gb116, 3, none⟩ = some (.int .i64 a0_3) := (blk_cell BK116.out 3).trans rfl; have hcz31_4 : w29.cell? ⟨gb116, 4, none⟩ = some (.slice A0_4 l0_4.length c0_4) := (blk_cell BK116.out 4).trans rfl; have hfz31_0 := blk_frozen BK116.out 0; have hfz31_1 := blk_frozen BK116.out 1; have hfz31_2 := blk_frozen BK116.out 2; have hfz31_3 := blk_frozen BK116.out 3; have hfz31_4 := blk_frozen BK116.out 4; have hcz32_0 : w29.cell? ⟨gb117, 0, none⟩ = some (.int .i64 a1_0) := (blk_cell BK117.out 0).trans rfl; have hcz32_1 : w29.cell? ⟨gb117, 1, none⟩ = some (.int .i64 a1_1) := (blk_cell BK117.out 1).trans rfl; have hcz32_2 : w29.cell? ⟨gb117, 2, none⟩ = some (.int .i64 a1_2) := (blk_cell BK117.out 2).trans rfl; have hcz32_3 : w29.cell? ⟨gb117, 3, none⟩ = some (.int .i64 a1_3) := (blk_cell BK117.out 3).trans rfl; have hcz32_4 : w29.cell? ⟨gb117, 4, none⟩ = some (.slice A1_4 l1_4.length c1_4) := (blk_cell BK117.out 4).trans rfl; have hfz32_0 := blk_frozen BK117.out 0; have hfz32_1 := blk_frozen BK117.out 1; have hfz32_2 := blk_frozen BK117.out 2; have hfz32_3 := blk_frozen BK117.out 3; have hfz32_4 := blk_frozen BK117.out 4))
    go_ret
    exact ⟨by first | rfl | (simp [errW_none, errW_some] <;> rfl) | (simp [*, errW_none, errW_some] <;> rfl), by repeat (first | (with_reducible first | exact HB.out | apply below_alloc | apply pw_below_drewN | apply below_drew1 | refine below_set ?_ GE116.out | refine below_set ?_ GE117.out) | exact HB.out)⟩

end Go.Proofs.Ytpjaebbgbmhneaa.Print
