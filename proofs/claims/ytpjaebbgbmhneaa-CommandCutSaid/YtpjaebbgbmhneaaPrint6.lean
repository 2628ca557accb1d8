/- Written by pp.py, a program of this project that runs the kit's print over the translation, with functions proved by hand put in. Lean checks it. -/
import Derived.Test.YtpjaebbgbmhneaaPrint0
import Derived.Test.YtpjaebbgbmhneaaPrint3
import Derived.Test.YtpjaebbgbmhneaaPrint4
import Derived.Test.YtpjaebbgbmhneaaPrint5
namespace Go.Proofs.Ytpjaebbgbmhneaa.Print
open Go.RowKit Go.Proofs.YtpjaebbgbmhneaaW.PrintWords Go.Proofs.YtpjaebbgbmhneaaW.PrintLast Go.Proofs.YtpjaebbgbmhneaaW.PrintMore
attribute [local go_sem] max2_int min2_int max_two min_two max_three min_three max_four min_four   -- for this text's walks alone
set_option linter.unusedVariables false
set_option linter.unusedSimpArgs false

/-! ### command_Decode_1: function 25, by hand -/
theorem box_set {W : World} {b : Nat} {t : TypeId} {v : Value} (v' : Value) (h : Boxed W b t v) : Boxed (W.setCell ⟨b, 0, none⟩ v') b t v' := h.set v'
theorem cm_put {W : World} {bc : Nat} {a1 a2 a3 a4 b1 b2 b3 b4 : Int} {u v : Value} (h : cmBox W bc a1 a2 a3 a4 u) :
    cmBox (((((W.setCell ⟨bc, 0, none⟩ (.int .i64 b1)).setCell ⟨bc, 1, none⟩ (.int .i64 b2)).setCell ⟨bc, 2, none⟩ (.int .i64 b3)).setCell ⟨bc, 3, none⟩ (.int .i64 b4)).setCell ⟨bc, 4, none⟩ v) bc b1 b2 b3 b4 v ∧
    W.grownBy (((((W.setCell ⟨bc, 0, none⟩ (.int .i64 b1)).setCell ⟨bc, 1, none⟩ (.int .i64 b2)).setCell ⟨bc, 2, none⟩ (.int .i64 b3)).setCell ⟨bc, 3, none⟩ (.int .i64 b4)).setCell ⟨bc, 4, none⟩ v) (some bc) :=
  ⟨((((h.set0 b1).set1 b2).set2 b3).set3 b4).set4 v, ((((sc_grown_setCell _ _ _ _).trans (sc_grown_setCell _ _ _ _)).trans (sc_grown_setCell _ _ _ _)).trans (sc_grown_setCell _ _ _ _)).trans (sc_grown_setCell _ _ _ _)⟩
theorem below_grown_some {W W' : World} {n b : Nat} (hg : W.grownBy W' (some b)) (hn : n ≤ W.heap.size) (hb : n ≤ b) : Below n W W' := (Below.refl n W).grown hg hn (fun k e => by cases e; exact hb)
set_option maxHeartbeats 4000000 in
set_option maxRecDepth 100000 in
theorem dec_catch (bc bv be : Nat) (a1 a2 a3 a4 y z x : Int) (u : Value) (hu : ∃ A n c, u = .slice A n c) (W : World) (hc : cmBox W bc a1 a2 a3 a4 u) (hv : Boxed W bv 3 (.int .i64 y)) (he : Boxed W be 27 (.int .i64 z)) (h1 : bc ≠ bv) (h2 : bc ≠ be) (h3 : bv ≠ be) :
    CallsD Try.prog 25 #[.pointer (some ⟨bc, 0, none⟩), .pointer (some ⟨bv, 0, none⟩), .pointer (some ⟨be, 0, none⟩)] (.panicking (sc_stop x)) W fun e u' W' =>
      e = .returned (.tuple #[]) ∧ u' = .panicking [{ v := .iface 56 (.agg #[.int .i64 x]), recovered := true }] ∧ cmBox W' bc 0 0 0 0 (.slice none 0 0) ∧ Boxed W' bv 3 (.int .i64 0) ∧ Boxed W' be 27 (.int .i64 x) ∧ (∀ n, n ≤ W.heap.size → n ≤ bc → n ≤ bv → n ≤ be → Below n W W') := by
  obtain ⟨A, n, c, rfl⟩ := hu
  unfold sc_stop
  have hta : ∀ (X : World), (Instr.typeAssert (Value.iface 56 (Value.agg #[Value.int .i64 x])) 20 56 true).run Try.prog X = .ok (.tuple #[.agg #[.int .i64 x], .bool true]) X := fun X => by kernel_rfl
  refine callsD_of_wpS Try.func25 rfl fun c₀ cs hu => ?_
  apply wpS_seq
  apply wpS_region
  simp [wpOpsS, go_sem, recoverD, hu, hta, Try.ntmps25, Exit.thenS]
  simp only [Array.replicate_succ, Array.replicate_zero, List.push_toArray, List.append_toArray, List.nil_append, List.cons_append, List.setIfInBounds_toArray, List.set_cons_zero, List.set_cons_succ]
  refine wpS_of_wp ?_
  have k1 := hc.lt
  have k2 := hv.lt
  have k3 := he.lt
  go_wp2_with fail
  refine start_ (n := 6) (S := fun w' => w'.cell? ⟨W.heap.size, 0, none⟩ = some (.int .i64 x)) (ds := [5]) #[false, false, false, false, false, false] (by kernel_rfl) rfl rfl (show (W.alloc (.cells #[.int .i64 x] 56)).cell? ⟨W.heap.size, 0, none⟩ = _ from (Boxed.new W 56 (.int .i64 x)).cell) (fun hHeld => ?_)
  have c1 : cmBox (W.alloc (.cells #[.int .i64 x] 56)).drew bc a1 a2 a3 a4 (.slice A n c) := cmBox.kept (row := none) hc ⟨rfl, rfl, rfl, by simp [World.drew], fun k hk _ => (World.grownBy_alloc W _ none).block k hk (by simp)⟩ (by simp)
  have v1 : Boxed (W.alloc (.cells #[.int .i64 x] 56)).drew bv 3 (.int .i64 y) := Boxed.alloc hv _
  have e1 : Boxed (W.alloc (.cells #[.int .i64 x] 56)).drew be 27 (.int .i64 z) := Boxed.alloc he _
  have g1 : W.grownBy (W.alloc (.cells #[.int .i64 x] 56)).drew none := ⟨rfl, rfl, rfl, by simp [World.drew], fun k hk _ => (World.grownBy_alloc W _ none).block k hk (by simp)⟩
  generalize (W.alloc (.cells #[.int .i64 x] 56)).drew = wd at hHeld c1 v1 e1 g1 ⊢
  obtain ⟨c2, g2⟩ := cm_put (b1 := 0) (b2 := 0) (b3 := 0) (b4 := 0) (v := .slice none 0 0) c1
  have klt := World.block_lt_of_cell? _ _ hHeld
  have s2 := (World.cell?_of_block (a := ⟨W.heap.size, 0, none⟩) (g2.block W.heap.size klt (by simp; omega))).trans hHeld
  have v2 := v1.kept g2 (by simpa using Ne.symm h1)
  have e2 := e1.kept g2 (by simpa using Ne.symm h2)
  have hcc := c1.cell
  have hcf := c1.frozen
  refine pure_ (i := 0) (N := some 11) (v := ?_) (a' := ?_) #[true, false, false, false, false, false] rfl rfl (by kernel_rfl) (fun _ _ _ h => h) (Or.inl ⟨by rfl, ?_⟩) ?_ ?_
  rotate_left
  · intro w'
    go_simp
    with_reducible rfl
  rotate_left
  · simp only [Act.put, List.setIfInBounds_toArray, List.set_cons_zero, List.set_cons_succ, i64_w, i32_w]
    rfl
  refine pure_ (i := 1) (N := some 12) (v := ?_) (a' := ?_) #[true, true, false, false, false, false] rfl rfl (by kernel_rfl) (fun _ _ _ h => h) (Or.inl ⟨by rfl, ?_⟩) ?_ ?_
  rotate_left
  · intro w'
    go_simp
    with_reducible rfl
  rotate_left
  · simp only [Act.put, List.setIfInBounds_toArray, List.set_cons_zero, List.set_cons_succ, i64_w, i32_w]
    rfl
  refine take_ (i := 2) (N := some 13) (v := ?_) (a' := ?_) #[true, true, true, false, false, false] rfl rfl (by kernel_rfl) (fun _ _ _ h => h) (Or.inl ⟨by rfl, ?_⟩) hHeld ?_ ?_
  rotate_left
  · intro w' s0
    go_simp
    with_reducible rfl
  rotate_left
  · simp only [Act.put, List.setIfInBounds_toArray, List.set_cons_zero, List.set_cons_succ, i64_w, i32_w]
    rfl
  refine one_ (i := 3) (N := none) #[true, true, true, true, false, false] rfl rfl (by kernel_rfl) (by decide) (fun K hK => ?_)
  refine skip_ (w1 := ?_) (by rfl) rfl ?_ ?_
  rotate_left
  · go_simp
    rfl
  refine hK.out _ _ s2 (fun hHeld2 => ?_)
  clear hK K
  generalize hWb : (((((wd.setCell ⟨bc, 0, none⟩ (.int .i64 0)).setCell ⟨bc, 1, none⟩ (.int .i64 0)).setCell ⟨bc, 2, none⟩ (.int .i64 0)).setCell ⟨bc, 3, none⟩ (.int .i64 0)).setCell ⟨bc, 4, none⟩ (.slice none 0 0)) = Wb at c2 g2 s2 v2 e2 hHeld2 ⊢
  clear hWb hHeld
  have hvc := v2.cell
  have hvf := v2.frozen
  have g3 := sc_grown_setCell Wb bv 0 (.int .i64 0)
  have v3 := v2.set (.int .i64 0)
  have c3 := c2.kept g3 (by simpa using h1)
  have e3 := e2.kept g3 (by simpa using Ne.symm h3)
  have klt2 := World.block_lt_of_cell? _ _ s2
  have s3 := (World.cell?_of_block (a := ⟨W.heap.size, 0, none⟩) (g3.block W.heap.size klt2 (by simp; omega))).trans s2
  refine one_ (i := 4) (N := none) #[true, true, true, true, true, false] rfl rfl (by kernel_rfl) (by decide) (fun K hK => ?_)
  refine skip_ (w1 := ?_) (by rfl) rfl ?_ ?_
  rotate_left
  · go_simp
    rfl
  refine hK.out _ _ s3 (fun hHeld3 => ?_)
  clear hK K
  generalize hWc : Wb.setCell ⟨bv, 0, none⟩ (.int .i64 0) = Wc at c3 g3 s3 v3 e3 hHeld3 ⊢
  clear hWc hHeld2
  have hec := e3.cell
  have hef := e3.frozen
  have g4 := sc_grown_setCell Wc be 0 (.int .i64 x)
  have e4 := e3.set (.int .i64 x)
  have c4 := c3.kept g4 (by simpa using h2)
  have v4 := v3.kept g4 (by simpa using h3)
  refine last_ (i := 5) (N := none) #[true, true, true, true, true, true] rfl rfl (by kernel_rfl) (by decide) (fun K hK => ?_)
  refine skip_ (w1 := ?_) (by rfl) rfl ?_ ?_
  rotate_left
  · go_simp
    rfl
  refine hK.out _ _ ?_
  clear hK K
  refine done_ (by kernel_rfl) ?_
  have B0 : ∀ n, n ≤ W.heap.size → n ≤ bc → n ≤ bv → n ≤ be → Below n W (Wc.setCell ⟨be, 0, none⟩ (.int .i64 x)) := fun n q1 q2 q3 q4 => by
    have b1 : Below n W wd := (Below.refl n W).grown g1 q1 (fun k e => by cases e)
    have b2 := b1.grown g2 (Nat.le_trans q1 b1.size) (fun k e => by cases e; exact q2)
    have b3 := b2.grown g3 (Nat.le_trans q1 b2.size) (fun k e => by cases e; exact q3)
    exact b3.grown g4 (Nat.le_trans q1 b3.size) (fun k e => by cases e; exact q4)
  refine (show bodyPostS _ _ _ _ _ _ _ _ _ from ?_)
  simp [bodyPostS, results, Try.results25]
  exact ⟨c4, v4, e4, B0⟩
set_option maxHeartbeats 4000000 in
set_option maxRecDepth 100000 in
theorem dec_idle (p q r : Value) (W : World) :
    CallsD Try.prog 25 #[p, q, r] .returning W fun e u' W' => e = .returned (.tuple #[]) ∧ u' = .returning ∧ W' = W.alloc (.cells #[.int .i64 0] 56) := by
  have hta : ∀ (X : World), (Instr.typeAssert Value.nilIface 20 56 true).run Try.prog X = .ok (.tuple #[.agg #[.int .i64 0], .bool false]) X := fun X => by kernel_rfl
  refine callsD_of_wpS Try.func25 rfl fun c₀ cs hu => ?_
  apply wpS_seq
  apply wpS_region
  simp [wpOpsS, go_sem, recoverD, hu, hta, Try.ntmps25, Exit.thenS]
  simp only [Array.replicate_succ, Array.replicate_zero, List.push_toArray, List.append_toArray, List.nil_append, List.cons_append, List.setIfInBounds_toArray, List.set_cons_zero, List.set_cons_succ]
  refine wpS_of_wp ?_
  go_wp2
  refine (show bodyPostS _ _ _ _ _ _ _ _ _ from ?_)
  cases c₀
  simp_all [bodyPostS, results, Try.results25]

/-! ### command_Decode: function 14, by hand -/
/-- What octets are as a command: its parts, its version, or why there is none. -/
def sc_dec (l : List Int) : Int × Int × Int × Int × List ScOp × Int × Int :=
  match sc_cmd l with
  | .error x => (0, 0, 0, 0, [], 0, x)
  | .ok (a, b, c, d, os, v) => if (cmd_encode v a b c d os).2 ≠ 0 then (0, 0, 0, 0, [], 0, (cmd_encode v a b c d os).2) else (a, b, c, d, os, v, 0)
def command_Decode.f (l0 : List Int) : Option (Int × Int × Int × Int × List ScOp × Int × Int) := if (l0.all fun x => decide (0 ≤ x ∧ x < 256)) = true then some (sc_dec l0) else none
theorem leaves_congr {P : Program} {fn : Func} {t1 t2 : Array Value} {R : Ending → World → Prop} (ht : results fn t1 = results fn t2) : ∀ (ds : List Deferred) (u : FrameMode) (w : World), Leaves P fn t1 R ds u w → Leaves P fn t2 R ds u w := by
  intro ds
  induction ds with
  | nil =>
    intro u w h
    cases u with
    | run => exact h
    | returning => obtain ⟨v, h1, h2⟩ := h; exact ⟨v, by rw [← ht]; exact h1, h2⟩
    | panicking c => exact h
  | cons d ds ih =>
    intro u w h
    obtain ⟨hu, fv, cap, f, args, h1, h2, h3⟩ := h
    refine ⟨hu, fv, cap, f, args, h1, h2, h3.mono ?_⟩
    intro e u' w' h4
    cases e with
    | returned v => exact ih _ _ h4
    | panicked c => exact ih _ _ h4
    | outgrown => exact h4
theorem dec_hQ {R : Ending → World → Prop} {c : List PanicEntry} {a : Act} {w : World} {v : Value} {N : Nat} (hN : 5 ≤ N) (h : bodyPostD Try.prog Try.f14 R (.panic c) (a.put (some N) v) w) : bodyPostD Try.prog Try.f14 R (.panic c) a w := by
  refine leaves_congr ?_ _ _ _ h
  have q : ∀ k, k < 5 → (a.put (some N) v).tmps[k]?.getD undef = a.tmps[k]?.getD undef := by
    intro k hk
    have hne : ¬ N = k := by omega
    simp [Act.put, Array.getElem?_setIfInBounds, hne]
  simp only [results, Try.results14]
  simp [q 2 (by decide), q 3 (by decide), q 4 (by decide)]
theorem leaves_nil {P : Program} {fn : Func} {tmps : Array Value} {R : Ending → World → Prop} {w : World} {v : Value} (h : (results fn tmps).run P w = .ok v w) (hr : R (.returned v) w) : Leaves P fn tmps R [] .returning w := ⟨v, h, hr⟩
theorem dec_res {tmps : Array Value} {W : World} {bc bv be : Nat} {cs : Array Value} {y z : Int} (h2 : tmps.getD 2 undef = .pointer (some ⟨bc, 0, none⟩)) (h3 : tmps.getD 3 undef = .pointer (some ⟨bv, 0, none⟩)) (h4 : tmps.getD 4 undef = .pointer (some ⟨be, 0, none⟩))
    (hc : W.heap[bc]? = some (.cells cs 24 (0, 0))) (hs : cs.size = 5) (hv : Boxed W bv 3 (.int .i64 y)) (he : Boxed W be 27 (.int .i64 z)) :
    (results Try.f14 tmps).run Try.prog W = .ok (.tuple #[.agg cs, .int .i64 y, .int .i64 z]) W := by
  have hl1 := run_loadVar_row (P := Try.prog) W bc 24 24 cs (0, 0) _ hc Try.underlying24 rfl (by rw [hs]; kernel_rfl)
  have hl2 : (loadVar 3 ⟨bv, 0, none⟩).run Try.prog W = .ok (.int .i64 y) W := by
    have := hv.cell
    simp [go_sem, this]
  have hl3 : (loadVar 27 ⟨be, 0, none⟩).run Try.prog W = .ok (.int .i64 z) W := by
    have := he.cell
    simp [go_sem, this]
  simp only [results, Try.results14]
  simp only [Array.getD_eq_getD_getElem?] at h2 h3 h4
  simp [h2, h3, h4, asAddr, hl1, hl2, hl3, Result.andThen, Sem.run_bind]
theorem ops_below {W W' : World} {base : Nat} {v : Value} {os : List ScOp} (h : Kd.R k48 48 W base (fun _ => True) v os) (hb : Below W.heap.size W W') : Kd.R k48 48 W' base (fun _ => True) v os := by
  obtain ⟨h0, inner, hown, hr⟩ := h
  refine ⟨fun _ _ => trivial, inner, ⟨hown.1, ?_⟩, hr.imp_ (fun x cs hx => by rw [k48_openM hx]; exact k48_mkM _ _ _ _)⟩
  rcases hown.2 with hn | ⟨g, cap, cur, rfl, hb1, hgg, rest⟩
  · exact .inl hn
  · exact .inr ⟨g, cap, cur, rfl, hb1, (hb.block g (Array.getElem?_eq_some_iff.1 hgg).1).trans hgg, rest⟩
set_option maxHeartbeats 8000000 in
set_option maxRecDepth 100000 in
theorem command_Decode.calls (A0 : Option Addr) (c0 : Nat) (l0 : List Int) (r1 r2 r3 r4 : Int) (r5 : List ScOp) (r6 r7 : Int) (w : World) (hr0 : Kd.C (Kd.int .u8) w A0 l0.length l0) (hc0 : l0.length ≤ c0) (h : command_Decode.f l0 = some (r1, r2, r3, r4, r5, r6, r7)) :
    Calls Try.prog 14 #[.slice A0 l0.length c0] w fun e w' => ∃ v0_ : Value, e = .returned (.tuple #[.agg #[.int .i64 r1, .int .i64 r2, .int .i64 r3, .int .i64 r4, v0_], .int .i64 r6, .int .i64 r7]) ∧ Kd.R k48 48 w' w.heap.size (fun _ => True) v0_ r5 ∧ Below w.heap.size w w' := by
  unfold command_Decode.f at h
  split at h
  case isFalse => cases h
  rename_i hall
  have hby : sc_bytes l0 := fun x hx => by have := List.all_eq_true.1 hall x hx; simpa using this
  have H := Aside0.mk (Option.some.inj h)
  clear h hall
  have HR := Aside0.mk hr0
  have HC := Aside0.mk hc0
  have hmf : ∀ (fn : Fn) (first cap : Array Value) (w : World), (Instr.makeFunc fn first cap).run Try.prog w = .ok (.func fn first cap) w := fun _ _ _ _ => rfl
  have hB0 : Below w.heap.size w ((((w.alloc (.cells #[.int .i64 0, .int .i64 0, .int .i64 0, .int .i64 0, .slice none 0 0] 24)).alloc (.cells #[.int .i64 0] 3)).alloc (.cells #[.int .i64 0] 27)).alloc (.cells #[.slice A0 l0.length c0] 58)) :=
    ((((Below.refl _ w).alloc (Nat.le_refl _) _).alloc (by simp) _).alloc (by simp; omega) _).alloc (by simp; omega) _
  have hbc : cmBox ((((w.alloc (.cells #[.int .i64 0, .int .i64 0, .int .i64 0, .int .i64 0, .slice none 0 0] 24)).alloc (.cells #[.int .i64 0] 3)).alloc (.cells #[.int .i64 0] 27)).alloc (.cells #[.slice A0 l0.length c0] 58)) w.heap.size 0 0 0 0 (.slice none 0 0) :=
    cmBox.kept (cmBox.kept (cmBox.kept (World.alloc_heap_new w _) (World.grownBy_alloc _ _ none) (by simp)) (World.grownBy_alloc _ _ none) (by simp)) (World.grownBy_alloc _ _ none) (by simp)
  have hbv : Boxed ((((w.alloc (.cells #[.int .i64 0, .int .i64 0, .int .i64 0, .int .i64 0, .slice none 0 0] 24)).alloc (.cells #[.int .i64 0] 3)).alloc (.cells #[.int .i64 0] 27)).alloc (.cells #[.slice A0 l0.length c0] 58)) (w.heap.size + 1) 3 (.int .i64 0) := by
    have := Boxed.new (w.alloc (.cells #[.int .i64 0, .int .i64 0, .int .i64 0, .int .i64 0, .slice none 0 0] 24)) 3 (.int .i64 0)
    rw [World.size_alloc] at this
    exact (this.alloc _).alloc _
  have hbe : Boxed ((((w.alloc (.cells #[.int .i64 0, .int .i64 0, .int .i64 0, .int .i64 0, .slice none 0 0] 24)).alloc (.cells #[.int .i64 0] 3)).alloc (.cells #[.int .i64 0] 27)).alloc (.cells #[.slice A0 l0.length c0] 58)) (w.heap.size + 1 + 1) 27 (.int .i64 0) := by
    have := Boxed.new ((w.alloc (.cells #[.int .i64 0, .int .i64 0, .int .i64 0, .int .i64 0, .slice none 0 0] 24)).alloc (.cells #[.int .i64 0] 3)) 27 (.int .i64 0)
    rw [World.size_alloc, World.size_alloc] at this
    exact this.alloc _
  have hbs : Boxed ((((w.alloc (.cells #[.int .i64 0, .int .i64 0, .int .i64 0, .int .i64 0, .slice none 0 0] 24)).alloc (.cells #[.int .i64 0] 3)).alloc (.cells #[.int .i64 0] 27)).alloc (.cells #[.slice A0 l0.length c0] 58)) (w.heap.size + 1 + 1 + 1) 58 (.slice A0 l0.length c0) := by
    have := Boxed.new (((w.alloc (.cells #[.int .i64 0, .int .i64 0, .int .i64 0, .int .i64 0, .slice none 0 0] 24)).alloc (.cells #[.int .i64 0] 3)).alloc (.cells #[.int .i64 0] 27)) 58 (.slice A0 l0.length c0)
    rw [World.size_alloc, World.size_alloc, World.size_alloc] at this
    exact this
  have T := Aside0.mk (sc_command w _ _ l0 hby ⟨hB0, by omega, A0, c0, hbs, hr0, hc0⟩)
  have HBC := Aside0.mk hbc
  have HBV := Aside0.mk hbv
  have HBE := Aside0.mk hbe
  have HBB := Aside0.mk hB0
  clear hr0 hc0 hbc hbv hbe hbs hB0 hby
  go_enter_defers Try.func14, Try.ntmps14
  go_wp2_with fail
  refine T.out.mono ?_
  rintro e W1 ⟨hg, ⟨x, hx, rfl⟩ | ⟨a, b, c, d, os, v, u, hok, rfl, HO⟩⟩
  · have B1 := Aside0.mk (HBB.out.grown hg HBB.out.size (fun k e => by cases e; omega))
    have hc1 := HBC.out.kept hg (by simp; omega)
    have hv1 := HBV.out.kept hg (by simp)
    have he1 := HBE.out.kept hg (by simp)
    clear hg T HBC HBV HBE HBB
    go_wp2
    refine leaves_cons (f := 25) (args := #[.pointer (some ⟨w.heap.size, 0, none⟩), .pointer (some ⟨w.heap.size + 1, 0, none⟩), .pointer (some ⟨w.heap.size + 1 + 1, 0, none⟩)]) (by simp) (by simp [go_sem]) ?_
    refine (dec_catch _ _ _ 0 0 0 0 0 0 x _ ⟨_, _, _, rfl⟩ W1 hc1 hv1 he1 (by omega) (by omega) (by omega)).mono ?_
    rintro e u' W2 ⟨rfl, rfl, hc2, hv2, he2, hB2⟩
    have hrr := H.out
    unfold sc_dec at hrr
    rw [hx] at hrr
    cases hrr
    have BF := Aside0.mk (B1.out.trans (hB2 _ B1.out.size (Nat.le_refl _) (by omega) (by omega)))
    refine leaves_nil (dec_res (bc := w.heap.size) (bv := w.heap.size + 1) (be := w.heap.size + 1 + 1) rfl rfl rfl hc2 rfl hv2 he2) ?_
    exact ⟨_, rfl, Kd.R_nil _ _ _ _ _, BF.out⟩
  · have B1 := HBB.out.grown hg HBB.out.size (fun k e => by cases e; omega)
    have hc1 := HBC.out.kept hg (by intro e; injection e with e; omega)
    have hv1 := HBV.out.kept hg (by intro e; injection e with e; omega)
    have he1 := HBE.out.kept hg (by intro e; injection e with e; omega)
    clear hg T HBC HBV HBE
    obtain ⟨Au, cu, eu⟩ := Kd.R_slice HO
    subst eu
    obtain ⟨c2, g2⟩ := cm_put (b1 := a) (b2 := b) (b3 := c) (b4 := d) (v := .slice Au os.length cu) hc1
    have v2 := hv1.kept g2 (by intro e; injection e with e; omega)
    have e2 := he1.kept g2 (by intro e; injection e with e; omega)
    have g3 := sc_grown_setCell (((((W1.setCell ⟨w.heap.size, 0, none⟩ (.int .i64 a)).setCell ⟨w.heap.size, 1, none⟩ (.int .i64 b)).setCell ⟨w.heap.size, 2, none⟩ (.int .i64 c)).setCell ⟨w.heap.size, 3, none⟩ (.int .i64 d)).setCell ⟨w.heap.size, 4, none⟩ (.slice Au os.length cu)) (w.heap.size + 1) 0 (.int .i64 v)
    have v3 := v2.set (.int .i64 v)
    have c3 := c2.kept g3 (by intro e; injection e with e; omega)
    have e3 := e2.kept g3 (by intro e; injection e with e; omega)
    have ne1 : ∀ bb, bb < w.heap.size + 4 → (Value.slice Au os.length cu).ownBlock = none ∨ (Value.slice Au os.length cu).ownBlock ≠ some bb := fun bb hbb => by
      cases e : (Value.slice Au os.length cu).ownBlock with
      | none => exact .inl rfl
      | some k => right; have := (ops_base HO k e).1; simp at this; intro e2; injection e2 with e2; omega
    have NE1 := Aside0.mk ne1
    have o3 := ops_grown (ops_grown HO g2 (ne1 _ (by omega))) g3 (ne1 _ (by omega))
    have B3 := (B1.grown g2 B1.size (fun k e => by cases e; exact Nat.le_refl _)).grown g3 (B1.grown g2 B1.size (fun k e => by cases e; exact Nat.le_refl _)).size (fun k e => by cases e; omega)
    have hr3 := Kd.R_reads' o3
    obtain ⟨p, q, hpq⟩ : ∃ p q, cmd_encode v a b c d os = (p, q) := ⟨_, _, rfl⟩
    have HE := Aside0.mk (command_Encode.calls a b c d Au cu os v p q _ hr3.2.2 hr3.2.1 (show some (cmd_encode v a b c d os) = _ by rw [hpq]))
    have HPQ := Aside0.mk hpq
    have HOK := Aside0.mk hok
    have hcc1 := hc1.cell
    have hcf1 := hc1.frozen
    have hvc1 := v2.cell
    have hvf1 := v2.frozen
    have hcc3 := c3.cell
    have hvc3 := v3.cell
    have C3 := Aside0.mk c3
    have V3 := Aside0.mk v3
    have E3 := Aside0.mk e3
    have O3 := Aside0.mk o3
    have BB3 := Aside0.mk B3
    clear hr3 g2 g3 v2 e2 c2 hc1 hv1 he1 B1 HBB hpq hok c3 v3 e3 o3 B3 HO ne1
    go_wp2_with fail
    refine HE.out.mono ?_
    rintro e W2 ⟨vb, rfl, _, hb2⟩
    have c4 : cmBox W2 w.heap.size a b c d (.slice Au os.length cu) := (hb2.block _ C3.out.lt).trans C3.out
    have v4 : Boxed W2 (w.heap.size + 1) 3 (.int .i64 v) := (hb2.block _ V3.out.lt).trans V3.out
    have e4 : Boxed W2 (w.heap.size + 1 + 1) 27 (.int .i64 0) := (hb2.block _ E3.out.lt).trans E3.out
    have o4 := ops_below O3.out hb2
    have B4 := BB3.out.trans (hb2.mono BB3.out.size)
    have g5 := sc_grown_setCell W2 (w.heap.size + 1 + 1) 0 (.int .i64 q)
    have e5 := e4.set (.int .i64 q)
    have c5 := c4.kept g5 (by intro e; injection e with e; omega)
    have v5 := v4.kept g5 (by intro e; injection e with e; omega)
    have o5 := ops_grown o4 g5 (NE1.out _ (by omega))
    have B5 := B4.grown g5 B4.size (fun k e => by cases e; omega)
    have hec4 := e4.cell
    have hef4 := e4.frozen
    have hec5 := e5.cell
    clear C3 V3 E3 O3 BB3 HE hb2 o4 B4 v4 c4 hcc1 hcf1 hvc1 hvf1 hcc3 hvc3
    have C5 := Aside0.mk c5
    have V5 := Aside0.mk v5
    have E5 := Aside0.mk e5
    have O5 := Aside0.mk o5
    have B5' := Aside0.mk B5
    clear c5 v5 e5 o5 B5 g5 e4
    by_cases hq : q = 0
    · subst hq
      go_wp2_with fail
      refine start_ (n := 5) (S := fun w' => (w'.cell? ⟨w.heap.size, 0, none⟩ = some (.int .i64 a) ∧ w'.cell? ⟨w.heap.size, 1, none⟩ = some (.int .i64 b) ∧ w'.cell? ⟨w.heap.size, 2, none⟩ = some (.int .i64 c) ∧ w'.cell? ⟨w.heap.size, 3, none⟩ = some (.int .i64 d) ∧ w'.cell? ⟨w.heap.size, 4, none⟩ = some (.slice Au os.length cu)) ∧ w'.cell? ⟨w.heap.size + 1, 0, none⟩ = some (.int .i64 v)) (ds := [3, 4]) #[false, false, false, false, false] (by kernel_rfl) rfl rfl ⟨C5.out.cell, V5.out.cell⟩ (fun hHeld => ?_)
      have g6 : (W2.setCell ⟨w.heap.size + 1 + 1, 0, none⟩ (.int .i64 0)).grownBy (W2.setCell ⟨w.heap.size + 1 + 1, 0, none⟩ (.int .i64 0)).drew none := ⟨rfl, rfl, rfl, Nat.le_refl _, fun _ _ _ => rfl⟩
      have c6 := C5.out.kept g6 (by simp)
      have v6 := V5.out.kept g6 (by simp)
      have e6 := E5.out.kept g6 (by simp)
      have o6 := ops_grown O5.out g6 (by cases e : (Value.slice Au os.length cu).ownBlock with | none => exact .inl rfl | some k => right; simp)
      have B6 := B5'.out.grown g6 B5'.out.size (fun k e => by cases e)
      generalize (W2.setCell ⟨w.heap.size + 1 + 1, 0, none⟩ (.int .i64 0)).drew = wd at hHeld c6 v6 e6 o6 B6 ⊢
      clear g6
      obtain ⟨c7, g7⟩ := cm_put (b1 := a) (b2 := b) (b3 := c) (b4 := d) (v := .slice Au os.length cu) c6
      have v7 := v6.kept g7 (by intro e; injection e with e; omega)
      have e7 := e6.kept g7 (by intro e; injection e with e; omega)
      have o7 := ops_grown o6 g7 (NE1.out _ (by omega))
      have B7 := B6.grown g7 B6.size (fun k e => by cases e; exact Nat.le_refl _)
      have hc6 := c6.cell
      have hcf6 := c6.frozen
      refine take_ (i := 0) (N := some 22) (v := ?_) (a' := ?_) #[true, false, false, false, false] rfl rfl (by kernel_rfl) (fun _ _ _ h => dec_hQ (N := 22) (by decide) h) (Or.inl ⟨by rfl, ?_⟩) hHeld ?_ ?_
      rotate_left
      · rintro w' ⟨⟨s0, s1, s2, s3, s4⟩, s5⟩
        go_simp
        with_reducible rfl
      rotate_left
      · simp only [Act.put, List.setIfInBounds_toArray, List.set_cons_zero, List.set_cons_succ, i64_w, i32_w]
        rfl
      refine take_ (i := 1) (N := some 23) (v := ?_) (a' := ?_) #[true, true, false, false, false] rfl rfl (by kernel_rfl) (fun _ _ _ h => dec_hQ (N := 23) (by decide) h) (Or.inl ⟨by rfl, ?_⟩) hHeld ?_ ?_
      rotate_left
      · rintro w' ⟨_, s5⟩
        go_simp
        with_reducible rfl
      rotate_left
      · simp only [Act.put, List.setIfInBounds_toArray, List.set_cons_zero, List.set_cons_succ, i64_w, i32_w]
        rfl
      refine one_ (i := 2) (N := none) #[true, true, true, false, false] rfl rfl (by kernel_rfl) (by decide) (fun K hK => ?_)
      refine skip_ (w1 := ?_) (by rfl) rfl ?_ ?_
      rotate_left
      · go_simp
        rfl
      refine hK.out _ _ ⟨c7.cell, v7.cell⟩ (fun hHeld2 => ?_)
      clear hK K hHeld
      have hHeld := hHeld2
      clear hHeld2
      generalize (((((wd.setCell ⟨w.heap.size, 0, none⟩ (.int .i64 a)).setCell ⟨w.heap.size, 1, none⟩ (.int .i64 b)).setCell ⟨w.heap.size, 2, none⟩ (.int .i64 c)).setCell ⟨w.heap.size, 3, none⟩ (.int .i64 d)).setCell ⟨w.heap.size, 4, none⟩ (.slice Au os.length cu)) = we at c7 g7 v7 e7 o7 B7 hHeld ⊢
      have hv7 := v7.cell
      have hvf7 := v7.frozen
      have g8 := sc_grown_setCell we (w.heap.size + 1) 0 (.int .i64 v)
      have v8 := v7.set (.int .i64 v)
      have c8 := c7.kept g8 (by intro e; injection e with e; omega)
      have e8 := e7.kept g8 (by intro e; injection e with e; omega)
      have o8 := ops_grown o7 g8 (NE1.out _ (by omega))
      have B8 := B7.grown g8 B7.size (fun k e => by cases e; omega)
      refine last_ (i := 3) (N := none) #[true, true, true, true, false] rfl rfl (by kernel_rfl) (by decide) (fun K hK => ?_)
      refine skip_ (w1 := ?_) (by rfl) rfl ?_ ?_
      rotate_left
      · go_simp
        rfl
      refine hK.out _ _ ?_
      clear hK K
      generalize we.setCell ⟨w.heap.size + 1, 0, none⟩ (.int .i64 v) = wf at c8 g8 v8 e8 o8 B8 ⊢
      have he8 := e8.cell
      have hef8 := e8.frozen
      have g9 := sc_grown_setCell wf (w.heap.size + 1 + 1) 0 (.int .i64 0)
      have e9 := e8.set (.int .i64 0)
      have c9 := c8.kept g9 (by intro e; injection e with e; omega)
      have v9 := v8.kept g9 (by intro e; injection e with e; omega)
      have o9 := ops_grown o8 g9 (NE1.out _ (by omega))
      have B9 := B8.grown g9 B8.size (fun k e => by cases e; omega)
      refine last_ (i := 4) (N := none) #[true, true, true, true, true] rfl rfl (by kernel_rfl) (by decide) (fun K hK => ?_)
      refine skip_ (w1 := ?_) (by rfl) rfl ?_ ?_
      rotate_left
      · go_simp
        rfl
      refine hK.out _ _ ?_
      clear hK K
      refine done_ (by kernel_rfl) ?_
      try go_wp2
      refine leaves_cons (f := 25) (args := #[.pointer (some ⟨w.heap.size, 0, none⟩), .pointer (some ⟨w.heap.size + 1, 0, none⟩), .pointer (some ⟨w.heap.size + 1 + 1, 0, none⟩)]) (by simp) (by simp [go_sem]) ?_
      refine (dec_idle _ _ _ _).mono ?_
      rintro e u' Wl ⟨rfl, rfl, rfl⟩
      have hrr := H.out
      unfold sc_dec at hrr
      rw [HOK.out] at hrr
      dsimp only at hrr
      rw [HPQ.out] at hrr
      rw [if_neg (by simp)] at hrr
      have ga := World.grownBy_alloc (wf.setCell ⟨w.heap.size + 1 + 1, 0, none⟩ (.int .i64 0)) (.cells #[.int .i64 0] 56) none
      have o10 := ops_grown o9 ga (by cases e : (Value.slice Au os.length cu).ownBlock with | none => exact .inl rfl | some k => right; simp)
      cases hrr
      refine leaves_nil (dec_res (bc := w.heap.size) (bv := w.heap.size + 1) (be := w.heap.size + 1 + 1) rfl rfl rfl (c9.kept ga (by simp)) rfl (v9.kept ga (by simp)) (e9.kept ga (by simp))) ?_
      exact ⟨_, rfl, Kd.R_lower o10 (by simp; omega), B9.grown ga B9.size (fun k e => by cases e)⟩
    · have hq2 : (q == 0) = false := by simpa using hq
      have hq3 : (q != 0) = true := by simpa using hq
      have HQ := Aside0.mk hq
      go_wp2_with fail
      refine start_ (n := 5) (S := fun w' => w'.cell? ⟨w.heap.size + 1 + 1, 0, none⟩ = some (.int .i64 q)) (ds := [4]) #[false, false, false, false, false] (by kernel_rfl) rfl rfl E5.out.cell (fun hHeld => ?_)
      have g6 : (W2.setCell ⟨w.heap.size + 1 + 1, 0, none⟩ (.int .i64 q)).grownBy (W2.setCell ⟨w.heap.size + 1 + 1, 0, none⟩ (.int .i64 q)).drew none := ⟨rfl, rfl, rfl, Nat.le_refl _, fun _ _ _ => rfl⟩
      have c6 := C5.out.kept g6 (by simp)
      have v6 := V5.out.kept g6 (by simp)
      have e6 := E5.out.kept g6 (by simp)
      have B6 := B5'.out.grown g6 B5'.out.size (fun k e => by cases e)
      generalize (W2.setCell ⟨w.heap.size + 1 + 1, 0, none⟩ (.int .i64 q)).drew = wd at hHeld c6 v6 e6 B6 ⊢
      clear g6
      obtain ⟨c7, g7⟩ := cm_put (b1 := 0) (b2 := 0) (b3 := 0) (b4 := 0) (v := .slice none 0 0) c6
      have v7 := v6.kept g7 (by intro e; injection e with e; omega)
      have e7 := e6.kept g7 (by intro e; injection e with e; omega)
      have B7 := B6.grown g7 B6.size (fun k e => by cases e; exact Nat.le_refl _)
      have hc6 := c6.cell
      have hcf6 := c6.frozen
      refine pure_ (i := 0) (N := some 20) (v := ?_) (a' := ?_) #[true, false, false, false, false] rfl rfl (by kernel_rfl) (fun _ _ _ h => dec_hQ (N := 20) (by decide) h) (Or.inl ⟨by rfl, ?_⟩) ?_ ?_
      rotate_left
      · intro w'
        go_simp
        with_reducible rfl
      rotate_left
      · simp only [Act.put, List.setIfInBounds_toArray, List.set_cons_zero, List.set_cons_succ, i64_w, i32_w]
        rfl
      refine take_ (i := 1) (N := some 21) (v := ?_) (a' := ?_) #[true, true, false, false, false] rfl rfl (by kernel_rfl) (fun _ _ _ h => dec_hQ (N := 21) (by decide) h) (Or.inl ⟨by rfl, ?_⟩) hHeld ?_ ?_
      rotate_left
      · rintro w' s0
        go_simp
        with_reducible rfl
      rotate_left
      · simp only [Act.put, List.setIfInBounds_toArray, List.set_cons_zero, List.set_cons_succ, i64_w, i32_w]
        rfl
      refine one_ (i := 2) (N := none) #[true, true, true, false, false] rfl rfl (by kernel_rfl) (by decide) (fun K hK => ?_)
      refine skip_ (w1 := ?_) (by rfl) rfl ?_ ?_
      rotate_left
      · go_simp
        rfl
      refine hK.out _ _ e7.cell (fun hHeld2 => ?_)
      clear hK K hHeld
      have hHeld := hHeld2
      clear hHeld2
      generalize (((((wd.setCell ⟨w.heap.size, 0, none⟩ (.int .i64 0)).setCell ⟨w.heap.size, 1, none⟩ (.int .i64 0)).setCell ⟨w.heap.size, 2, none⟩ (.int .i64 0)).setCell ⟨w.heap.size, 3, none⟩ (.int .i64 0)).setCell ⟨w.heap.size, 4, none⟩ (.slice none 0 0)) = we at c7 g7 v7 e7 B7 hHeld ⊢
      have hv7 := v7.cell
      have hvf7 := v7.frozen
      have g8 := sc_grown_setCell we (w.heap.size + 1) 0 (.int .i64 0)
      have v8 := v7.set (.int .i64 0)
      have c8 := c7.kept g8 (by intro e; injection e with e; omega)
      have e8 := e7.kept g8 (by intro e; injection e with e; omega)
      have B8 := B7.grown g8 B7.size (fun k e => by cases e; omega)
      refine one_ (i := 3) (N := none) #[true, true, true, true, false] rfl rfl (by kernel_rfl) (by decide) (fun K hK => ?_)
      refine skip_ (w1 := ?_) (by rfl) rfl ?_ ?_
      rotate_left
      · go_simp
        rfl
      refine hK.out _ _ e8.cell (fun hHeld2 => ?_)
      clear hK K hHeld
      have hHeld := hHeld2
      clear hHeld2
      generalize we.setCell ⟨w.heap.size + 1, 0, none⟩ (.int .i64 0) = wf at c8 g8 v8 e8 B8 hHeld ⊢
      have he8 := e8.cell
      have hef8 := e8.frozen
      have g9 := sc_grown_setCell wf (w.heap.size + 1 + 1) 0 (.int .i64 q)
      have e9 := e8.set (.int .i64 q)
      have c9 := c8.kept g9 (by intro e; injection e with e; omega)
      have v9 := v8.kept g9 (by intro e; injection e with e; omega)
      have B9 := B8.grown g9 B8.size (fun k e => by cases e; omega)
      refine last_ (i := 4) (N := none) #[true, true, true, true, true] rfl rfl (by kernel_rfl) (by decide) (fun K hK => ?_)
      refine skip_ (w1 := ?_) (by rfl) rfl ?_ ?_
      rotate_left
      · go_simp
        rfl
      refine hK.out _ _ ?_
      clear hK K
      refine done_ (by kernel_rfl) ?_
      try go_wp2
      refine leaves_cons (f := 25) (args := #[.pointer (some ⟨w.heap.size, 0, none⟩), .pointer (some ⟨w.heap.size + 1, 0, none⟩), .pointer (some ⟨w.heap.size + 1 + 1, 0, none⟩)]) (by simp) (by simp [go_sem]) ?_
      refine (dec_idle _ _ _ _).mono ?_
      rintro e u' Wl ⟨rfl, rfl, rfl⟩
      have hrr := H.out
      unfold sc_dec at hrr
      rw [HOK.out] at hrr
      dsimp only at hrr
      rw [HPQ.out] at hrr
      rw [if_pos HQ.out] at hrr
      cases hrr
      have ga := World.grownBy_alloc (wf.setCell ⟨w.heap.size + 1 + 1, 0, none⟩ (.int .i64 q)) (.cells #[.int .i64 0] 56) none
      refine leaves_nil (dec_res (bc := w.heap.size) (bv := w.heap.size + 1) (be := w.heap.size + 1 + 1) rfl rfl rfl (c9.kept ga (by simp)) rfl (v9.kept ga (by simp)) (e9.kept ga (by simp))) ?_
      exact ⟨_, rfl, Kd.R_nil _ _ _ _ _, B9.grown ga B9.size (fun k e => by cases e)⟩


/-! ### transeptlaw13_CommandCut: function 6 -/
def transeptlaw13_CommandCut.f (k : Nat) (a0_0 : Int) (a0_1 : Int) (a0_2 : Int) (a0_3 : Int) (l0_4 : List (S48)) (a1 : Int) (a2 : Int) : Option (Bool) := (transeptlaw13_alive.f k).bind fun t118 => (if t118 = true then ((command_Encode.f a0_0 a0_1 a0_2 a0_3 l0_4 a1).bind fun bt119 => ((transeptlaw13_num.f bt119.2).bind fun t123 => (if t123 = 0 then (if (bt119.1.length : Int) = 0 then (none) else (if 0 ≤ (Int.tmod (wrap64 ((Int.tmod a2 (bt119.1.length : Int)) + (bt119.1.length : Int))) (bt119.1.length : Int)) then (if (Int.tmod (wrap64 ((Int.tmod a2 (bt119.1.length : Int)) + (bt119.1.length : Int))) (bt119.1.length : Int)) ≤ (bt119.1.length : Int) then ((command_Decode.f (bt119.1.take ((Int.tmod (wrap64 ((Int.tmod a2 (bt119.1.length : Int)) + (bt119.1.length : Int))) (bt119.1.length : Int)) : Int).toNat)).bind fun bt128 => ((transeptplain_CopyBytes.f bt119.1).bind fun t138 => (if t138.length < 140737488355328 then ((command_Decode.f (t138 ++ [0])).bind fun bt144 => ((transeptlaw13_num.f bt128.2.2.2.2.2.2).bind fun t154 => (if t154 = 8 then (if bt128.2.2.2.2.2.1 = 0 then (if bt128.1 = 0 then ((transeptlaw13_num.f bt144.2.2.2.2.2.2).bind fun t155 => (some (t155 == 23))) else (none)) else (none)) else (none)))) else (none)))) else (none)) else (none))) else (some ((bt119.1.length : Int) == 0))))) else (none))
theorem transeptlaw13_CommandCut.mono : ∀ a0 a1 a2 a3 a4 a5 a6 k, LeO (transeptlaw13_CommandCut.f k a0 a1 a2 a3 a4 a5 a6) (transeptlaw13_CommandCut.f (k + 1) a0 a1 a2 a3 a4 a5 a6) := by
  intro a0 a1 a2 a3 a4 a5 a6 k
  unfold transeptlaw13_CommandCut.f
  repeat' first
      | (with_reducible exact transeptlaw13_alive.mono _)
      | (with_reducible exact LeO.refl _)
      | (with_reducible exact LeO.none _)
      | (with_reducible refine LeO.ite ?_ ?_)
      | (with_reducible refine LeO.bind ?_ (fun _ => ?_))
      | exact transeptlaw13_alive.mono _
      | exact LeO.none _
      | refine LeO.ite ?_ ?_
      | refine LeO.bind ?_ (fun _ => ?_)
set_option maxHeartbeats 8000000 in
set_option maxRecDepth 100000 in
theorem transeptlaw13_CommandCut.calls (k : Nat) (a0_0 : Int) (a0_1 : Int) (a0_2 : Int) (a0_3 : Int) (A0_4 : Option Addr) (c0_4 : Nat) (l0_4 : List (S48)) (a1 : Int) (a2 : Int) (r : Bool) (w : World) (hr0_4 : Kd.C k48 w A0_4 l0_4.length l0_4) (hc0_4 : l0_4.length ≤ c0_4) (h : transeptlaw13_CommandCut.f k a0_0 a0_1 a0_2 a0_3 l0_4 a1 a2 = some r) :
    Calls Try.prog 6 #[.agg #[.int .i64 a0_0, .int .i64 a0_1, .int .i64 a0_2, .int .i64 a0_3, .slice A0_4 l0_4.length c0_4], .int .i64 a1, .int .i64 a2] w fun e w' => e = .returned (.bool r) ∧ Below w.heap.size w w' := by
  have hu24 := Try.underlying24
  have HR0_4 := Aside0.mk hr0_4
  have HC0_4 := Aside0.mk hc0_4
  clear hr0_4 hc0_4
  have HB := Aside0.mk (Below.refl w.heap.size w)
  have H : ((transeptlaw13_alive.f k).bind fun t118 => (if t118 = true then ((command_Encode.f a0_0 a0_1 a0_2 a0_3 l0_4 a1).bind fun bt119 => ((transeptlaw13_num.f bt119.2).bind fun t123 => (if t123 = 0 then (if (bt119.1.length : Int) = 0 then (none) else (if 0 ≤ (Int.tmod (wrap64 ((Int.tmod a2 (bt119.1.length : Int)) + (bt119.1.length : Int))) (bt119.1.length : Int)) then (if (Int.tmod (wrap64 ((Int.tmod a2 (bt119.1.length : Int)) + (bt119.1.length : Int))) (bt119.1.length : Int)) ≤ (bt119.1.length : Int) then ((command_Decode.f (bt119.1.take ((Int.tmod (wrap64 ((Int.tmod a2 (bt119.1.length : Int)) + (bt119.1.length : Int))) (bt119.1.length : Int)) : Int).toNat)).bind fun bt128 => ((transeptplain_CopyBytes.f bt119.1).bind fun t138 => (if t138.length < 140737488355328 then ((command_Decode.f (t138 ++ [0])).bind fun bt144 => ((transeptlaw13_num.f bt128.2.2.2.2.2.2).bind fun t154 => (if t154 = 8 then (if bt128.2.2.2.2.2.1 = 0 then (if bt128.1 = 0 then ((transeptlaw13_num.f bt144.2.2.2.2.2.2).bind fun t155 => (some (t155 == 23))) else (none)) else (none)) else (none)))) else (none)))) else (none)) else (none))) else (some ((bt119.1.length : Int) == 0))))) else (none))) = some r := h
  clear h
  replace H := Option.bind_eq_some_iff.mp H
  obtain ⟨t118, A40, H⟩ := H
  replace H : (if t118 = true then ((command_Encode.f a0_0 a0_1 a0_2 a0_3 l0_4 a1).bind fun bt119 => ((transeptlaw13_num.f bt119.2).bind fun t123 => (if t123 = 0 then (if (bt119.1.length : Int) = 0 then (none) else (if 0 ≤ (Int.tmod (wrap64 ((Int.tmod a2 (bt119.1.length : Int)) + (bt119.1.length : Int))) (bt119.1.length : Int)) then (if (Int.tmod (wrap64 ((Int.tmod a2 (bt119.1.length : Int)) + (bt119.1.length : Int))) (bt119.1.length : Int)) ≤ (bt119.1.length : Int) then ((command_Decode.f (bt119.1.take ((Int.tmod (wrap64 ((Int.tmod a2 (bt119.1.length : Int)) + (bt119.1.length : Int))) (bt119.1.length : Int)) : Int).toNat)).bind fun bt128 => ((transeptplain_CopyBytes.f bt119.1).bind fun t138 => (if t138.length < 140737488355328 then ((command_Decode.f (t138 ++ [0])).bind fun bt144 => ((transeptlaw13_num.f bt128.2.2.2.2.2.2).bind fun t154 => (if t154 = 8 then (if bt128.2.2.2.2.2.1 = 0 then (if bt128.1 = 0 then ((transeptlaw13_num.f bt144.2.2.2.2.2.2).bind fun t155 => (some (t155 == 23))) else (none)) else (none)) else (none)))) else (none)))) else (none)) else (none))) else (some ((bt119.1.length : Int) == 0))))) else (none)) = some r := H
  have A4 := Aside0.mk A40
  clear A40
  by_cases c5 : t118 = true
  · subst c5
    have H1 : ((command_Encode.f a0_0 a0_1 a0_2 a0_3 l0_4 a1).bind fun bt119 => ((transeptlaw13_num.f bt119.2).bind fun t123 => (if t123 = 0 then (if (bt119.1.length : Int) = 0 then (none) else (if 0 ≤ (Int.tmod (wrap64 ((Int.tmod a2 (bt119.1.length : Int)) + (bt119.1.length : Int))) (bt119.1.length : Int)) then (if (Int.tmod (wrap64 ((Int.tmod a2 (bt119.1.length : Int)) + (bt119.1.length : Int))) (bt119.1.length : Int)) ≤ (bt119.1.length : Int) then ((command_Decode.f (bt119.1.take ((Int.tmod (wrap64 ((Int.tmod a2 (bt119.1.length : Int)) + (bt119.1.length : Int))) (bt119.1.length : Int)) : Int).toNat)).bind fun bt128 => ((transeptplain_CopyBytes.f bt119.1).bind fun t138 => (if t138.length < 140737488355328 then ((command_Decode.f (t138 ++ [0])).bind fun bt144 => ((transeptlaw13_num.f bt128.2.2.2.2.2.2).bind fun t154 => (if t154 = 8 then (if bt128.2.2.2.2.2.1 = 0 then (if bt128.1 = 0 then ((transeptlaw13_num.f bt144.2.2.2.2.2.2).bind fun t155 => (some (t155 == 23))) else (none)) else (none)) else (none)))) else (none)))) else (none)) else (none))) else (some ((bt119.1.length : Int) == 0))))) = some r := by rw [if_pos rfl] at H; exact H
    clear H
    have H := H1
    clear H1
    replace H := Option.bind_eq_some_iff.mp H
    obtain ⟨⟨t119, t122⟩, A60, H⟩ := H
    replace H : ((transeptlaw13_num.f t122).bind fun t123 => (if t123 = 0 then (if (t119.length : Int) = 0 then (none) else (if 0 ≤ (Int.tmod (wrap64 ((Int.tmod a2 (t119.length : Int)) + (t119.length : Int))) (t119.length : Int)) then (if (Int.tmod (wrap64 ((Int.tmod a2 (t119.length : Int)) + (t119.length : Int))) (t119.length : Int)) ≤ (t119.length : Int) then ((command_Decode.f (t119.take ((Int.tmod (wrap64 ((Int.tmod a2 (t119.length : Int)) + (t119.length : Int))) (t119.length : Int)) : Int).toNat)).bind fun bt128 => ((transeptplain_CopyBytes.f t119).bind fun t138 => (if t138.length < 140737488355328 then ((command_Decode.f (t138 ++ [0])).bind fun bt144 => ((transeptlaw13_num.f bt128.2.2.2.2.2.2).bind fun t154 => (if t154 = 8 then (if bt128.2.2.2.2.2.1 = 0 then (if bt128.1 = 0 then ((transeptlaw13_num.f bt144.2.2.2.2.2.2).bind fun t155 => (some (t155 == 23))) else (none)) else (none)) else (none)))) else (none)))) else (none)) else (none))) else (some ((t119.length : Int) == 0)))) = some r := H
    have A6 := Aside0.mk A60
    clear A60
    replace H := Option.bind_eq_some_iff.mp H
    obtain ⟨t123, A70, H⟩ := H
    replace H : (if t123 = 0 then (if (t119.length : Int) = 0 then (none) else (if 0 ≤ (Int.tmod (wrap64 ((Int.tmod a2 (t119.length : Int)) + (t119.length : Int))) (t119.length : Int)) then (if (Int.tmod (wrap64 ((Int.tmod a2 (t119.length : Int)) + (t119.length : Int))) (t119.length : Int)) ≤ (t119.length : Int) then ((command_Decode.f (t119.take ((Int.tmod (wrap64 ((Int.tmod a2 (t119.length : Int)) + (t119.length : Int))) (t119.length : Int)) : Int).toNat)).bind fun bt128 => ((transeptplain_CopyBytes.f t119).bind fun t138 => (if t138.length < 140737488355328 then ((command_Decode.f (t138 ++ [0])).bind fun bt144 => ((transeptlaw13_num.f bt128.2.2.2.2.2.2).bind fun t154 => (if t154 = 8 then (if bt128.2.2.2.2.2.1 = 0 then (if bt128.1 = 0 then ((transeptlaw13_num.f bt144.2.2.2.2.2.2).bind fun t155 => (some (t155 == 23))) else (none)) else (none)) else (none)))) else (none)))) else (none)) else (none))) else (some ((t119.length : Int) == 0))) = some r := H
    have A7 := Aside0.mk A70
    clear A70
    by_cases c8 : t123 = 0
    · rw [if_pos c8] at H
      have c8b0 : (t123 == 0) = true := beq_iff_eq.mpr c8
      have c8b1 : (t123 != 0) = false := bne_eq_false_iff_eq.mpr c8
      clear c8
      by_cases c9 : (t119.length : Int) = 0
      · rw [if_pos c9] at H
        exact absurd H (by simp)
      · rw [if_neg c9] at H
        have c9b0 : ((t119.length : Int) == 0) = false := beq_eq_false_iff_ne.mpr c9
        have c9b1 : ((t119.length : Int) != 0) = true := bne_iff_ne.mpr c9
        have c9b2 : ¬ (t119 = []) := fun h_ => c9 (by rw [h_]; rfl)
        obtain ⟨ji10, hji10⟩ : ∃ j_ : Int, (Int.tmod (wrap64 ((Int.tmod a2 (t119.length : Int)) + (t119.length : Int))) (t119.length : Int)) = j_ := ⟨_, rfl⟩
        replace H : (if 0 ≤ (ji10) then (if (ji10) ≤ (t119.length : Int) then ((command_Decode.f (t119.take ((ji10) : Int).toNat)).bind fun bt128 => ((transeptplain_CopyBytes.f t119).bind fun t138 => (if t138.length < 140737488355328 then ((command_Decode.f (t138 ++ [0])).bind fun bt144 => ((transeptlaw13_num.f bt128.2.2.2.2.2.2).bind fun t154 => (if t154 = 8 then (if bt128.2.2.2.2.2.1 = 0 then (if bt128.1 = 0 then ((transeptlaw13_num.f bt144.2.2.2.2.2.2).bind fun t155 => (some (t155 == 23))) else (none)) else (none)) else (none)))) else (none)))) else (none)) else (none)) = some r := by first | (rw [hji10] at H; exact H) | (simp only [hji10] at H ⊢; exact H)
        (try rw [hji10] at A4)
        (try rw [hji10] at A6)
        (try rw [hji10] at A7)
        by_cases c11 : 0 ≤ (ji10)
        · rw [if_pos c11] at H
          have c11b0 := eq_true c11
          have c11b1 : decide (0 ≤ (ji10)) = true := decide_eq_true c11
          clear c11
          by_cases c12 : (ji10) ≤ (t119.length : Int)
          · rw [if_pos c12] at H
            have c12b0 := eq_true c12
            have c12b1 : decide ((ji10) ≤ (t119.length : Int)) = true := decide_eq_true c12
            clear c12
            obtain ⟨y124, hy124⟩ : ∃ y_ : List Int, y_ = (t119.take ((ji10) : Int).toNat) := ⟨_, rfl⟩
            replace H : ((command_Decode.f y124).bind fun bt128 => ((transeptplain_CopyBytes.f t119).bind fun t138 => (if t138.length < 140737488355328 then ((command_Decode.f (t138 ++ [0])).bind fun bt144 => ((transeptlaw13_num.f bt128.2.2.2.2.2.2).bind fun t154 => (if t154 = 8 then (if bt128.2.2.2.2.2.1 = 0 then (if bt128.1 = 0 then ((transeptlaw13_num.f bt144.2.2.2.2.2.2).bind fun t155 => (some (t155 == 23))) else (none)) else (none)) else (none)))) else (none)))) = some r := by first | (rw [hy124]; with_reducible exact H) | (have H2_ := (Option.bind_some _ _).symm.trans H; rw [hy124]; with_reducible exact H2_) | (have H2_ := (Option.bind_some _ _).symm.trans H; with_reducible exact H2_) | with_reducible exact H | (rw [hy124]; exact H) | exact H
            have Ny124 := Aside0.mk hy124
            clear hy124
            replace H := Option.bind_eq_some_iff.mp H
            obtain ⟨⟨t128, t129, t130, t131, t132, t135, t136⟩, A130, H⟩ := H
            replace H : ((transeptplain_CopyBytes.f t119).bind fun t138 => (if t138.length < 140737488355328 then ((command_Decode.f (t138 ++ [0])).bind fun bt144 => ((transeptlaw13_num.f t136).bind fun t154 => (if t154 = 8 then (if t135 = 0 then (if t128 = 0 then ((transeptlaw13_num.f bt144.2.2.2.2.2.2).bind fun t155 => (some (t155 == 23))) else (none)) else (none)) else (none)))) else (none))) = some r := H
            have A13 := Aside0.mk A130
            clear A130
            replace H := Option.bind_eq_some_iff.mp H
            obtain ⟨t138, A140, H⟩ := H
            replace H : (if t138.length < 140737488355328 then ((command_Decode.f (t138 ++ [0])).bind fun bt144 => ((transeptlaw13_num.f t136).bind fun t154 => (if t154 = 8 then (if t135 = 0 then (if t128 = 0 then ((transeptlaw13_num.f bt144.2.2.2.2.2.2).bind fun t155 => (some (t155 == 23))) else (none)) else (none)) else (none)))) else (none)) = some r := H
            have A14 := Aside0.mk A140
            clear A140
            by_cases c15 : t138.length < 140737488355328
            · rw [if_pos c15] at H
              have LMc15 := Aside0.mk c15
              clear c15
              obtain ⟨y141, hy141⟩ : ∃ y_ : List Int, y_ = (t138 ++ [0]) := ⟨_, rfl⟩
              replace H : ((command_Decode.f y141).bind fun bt144 => ((transeptlaw13_num.f t136).bind fun t154 => (if t154 = 8 then (if t135 = 0 then (if t128 = 0 then ((transeptlaw13_num.f bt144.2.2.2.2.2.2).bind fun t155 => (some (t155 == 23))) else (none)) else (none)) else (none)))) = some r := by first | (rw [hy141]; with_reducible exact H) | (have H2_ := (Option.bind_some _ _).symm.trans H; rw [hy141]; with_reducible exact H2_) | (have H2_ := (Option.bind_some _ _).symm.trans H; with_reducible exact H2_) | with_reducible exact H | (rw [hy141]; exact H) | exact H
              have Ny141 := Aside0.mk hy141
              clear hy141
              replace H := Option.bind_eq_some_iff.mp H
              obtain ⟨⟨t144, t145, t146, t147, t148, t151, t152⟩, A160, H⟩ := H
              replace H : ((transeptlaw13_num.f t136).bind fun t154 => (if t154 = 8 then (if t135 = 0 then (if t128 = 0 then ((transeptlaw13_num.f t152).bind fun t155 => (some (t155 == 23))) else (none)) else (none)) else (none))) = some r := H
              have A16 := Aside0.mk A160
              clear A160
              replace H := Option.bind_eq_some_iff.mp H
              obtain ⟨t154, A170, H⟩ := H
              replace H : (if t154 = 8 then (if t135 = 0 then (if t128 = 0 then ((transeptlaw13_num.f t152).bind fun t155 => (some (t155 == 23))) else (none)) else (none)) else (none)) = some r := H
              have A17 := Aside0.mk A170
              clear A170
              by_cases c18 : t154 = 8
              · rw [if_pos c18] at H
                have c18b0 : (t154 == 8) = true := beq_iff_eq.mpr c18
                have c18b1 : (t154 != 8) = false := bne_eq_false_iff_eq.mpr c18
                clear c18
                by_cases c19 : t135 = 0
                · rw [if_pos c19] at H
                  have c19b0 : (t135 == 0) = true := beq_iff_eq.mpr c19
                  have c19b1 : (t135 != 0) = false := bne_eq_false_iff_eq.mpr c19
                  clear c19
                  by_cases c20 : t128 = 0
                  · rw [if_pos c20] at H
                    have c20b0 : (t128 == 0) = true := beq_iff_eq.mpr c20
                    have c20b1 : (t128 != 0) = false := bne_eq_false_iff_eq.mpr c20
                    clear c20
                    replace H := Option.bind_eq_some_iff.mp H
                    obtain ⟨t155, A210, H⟩ := H
                    replace H : (some (t155 == 23)) = some r := H
                    have A21 := Aside0.mk A210
                    clear A210
                    obtain rfl := Option.some.inj H
                    go_enter Try.func6, Try.ntmps6
                    go_wp2_with (first | ((with_reducible refine gate_dst (N := 3) rfl ?_); refine box_event ?hg (N := 3) ?hd (cs := #[.int .i64 a0_0, .int .i64 a0_1, .int .i64 a0_2, .int .i64 a0_3, .slice A0_4 l0_4.length c0_4]) (t := 24) ?hr ?_; (case hd => rfl); (case hg => rfl); (case hr => first | (go_simp; done) | (go_simp; rfl)); intro gb117 hg w22 hbox hb; have n0_ := Aside0.mk (below_step (by repeat (first | (with_reducible first | exact HB.out | apply below_alloc | apply pw_below_drewN | apply below_drew1) | exact HB.out)) hb); have n1_ := Aside0.mk (hbox); have n2_ := Aside0.mk ((by rw [hg]; exact (below_size (by repeat (first | (with_reducible first | exact HB.out | apply below_alloc | apply pw_below_drewN | apply below_drew1) | exact HB.out))) : w.heap.size ≤ gb117)); have n3_ := Aside0.mk ((by rw [hg]; exact (below_size (by repeat (first | (with_reducible first | exact HB.out | apply below_alloc | apply pw_below_drewN | apply below_drew1) | exact HB.out))) : w.heap.size ≤ gb117)); clear HB; have HB := n0_; have BK117 := n1_; have GW117 := n2_; have GE117 := n3_; clear n0_ n1_ n2_ n3_; clear hb hbox hg) | ((with_reducible refine gate_callee (f := 8) rfl ?_); refine goesL_ (some 16) rfl rfl Try.func8 (by kernel_rfl) rfl #[] rfl (by (try simp only [List.map_toArray, List.map_cons, List.map_nil]); first | done | rfl | (simp only [List.length_drop, List.length_take]; rfl)) ?_; (with_reducible refine (transeptlaw13_alive.calls k  true _ A4.out).mono ?_); rintro e w23 ⟨rfl, hb⟩; refine ⟨_, rfl, ?_⟩; have n0_ := Aside0.mk (blk_below (g := gb117) (o := .cells #[.int .i64 a0_0, .int .i64 a0_1, .int .i64 a0_2, .int .i64 a0_3, .slice A0_4 l0_4.length c0_4] 24 (0, 0)) (by (with_reducible repeat (first | refine blk_drewN ?_ _ | refine blk_drew ?_ | refine blk_alloc ?_ _)); exact BK117.out) hb); have n1_ := Aside0.mk (below_step (by repeat (first | (with_reducible first | exact HB.out | apply below_alloc | apply pw_below_drewN | apply below_drew1 | refine below_set ?_ GE117.out) | exact HB.out)) hb); clear BK117; clear HB; have BK117 := n0_; have HB := n1_; clear n0_ n1_; (try clear hb); (try clear hb2); (try clear hk); (try clear hi); have hcz24_0 : w23.cell? ⟨gb117, 0, none⟩ = some (.int .i64 a0_0) := (blk_cell BK117.out 0).trans rfl; have hcz24_1 : w23.cell? ⟨gb117, 1, none⟩ = some (.int .i64 a0_1) := (blk_cell BK117.out 1).trans rfl; have hcz24_2 : w23.cell? ⟨gb117, 2, none⟩ = some (.int .i64 a0_2) := (blk_cell BK117.out 2).trans rfl; have hcz24_3 : w23.cell? ⟨gb117, 3, none⟩ = some (.int .i64 a0_3) := (blk_cell BK117.out 3).trans rfl; have hcz24_4 : w23.cell? ⟨gb117, 4, none⟩ = some (.slice A0_4 l0_4.length c0_4) := (blk_cell BK117.out 4).trans rfl; have hfz24_0 := blk_frozen BK117.out 0; have hfz24_1 := blk_frozen BK117.out 1; have hfz24_2 := blk_frozen BK117.out 2; have hfz24_3 := blk_frozen BK117.out 3; have hfz24_4 := blk_frozen BK117.out 4) | ((with_reducible refine gate_callee (f := 9) rfl ?_); refine goesL_ (some 21) rfl rfl Try.func9 (by kernel_rfl) rfl #[.agg #[.int .i64 a0_0, .int .i64 a0_1, .int .i64 a0_2, .int .i64 a0_3, .slice A0_4 l0_4.length c0_4], .int .i64 a1] rfl (by (try simp only [List.map_toArray, List.map_cons, List.map_nil]); first | done | rfl | (simp only [List.length_drop, List.length_take]; rfl)) ?_; (with_reducible refine (command_Encode.calls a0_0 a0_1 a0_2 a0_3 _ _ l0_4 a1 t119 t122 _ ?side1 ?side2 A6.out).mono ?_); (case side1 => repeat (first | exact (Kd.C_below HR0_4.out HB.out) | (with_reducible refine Kd.C_alloc ?_ _) | (with_reducible refine Kd.C_drewN ?_ _) | (with_reducible refine Kd.C_drew ?_))); (case side2 => exact HC0_4.out); rintro e w25 ⟨v120, rfl, ho0, hb⟩; refine ⟨_, rfl, ?_⟩; have n0_ := Aside0.mk (Kd.R_lower ho0 (below_size (by repeat (first | (with_reducible first | exact HB.out | apply below_alloc | apply pw_below_drewN | apply below_drew1 | refine below_set ?_ GE117.out) | exact HB.out)))); have n1_ := Aside0.mk (blk_below (g := gb117) (o := .cells #[.int .i64 a0_0, .int .i64 a0_1, .int .i64 a0_2, .int .i64 a0_3, .slice A0_4 l0_4.length c0_4] 24 (0, 0)) (by (with_reducible repeat (first | refine blk_drewN ?_ _ | refine blk_drew ?_ | refine blk_alloc ?_ _)); exact BK117.out) hb); have n2_ := Aside0.mk (below_step (by repeat (first | (with_reducible first | exact HB.out | apply below_alloc | apply pw_below_drewN | apply below_drew1 | refine below_set ?_ GE117.out) | exact HB.out)) hb); clear BK117; clear HB; have HO121 := n0_; have BK117 := n1_; have HB := n2_; clear n0_ n1_ n2_; (try clear hb); (try clear hb2); (try clear hk); (try clear hi); (try clear ho0)) | ((with_reducible refine gate_callee (f := 10) rfl ?_); refine goesL_ (some 25) rfl rfl Try.func10 (by kernel_rfl) rfl #[.int .i64 t122] rfl (by (try simp only [List.map_toArray, List.map_cons, List.map_nil]); first | done | rfl | (simp only [List.length_drop, List.length_take]; rfl)) ?_; (with_reducible refine (transeptlaw13_num.calls t122 t123 _ A7.out).mono ?_); rintro e w' ⟨rfl, ⟨nd, rfl⟩⟩; refine ⟨_, rfl, ?_⟩; (try (rw [drewN_self w25]; generalize hq_ : World.drewN w25 _ = w25; have n0_ : Aside0 (Kd.R (Kd.int .u8) 5 w25 w.heap.size (fun _ => True) v120 t119) := ⟨by rw [← hq_]; exact (by (with_reducible repeat (first | apply Kd.R_alloc | apply Kd.R_drewN | apply Kd.R_drew)); exact HO121.out)⟩; have n1_ : Aside0 (w25.heap[gb117]? = some (.cells #[.int .i64 a0_0, .int .i64 a0_1, .int .i64 a0_2, .int .i64 a0_3, .slice A0_4 l0_4.length c0_4] 24 (0, 0))) := ⟨by rw [← hq_]; exact (by (with_reducible repeat (first | refine blk_drewN ?_ _ | refine blk_drew ?_ | refine blk_alloc ?_ _)); exact BK117.out)⟩; have n2_ : Aside0 (Below w.heap.size w w25) := ⟨by rw [← hq_]; exact (by repeat (first | (with_reducible first | exact HB.out | apply below_alloc | apply pw_below_drewN | apply below_drew1 | refine below_set ?_ GE117.out) | exact HB.out))⟩; clear HO121 BK117 HB hq_; have HO121 := n0_; have BK117 := n1_; have HB := n2_; clear n0_ n1_ n2_)); obtain ⟨Ao26, co26, eo26⟩ := Kd.R_slice HO121.out; subst eo26; have q27 : ((ji10) : Int) ≤ ((t119.length : Int) : Int) := of_decide_eq_true (by first | (with_reducible assumption) | assumption); obtain ⟨i027, hi027, _, hsz27, _⟩ := info_parts info5; have hroom27 : t119.length ≤ co26 := (Kd.R_reads' HO121.out).2.1; have hC27 : Kd.C (Kd.int .u8) _ Ao26 t119.length t119 := (Kd.R_reads' HO121.out).2.2; have hcut27 := cut_to (P := Try.prog) 26 5 .i64 Try.underlying26 hi027 Ao26 t119.length co26 (ji10) (of_decide_eq_true (by first | (with_reducible assumption) | assumption)) q27 hroom27; have hr27 := Kd.C_take (m := ((ji10) : Int).toNat) hC27 (by omega); have hy27 : y124.length = ((ji10) : Int).toNat := (by rw [Ny124.out, List.length_take]; omega); rw [← Ny124.out] at hr27; rw [← hy27] at hcut27; have HR127 := Aside0.mk hr27; have HC127 := Aside0.mk (show y124.length ≤ co26 from by omega); clear hr27 hC27 hroom27 hi027 hsz27; have KY27 := Aside0.mk hy27; clear hy27; have KL27 := Aside0.mk (show ((ji10) : Int).toNat ≤ t119.length from by omega); replace q27 := eq_true q27) | ((with_reducible refine gate_callee (f := 14) rfl ?_); refine goesL_ (some 44) rfl rfl Try.func14 (by kernel_rfl) rfl #[.slice Ao26 y124.length co26] rfl (by (try simp only [List.map_toArray, List.map_cons, List.map_nil]); first | done | rfl | (simp only [List.length_drop, List.length_take]; rfl)) ?_; (with_reducible refine (command_Decode.calls _ _ y124 t128 t129 t130 t131 t132 t135 t136 _ ?side1 ?side2 A13.out).mono ?_); (case side1 => repeat (first | exact (by repeat (first | (with_reducible exact HR127.out) | (with_reducible refine Kd.C_alloc ?_ _) | (with_reducible refine Kd.C_drewN ?_ _) | (with_reducible refine Kd.C_drew ?_) | exact HR127.out)) | (with_reducible refine Kd.C_alloc ?_ _) | (with_reducible refine Kd.C_drewN ?_ _) | (with_reducible refine Kd.C_drew ?_))); (case side2 => exact HC127.out); rintro e w28 ⟨v133, rfl, ho0, hb⟩; refine ⟨_, rfl, ?_⟩; have n0_ := Aside0.mk (Kd.R_below (by (with_reducible repeat (first | apply Kd.R_alloc | apply Kd.R_drewN | apply Kd.R_drew)); exact HO121.out) hb); have n1_ := Aside0.mk (Kd.R_lower ho0 (below_size (by repeat (first | (with_reducible first | exact HB.out | apply below_alloc | apply pw_below_drewN | apply below_drew1 | refine below_set ?_ GE117.out) | exact HB.out)))); have n2_ := Aside0.mk (blk_below (g := gb117) (o := .cells #[.int .i64 a0_0, .int .i64 a0_1, .int .i64 a0_2, .int .i64 a0_3, .slice A0_4 l0_4.length c0_4] 24 (0, 0)) (by (with_reducible repeat (first | refine blk_drewN ?_ _ | refine blk_drew ?_ | refine blk_alloc ?_ _)); exact BK117.out) hb); have n3_ := Aside0.mk (Kd.C_below (by repeat (first | (with_reducible exact HR127.out) | (with_reducible refine Kd.C_alloc ?_ _) | (with_reducible refine Kd.C_drewN ?_ _) | (with_reducible refine Kd.C_drew ?_) | exact HR127.out)) hb); have n4_ := Aside0.mk (below_step (by repeat (first | (with_reducible first | exact HB.out | apply below_alloc | apply pw_below_drewN | apply below_drew1 | refine below_set ?_ GE117.out) | exact HB.out)) hb); clear HO121; clear BK117; clear HR127; clear HB; have HO121 := n0_; have HO134 := n1_; have BK117 := n2_; have HR127 := n3_; have HB := n4_; clear n0_ n1_ n2_ n3_ n4_; (try clear hb); (try clear hb2); (try clear hk); (try clear hi); (try clear ho0)) | ((with_reducible refine gate_dst (N := 9) rfl ?_); refine box_event ?hg (N := 9) ?hd (cs := #[.int .i64 0, .int .i64 0, .int .i64 0, .int .i64 0, .slice none 0 0]) (t := 24) ?hr ?_; (case hd => rfl); (case hg => rfl); (case hr => first | (go_simp; done) | (go_simp; rfl)); intro gb137 hg w29 hbox hb; have n0_ := Aside0.mk (Kd.R_below (by (with_reducible repeat (first | apply Kd.R_alloc | apply Kd.R_drewN | apply Kd.R_drew)); exact HO121.out) hb); have n1_ := Aside0.mk (Kd.R_below (by (with_reducible repeat (first | apply Kd.R_alloc | apply Kd.R_drewN | apply Kd.R_drew)); exact HO134.out) hb); have n2_ := Aside0.mk (blk_below (g := gb117) (o := .cells #[.int .i64 a0_0, .int .i64 a0_1, .int .i64 a0_2, .int .i64 a0_3, .slice A0_4 l0_4.length c0_4] 24 (0, 0)) (by (with_reducible repeat (first | refine blk_drewN ?_ _ | refine blk_drew ?_ | refine blk_alloc ?_ _)); exact BK117.out) hb); have n3_ := Aside0.mk (Kd.C_below (by repeat (first | (with_reducible exact HR127.out) | (with_reducible refine Kd.C_alloc ?_ _) | (with_reducible refine Kd.C_drewN ?_ _) | (with_reducible refine Kd.C_drew ?_) | exact HR127.out)) hb); have n4_ := Aside0.mk (below_step (by repeat (first | (with_reducible first | exact HB.out | apply below_alloc | apply pw_below_drewN | apply below_drew1 | refine below_set ?_ GE117.out) | exact HB.out)) hb); have n5_ := Aside0.mk (hbox); have n6_ := Aside0.mk ((by rw [hg]; exact (below_size (by repeat (first | (with_reducible first | exact HB.out | apply below_alloc | apply pw_below_drewN | apply below_drew1 | refine below_set ?_ GE117.out) | exact HB.out))) : w.heap.size ≤ gb137)); have n7_ := Aside0.mk ((by rw [hg]; exact (below_size (by repeat (first | (with_reducible first | exact HB.out | apply below_alloc | apply pw_below_drewN | apply below_drew1 | refine below_set ?_ GE117.out) | exact HB.out))) : w.heap.size ≤ gb137)); have n8_ := Aside0.mk ((by rw [hg]; exact Nat.ne_of_lt (blk_lt (g := gb117) (o := .cells #[.int .i64 a0_0, .int .i64 a0_1, .int .i64 a0_2, .int .i64 a0_3, .slice A0_4 l0_4.length c0_4] 24 (0, 0)) (by (with_reducible repeat (first | refine blk_drewN ?_ _ | refine blk_drew ?_ | refine blk_alloc ?_ _)); exact BK117.out)) : gb117 ≠ gb137)); have n9_ := Aside0.mk ((by rw [hg]; exact Nat.ne_of_gt (blk_lt (g := gb117) (o := .cells #[.int .i64 a0_0, .int .i64 a0_1, .int .i64 a0_2, .int .i64 a0_3, .slice A0_4 l0_4.length c0_4] 24 (0, 0)) (by (with_reducible repeat (first | refine blk_drewN ?_ _ | refine blk_drew ?_ | refine blk_alloc ?_ _)); exact BK117.out)) : gb137 ≠ gb117)); clear HO121; clear HO134; clear BK117; clear HR127; clear HB; have HO121 := n0_; have HO134 := n1_; have BK117 := n2_; have HR127 := n3_; have HB := n4_; have BK137 := n5_; have GW137 := n6_; have GE137 := n7_; have NB117_137 := n8_; have NB137_117 := n9_; clear n0_ n1_ n2_ n3_ n4_ n5_ n6_ n7_ n8_ n9_; clear hb hbox hg; have hnb30 := NB137_117.out; have hnc30 := NB117_137.out; have hcz31_0 : w29.cell? ⟨gb137, 0, none⟩ = some (.int .i64 0) := (blk_cell BK137.out 0).trans rfl; have hcz31_1 : w29.cell? ⟨gb137, 1, none⟩ = some (.int .i64 0) := (blk_cell BK137.out 1).trans rfl; have hcz31_2 : w29.cell? ⟨gb137, 2, none⟩ = some (.int .i64 0) := (blk_cell BK137.out 2).trans rfl; have hcz31_3 : w29.cell? ⟨gb137, 3, none⟩ = some (.int .i64 0) := (blk_cell BK137.out 3).trans rfl; have hcz31_4 : w29.cell? ⟨gb137, 4, none⟩ = some (.slice none 0 0) := (blk_cell BK137.out 4).trans rfl; have hfz31_0 := blk_frozen BK137.out 0; have hfz31_1 := blk_frozen BK137.out 1; have hfz31_2 := blk_frozen BK137.out 2; have hfz31_3 := blk_frozen BK137.out 3; have hfz31_4 := blk_frozen BK137.out 4; obtain ⟨Ao32, co32, eo32⟩ := Kd.R_slice HO134.out; subst eo32) | ((with_reducible refine gate_callee (f := 11) rfl ?_); refine goesL_ (some 49) rfl rfl Try.func11 (by kernel_rfl) rfl #[.slice Ao26 t119.length co26] rfl (by (try simp only [List.map_toArray, List.map_cons, List.map_nil]); first | done | rfl | (simp only [List.length_drop, List.length_take]; rfl)) ?_; (with_reducible refine (transeptplain_CopyBytes.calls _ _ t119 t138 _ ?side1 ?side2 A14.out).mono ?_); (case side1 => refine (Kd.R_reads' (e := 5) (base := w.heap.size) (ok := fun k_ => True) (n := t119.length) (c := co26) ?_).2.2; exact (by (with_reducible repeat (first | apply Kd.R_alloc | apply Kd.R_drewN | apply Kd.R_drew)); exact (Kd.R_mono (Kd.R_far (p := ⟨gb137, 4, none⟩) (Kd.R_far (p := ⟨gb137, 3, none⟩) (Kd.R_far (p := ⟨gb137, 2, none⟩) (Kd.R_far (p := ⟨gb137, 1, none⟩) (Kd.R_far (p := ⟨gb137, 0, none⟩) (Kd.R_types HO121.out BK137.out (by decide)) (fun _ hk => hk.2) (.int .i64 t128)) (fun _ hk => hk.2) (.int .i64 t129)) (fun _ hk => hk.2) (.int .i64 t130)) (fun _ hk => hk.2) (.int .i64 t131)) (fun _ hk => hk.2) (.slice Ao32 t132.length co32)) (fun _ h_ => h_.1)))); (case side2 => exact (Kd.R_reads' HO121.out).2.1); rintro e w33 ⟨v139, rfl, ho0, hb⟩; refine ⟨_, rfl, ?_⟩; have n0_ := Aside0.mk (Kd.R_elder' (by (with_reducible repeat (first | apply Kd.R_alloc | apply Kd.R_drewN | apply Kd.R_drew)); exact (Kd.R_mono (Kd.R_far (p := ⟨gb137, 4, none⟩) (Kd.R_far (p := ⟨gb137, 3, none⟩) (Kd.R_far (p := ⟨gb137, 2, none⟩) (Kd.R_far (p := ⟨gb137, 1, none⟩) (Kd.R_far (p := ⟨gb137, 0, none⟩) (Kd.R_types HO121.out BK137.out (by decide)) (fun _ hk => hk.2) (.int .i64 t128)) (fun _ hk => hk.2) (.int .i64 t129)) (fun _ hk => hk.2) (.int .i64 t130)) (fun _ hk => hk.2) (.int .i64 t131)) (fun _ hk => hk.2) (.slice Ao32 t132.length co32)) (fun _ h_ => h_.1))) (Kd.R_base ho0) hb); have n1_ := Aside0.mk (Kd.R_below (by (with_reducible repeat (first | apply Kd.R_alloc | apply Kd.R_drewN | apply Kd.R_drew)); exact (Kd.R_mono (Kd.R_far (p := ⟨gb137, 4, none⟩) (Kd.R_far (p := ⟨gb137, 3, none⟩) (Kd.R_far (p := ⟨gb137, 2, none⟩) (Kd.R_far (p := ⟨gb137, 1, none⟩) (Kd.R_far (p := ⟨gb137, 0, none⟩) (Kd.R_types HO134.out BK137.out (by decide)) (fun _ hk => hk.2) (.int .i64 t128)) (fun _ hk => hk.2) (.int .i64 t129)) (fun _ hk => hk.2) (.int .i64 t130)) (fun _ hk => hk.2) (.int .i64 t131)) (fun _ hk => hk.2) (.slice Ao32 t132.length co32)) (fun _ h_ => h_.1))) hb); have n2_ := Aside0.mk (Kd.R_lower (Kd.R_new' ho0 (Kd.R_lt (by (with_reducible repeat (first | apply Kd.R_alloc | apply Kd.R_drewN | apply Kd.R_drew)); exact (Kd.R_mono (Kd.R_far (p := ⟨gb137, 4, none⟩) (Kd.R_far (p := ⟨gb137, 3, none⟩) (Kd.R_far (p := ⟨gb137, 2, none⟩) (Kd.R_far (p := ⟨gb137, 1, none⟩) (Kd.R_far (p := ⟨gb137, 0, none⟩) (Kd.R_types HO121.out BK137.out (by decide)) (fun _ hk => hk.2) (.int .i64 t128)) (fun _ hk => hk.2) (.int .i64 t129)) (fun _ hk => hk.2) (.int .i64 t130)) (fun _ hk => hk.2) (.int .i64 t131)) (fun _ hk => hk.2) (.slice Ao32 t132.length co32)) (fun _ h_ => h_.1))))) (below_size (by repeat (first | (with_reducible first | exact HB.out | apply below_alloc | apply pw_below_drewN | apply below_drew1 | refine below_set ?_ GE117.out | refine below_set ?_ GE137.out) | exact HB.out)))); have n3_ := Aside0.mk (blk_below (g := gb117) (o := .cells #[.int .i64 a0_0, .int .i64 a0_1, .int .i64 a0_2, .int .i64 a0_3, .slice A0_4 l0_4.length c0_4] 24 (0, 0)) (by (with_reducible repeat (first | refine blk_drewN ?_ _ | refine blk_drew ?_ | refine blk_alloc ?_ _)); refine blk_far ?_ NB117_137.out _; (with_reducible repeat (first | refine blk_drewN ?_ _ | refine blk_drew ?_ | refine blk_alloc ?_ _)); refine blk_far ?_ NB117_137.out _; (with_reducible repeat (first | refine blk_drewN ?_ _ | refine blk_drew ?_ | refine blk_alloc ?_ _)); refine blk_far ?_ NB117_137.out _; (with_reducible repeat (first | refine blk_drewN ?_ _ | refine blk_drew ?_ | refine blk_alloc ?_ _)); refine blk_far ?_ NB117_137.out _; (with_reducible repeat (first | refine blk_drewN ?_ _ | refine blk_drew ?_ | refine blk_alloc ?_ _)); refine blk_far ?_ NB117_137.out _; (with_reducible repeat (first | refine blk_drewN ?_ _ | refine blk_drew ?_ | refine blk_alloc ?_ _)); exact BK117.out) hb); have n4_ := Aside0.mk (blk_below (g := gb137) (o := .cells #[.int .i64 t128, .int .i64 t129, .int .i64 t130, .int .i64 t131, .slice Ao32 t132.length co32] 24 (0, 0)) (by (with_reducible repeat (first | refine blk_drewN ?_ _ | refine blk_drew ?_ | refine blk_alloc ?_ _)); refine blk_put (cs := #[.int .i64 t128, .int .i64 t129, .int .i64 t130, .int .i64 t131, .slice none 0 0]) ?_ 4 _ rfl; (with_reducible repeat (first | refine blk_drewN ?_ _ | refine blk_drew ?_ | refine blk_alloc ?_ _)); refine blk_put (cs := #[.int .i64 t128, .int .i64 t129, .int .i64 t130, .int .i64 0, .slice none 0 0]) ?_ 3 _ rfl; (with_reducible repeat (first | refine blk_drewN ?_ _ | refine blk_drew ?_ | refine blk_alloc ?_ _)); refine blk_put (cs := #[.int .i64 t128, .int .i64 t129, .int .i64 0, .int .i64 0, .slice none 0 0]) ?_ 2 _ rfl; (with_reducible repeat (first | refine blk_drewN ?_ _ | refine blk_drew ?_ | refine blk_alloc ?_ _)); refine blk_put (cs := #[.int .i64 t128, .int .i64 0, .int .i64 0, .int .i64 0, .slice none 0 0]) ?_ 1 _ rfl; (with_reducible repeat (first | refine blk_drewN ?_ _ | refine blk_drew ?_ | refine blk_alloc ?_ _)); refine blk_put (cs := #[.int .i64 0, .int .i64 0, .int .i64 0, .int .i64 0, .slice none 0 0]) ?_ 0 _ rfl; (with_reducible repeat (first | refine blk_drewN ?_ _ | refine blk_drew ?_ | refine blk_alloc ?_ _)); exact BK137.out) hb); have n5_ := Aside0.mk (below_step (by repeat (first | (with_reducible first | exact HB.out | apply below_alloc | apply pw_below_drewN | apply below_drew1 | refine below_set ?_ GE117.out | refine below_set ?_ GE137.out) | exact HB.out)) hb); clear HO121; clear HO134; clear BK117; clear BK137; clear HB; have HO121 := n0_; have HO134 := n1_; have HO140 := n2_; have BK117 := n3_; have BK137 := n4_; have HB := n5_; clear n0_ n1_ n2_ n3_ n4_ n5_; (try clear hb); (try clear hb2); (try clear hk); (try clear hi); (try clear ho0)) | ((with_reducible refine gate_builtin (b := .append) (xs := #[.tmp 49, .tmp 50]) rfl ?_); at_builtin; refine Kd.R_append (Kd.int .u8) (w0 := w) w.heap.size rfl (.tmp 49) (.tmp 50) 26 5 (.int .u8 0) 1 rfl Try.underlying26 info5 rfl (by decide) (by omega) v139 t138 0 [.int .u8 0] (fun k_ => some k_ ≠ (.slice Ao26 t119.length co26 : Value).ownBlock) (fun _ => False) rfl rfl ?aP (fun _ hk => hk.elim) ?aF ?aO ?aB ?aS ?aL ?_; (case aP => exact rfl); (case aB => exact (by repeat (first | (with_reducible first | exact HB.out | apply below_alloc | apply pw_below_drewN | apply below_drew1 | refine below_set ?_ GE117.out | refine below_set ?_ GE137.out) | exact HB.out))); (case aF => exact (fun k_ hk => Kd.fresh' (Kd.R_lt (by (with_reducible repeat (first | apply Kd.R_alloc | apply Kd.R_drewN | apply Kd.R_drew)); exact HO121.out)) k_ hk)); (case aO => exact (by (with_reducible repeat (first | apply Kd.R_alloc | apply Kd.R_drewN | apply Kd.R_drew)); exact Kd.R_mono HO140.out (fun _ hk => hk.2))); (case aS => exact (below_size (by repeat (first | (with_reducible first | exact HB.out | apply below_alloc | apply pw_below_drewN | apply below_drew1 | refine below_set ?_ GE117.out | refine below_set ?_ GE137.out) | exact HB.out)))); (case aL => have := LMc15.out; omega); intro v142 w34 ho hb hg hat; rw [← Ny141.out] at ho; have n0_ := Aside0.mk (blk_grown (g := gb117) (o := .cells #[.int .i64 a0_0, .int .i64 a0_1, .int .i64 a0_2, .int .i64 a0_3, .slice A0_4 l0_4.length c0_4] 24 (0, 0)) (by (with_reducible repeat (first | refine blk_drewN ?_ _ | refine blk_drew ?_ | refine blk_alloc ?_ _)); exact BK117.out) hg (Kd.R_ne HO140.out BK117.out (by decide))); have n1_ := Aside0.mk (Kd.R_after (ok := (fun _ => True)) (by (with_reducible repeat (first | apply Kd.R_alloc | apply Kd.R_drewN | apply Kd.R_drew)); exact HO121.out) hg hat); have n2_ := Aside0.mk (Kd.R_over' (by (with_reducible repeat (first | apply Kd.R_alloc | apply Kd.R_drewN | apply Kd.R_drew)); exact HO134.out) (Kd.R_typed (by (with_reducible repeat (first | apply Kd.R_alloc | apply Kd.R_drewN | apply Kd.R_drew)); exact HO140.out)) (by decide) hg); have n3_ := Aside0.mk (blk_grown (g := gb137) (o := .cells #[.int .i64 t128, .int .i64 t129, .int .i64 t130, .int .i64 t131, .slice Ao32 t132.length co32] 24 (0, 0)) (by (with_reducible repeat (first | refine blk_drewN ?_ _ | refine blk_drew ?_ | refine blk_alloc ?_ _)); exact BK137.out) hg (Kd.R_ne HO140.out BK137.out (by decide))); have n4_ := Aside0.mk (hb); have n5_ := Aside0.mk ((show Kd.C (Kd.int .u8) w34 Ao26 y124.length y124 from by rw [Ny124.out]; exact Kd.C_take (m := ((ji10) : Int).toNat) ((Kd.R_reads' (Kd.R_after (ok := (fun _ => True)) (by (with_reducible repeat (first | apply Kd.R_alloc | apply Kd.R_drewN | apply Kd.R_drew)); exact HO121.out) hg hat)).2.2) KL27.out)); have n6_ := Aside0.mk (ho); clear BK117; clear HO121; clear HO134; clear BK137; clear HB; clear HR127; clear HO140; have BK117 := n0_; have HO121 := n1_; have HO134 := n2_; have BK137 := n3_; have HB := n4_; have HR127 := n5_; have HO143 := n6_; clear n0_ n1_ n2_ n3_ n4_ n5_ n6_; clear ho hb hg hat; obtain ⟨Ao35, co35, eo35⟩ := Kd.R_slice HO143.out; subst eo35) | ((with_reducible refine gate_callee (f := 14) rfl ?_); refine goesL_ (some 54) rfl rfl Try.func14 (by kernel_rfl) rfl #[.slice Ao35 y141.length co35] rfl (by (try simp only [List.map_toArray, List.map_cons, List.map_nil]); first | done | rfl | (simp only [List.length_drop, List.length_take]; rfl)) ?_; (with_reducible refine (command_Decode.calls _ _ y141 t144 t145 t146 t147 t148 t151 t152 _ ?side1 ?side2 A16.out).mono ?_); (case side1 => repeat (first | exact (Kd.R_reads' HO143.out).2.2 | (with_reducible refine Kd.C_alloc ?_ _) | (with_reducible refine Kd.C_drewN ?_ _) | (with_reducible refine Kd.C_drew ?_))); (case side2 => exact (Kd.R_reads' HO143.out).2.1); rintro e w36 ⟨v149, rfl, ho0, hb⟩; refine ⟨_, rfl, ?_⟩; have n0_ := Aside0.mk (Kd.R_below (by (with_reducible repeat (first | apply Kd.R_alloc | apply Kd.R_drewN | apply Kd.R_drew)); exact HO121.out) hb); have n1_ := Aside0.mk (Kd.R_elder' (by (with_reducible repeat (first | apply Kd.R_alloc | apply Kd.R_drewN | apply Kd.R_drew)); exact HO134.out) (Kd.R_base ho0) hb); have n2_ := Aside0.mk (Kd.R_below (by (with_reducible repeat (first | apply Kd.R_alloc | apply Kd.R_drewN | apply Kd.R_drew)); exact HO143.out) hb); have n3_ := Aside0.mk (Kd.R_lower (Kd.R_new' ho0 (Kd.R_lt (by (with_reducible repeat (first | apply Kd.R_alloc | apply Kd.R_drewN | apply Kd.R_drew)); exact HO134.out))) (below_size (by repeat (first | (with_reducible first | exact HB.out | apply below_alloc | apply pw_below_drewN | apply below_drew1 | refine below_set ?_ GE117.out | refine below_set ?_ GE137.out) | exact HB.out)))); have n4_ := Aside0.mk (blk_below (g := gb117) (o := .cells #[.int .i64 a0_0, .int .i64 a0_1, .int .i64 a0_2, .int .i64 a0_3, .slice A0_4 l0_4.length c0_4] 24 (0, 0)) (by (with_reducible repeat (first | refine blk_drewN ?_ _ | refine blk_drew ?_ | refine blk_alloc ?_ _)); exact BK117.out) hb); have n5_ := Aside0.mk (blk_below (g := gb137) (o := .cells #[.int .i64 t128, .int .i64 t129, .int .i64 t130, .int .i64 t131, .slice Ao32 t132.length co32] 24 (0, 0)) (by (with_reducible repeat (first | refine blk_drewN ?_ _ | refine blk_drew ?_ | refine blk_alloc ?_ _)); exact BK137.out) hb); have n6_ := Aside0.mk (Kd.C_below (by repeat (first | (with_reducible exact HR127.out) | (with_reducible refine Kd.C_alloc ?_ _) | (with_reducible refine Kd.C_drewN ?_ _) | (with_reducible refine Kd.C_drew ?_) | exact HR127.out)) hb); have n7_ := Aside0.mk (below_step (by repeat (first | (with_reducible first | exact HB.out | apply below_alloc | apply pw_below_drewN | apply below_drew1 | refine below_set ?_ GE117.out | refine below_set ?_ GE137.out) | exact HB.out)) hb); clear HO121; clear HO134; clear HO143; clear BK117; clear BK137; clear HR127; clear HB; have HO121 := n0_; have HO134 := n1_; have HO143 := n2_; have HO150 := n3_; have BK117 := n4_; have BK137 := n5_; have HR127 := n6_; have HB := n7_; clear n0_ n1_ n2_ n3_ n4_ n5_ n6_ n7_; (try clear hb); (try clear hb2); (try clear hk); (try clear hi); (try clear ho0)) | ((with_reducible refine gate_dst (N := 13) rfl ?_); refine box_event ?hg (N := 13) ?hd (cs := #[.int .i64 0, .int .i64 0, .int .i64 0, .int .i64 0, .slice none 0 0]) (t := 24) ?hr ?_; (case hd => rfl); (case hg => rfl); (case hr => first | (go_simp; done) | (go_simp; rfl)); intro gb153 hg w37 hbox hb; have n0_ := Aside0.mk (Kd.R_below (by (with_reducible repeat (first | apply Kd.R_alloc | apply Kd.R_drewN | apply Kd.R_drew)); exact HO121.out) hb); have n1_ := Aside0.mk (Kd.R_below (by (with_reducible repeat (first | apply Kd.R_alloc | apply Kd.R_drewN | apply Kd.R_drew)); exact HO134.out) hb); have n2_ := Aside0.mk (Kd.R_below (by (with_reducible repeat (first | apply Kd.R_alloc | apply Kd.R_drewN | apply Kd.R_drew)); exact HO143.out) hb); have n3_ := Aside0.mk (Kd.R_below (by (with_reducible repeat (first | apply Kd.R_alloc | apply Kd.R_drewN | apply Kd.R_drew)); exact HO150.out) hb); have n4_ := Aside0.mk (blk_below (g := gb117) (o := .cells #[.int .i64 a0_0, .int .i64 a0_1, .int .i64 a0_2, .int .i64 a0_3, .slice A0_4 l0_4.length c0_4] 24 (0, 0)) (by (with_reducible repeat (first | refine blk_drewN ?_ _ | refine blk_drew ?_ | refine blk_alloc ?_ _)); exact BK117.out) hb); have n5_ := Aside0.mk (blk_below (g := gb137) (o := .cells #[.int .i64 t128, .int .i64 t129, .int .i64 t130, .int .i64 t131, .slice Ao32 t132.length co32] 24 (0, 0)) (by (with_reducible repeat (first | refine blk_drewN ?_ _ | refine blk_drew ?_ | refine blk_alloc ?_ _)); exact BK137.out) hb); have n6_ := Aside0.mk (Kd.C_below (by repeat (first | (with_reducible exact HR127.out) | (with_reducible refine Kd.C_alloc ?_ _) | (with_reducible refine Kd.C_drewN ?_ _) | (with_reducible refine Kd.C_drew ?_) | exact HR127.out)) hb); have n7_ := Aside0.mk (below_step (by repeat (first | (with_reducible first | exact HB.out | apply below_alloc | apply pw_below_drewN | apply below_drew1 | refine below_set ?_ GE117.out | refine below_set ?_ GE137.out) | exact HB.out)) hb); have n8_ := Aside0.mk (hbox); have n9_ := Aside0.mk ((by rw [hg]; exact (below_size (by repeat (first | (with_reducible first | exact HB.out | apply below_alloc | apply pw_below_drewN | apply below_drew1 | refine below_set ?_ GE117.out | refine below_set ?_ GE137.out) | exact HB.out))) : w.heap.size ≤ gb153)); have n10_ := Aside0.mk ((by rw [hg]; exact (below_size (by repeat (first | (with_reducible first | exact HB.out | apply below_alloc | apply pw_below_drewN | apply below_drew1 | refine below_set ?_ GE117.out | refine below_set ?_ GE137.out) | exact HB.out))) : w.heap.size ≤ gb153)); have n11_ := Aside0.mk ((by rw [hg]; exact Nat.ne_of_lt (blk_lt (g := gb117) (o := .cells #[.int .i64 a0_0, .int .i64 a0_1, .int .i64 a0_2, .int .i64 a0_3, .slice A0_4 l0_4.length c0_4] 24 (0, 0)) (by (with_reducible repeat (first | refine blk_drewN ?_ _ | refine blk_drew ?_ | refine blk_alloc ?_ _)); exact BK117.out)) : gb117 ≠ gb153)); have n12_ := Aside0.mk ((by rw [hg]; exact Nat.ne_of_gt (blk_lt (g := gb117) (o := .cells #[.int .i64 a0_0, .int .i64 a0_1, .int .i64 a0_2, .int .i64 a0_3, .slice A0_4 l0_4.length c0_4] 24 (0, 0)) (by (with_reducible repeat (first | refine blk_drewN ?_ _ | refine blk_drew ?_ | refine blk_alloc ?_ _)); exact BK117.out)) : gb153 ≠ gb117)); have n13_ := Aside0.mk ((by rw [hg]; exact Nat.ne_of_lt (blk_lt (g := gb137) (o := .cells #[.int .i64 t128, .int .i64 t129, .int .i64 t130, .int .i64 t131, .slice Ao32 t132.length co32] 24 (0, 0)) (by (with_reducible repeat (first | refine blk_drewN ?_ _ | refine blk_drew ?_ | refine blk_alloc ?_ _)); exact BK137.out)) : gb137 ≠ gb153)); have n14_ := Aside0.mk ((by rw [hg]; exact Nat.ne_of_gt (blk_lt (g := gb137) (o := .cells #[.int .i64 t128, .int .i64 t129, .int .i64 t130, .int .i64 t131, .slice Ao32 t132.length co32] 24 (0, 0)) (by (with_reducible repeat (first | refine blk_drewN ?_ _ | refine blk_drew ?_ | refine blk_alloc ?_ _)); exact BK137.out)) : gb153 ≠ gb137)); clear HO121; clear HO134; clear HO143; clear HO150; clear BK117; clear BK137; clear HR127; clear HB; have HO121 := n0_; have HO134 := n1_; have HO143 := n2_; have HO150 := n3_; have BK117 := n4_; have BK137 := n5_; have HR127 := n6_; have HB := n7_; have BK153 := n8_; have GW153 := n9_; have GE153 := n10_; have NB117_153 := n11_; have NB153_117 := n12_; have NB137_153 := n13_; have NB153_137 := n14_; clear n0_ n1_ n2_ n3_ n4_ n5_ n6_ n7_ n8_ n9_ n10_ n11_ n12_ n13_ n14_; clear hb hbox hg; have hnb38 := NB153_117.out; have hnc38 := NB117_153.out; have hnb39 := NB153_137.out; have hnc39 := NB137_153.out; have hcz40_0 : w37.cell? ⟨gb153, 0, none⟩ = some (.int .i64 0) := (blk_cell BK153.out 0).trans rfl; have hcz40_1 : w37.cell? ⟨gb153, 1, none⟩ = some (.int .i64 0) := (blk_cell BK153.out 1).trans rfl; have hcz40_2 : w37.cell? ⟨gb153, 2, none⟩ = some (.int .i64 0) := (blk_cell BK153.out 2).trans rfl; have hcz40_3 : w37.cell? ⟨gb153, 3, none⟩ = some (.int .i64 0) := (blk_cell BK153.out 3).trans rfl; have hcz40_4 : w37.cell? ⟨gb153, 4, none⟩ = some (.slice none 0 0) := (blk_cell BK153.out 4).trans rfl; have hfz40_0 := blk_frozen BK153.out 0; have hfz40_1 := blk_frozen BK153.out 1; have hfz40_2 := blk_frozen BK153.out 2; have hfz40_3 := blk_frozen BK153.out 3; have hfz40_4 := blk_frozen BK153.out 4; obtain ⟨Ao41, co41, eo41⟩ := Kd.R_slice HO150.out; subst eo41) | ((with_reducible refine gate_callee (f := 10) rfl ?_); refine goesL_ (some 59) rfl rfl Try.func10 (by kernel_rfl) rfl #[.int .i64 t136] rfl (by (try simp only [List.map_toArray, List.map_cons, List.map_nil]); first | done | rfl | (simp only [List.length_drop, List.length_take]; rfl)) ?_; (with_reducible refine (transeptlaw13_num.calls t136 t154 _ A17.out).mono ?_); rintro e w' ⟨rfl, ⟨nd, rfl⟩⟩; refine ⟨_, rfl, ?_⟩; have hcz42_0 : w37.cell? ⟨gb137, 0, none⟩ = some (.int .i64 t128) := (blk_cell BK137.out 0).trans rfl; have hcz42_1 : w37.cell? ⟨gb137, 1, none⟩ = some (.int .i64 t129) := (blk_cell BK137.out 1).trans rfl; have hcz42_2 : w37.cell? ⟨gb137, 2, none⟩ = some (.int .i64 t130) := (blk_cell BK137.out 2).trans rfl; have hcz42_3 : w37.cell? ⟨gb137, 3, none⟩ = some (.int .i64 t131) := (blk_cell BK137.out 3).trans rfl; have hcz42_4 : w37.cell? ⟨gb137, 4, none⟩ = some (.slice Ao32 t132.length co32) := (blk_cell BK137.out 4).trans rfl; have hfz42_0 := blk_frozen BK137.out 0; have hfz42_1 := blk_frozen BK137.out 1; have hfz42_2 := blk_frozen BK137.out 2; have hfz42_3 := blk_frozen BK137.out 3; have hfz42_4 := blk_frozen BK137.out 4) | (go_at_call 10; (with_reducible refine (transeptlaw13_num.calls t152 t155 _ A21.out).mono ?_); rintro e w' ⟨rfl, ⟨nd, rfl⟩⟩))
                    go_ret
                    exact ⟨by first | rfl | (simp [errW_none, errW_some] <;> rfl) | (simp only [← hji10]; first | rfl | (simp [errW_none, errW_some] <;> rfl)) | (simp [*, errW_none, errW_some] <;> rfl), by repeat (first | (with_reducible first | exact HB.out | apply below_alloc | apply pw_below_drewN | apply below_drew1 | refine below_set ?_ GE117.out | refine below_set ?_ GE137.out | refine below_set ?_ GE153.out) | exact HB.out)⟩
                  · rw [if_neg c20] at H
                    exact absurd H (by simp)
                · rw [if_neg c19] at H
                  exact absurd H (by simp)
              · rw [if_neg c18] at H
                exact absurd H (by simp)
            · rw [if_neg c15] at H
              exact absurd H (by simp)
          · rw [if_neg c12] at H
            exact absurd H (by simp)
        · rw [if_neg c11] at H
          exact absurd H (by simp)
    · rw [if_neg c8] at H
      have c8b0 : (t123 == 0) = false := beq_eq_false_iff_ne.mpr c8
      have c8b1 : (t123 != 0) = true := bne_iff_ne.mpr c8
      obtain rfl := Option.some.inj H
      go_enter Try.func6, Try.ntmps6
      go_wp2_with (first | ((with_reducible refine gate_dst (N := 3) rfl ?_); refine box_event ?hg (N := 3) ?hd (cs := #[.int .i64 a0_0, .int .i64 a0_1, .int .i64 a0_2, .int .i64 a0_3, .slice A0_4 l0_4.length c0_4]) (t := 24) ?hr ?_; (case hd => rfl); (case hg => rfl); (case hr => first | (go_simp; done) | (go_simp; rfl)); intro gb117 hg w43 hbox hb; have n0_ := Aside0.mk (below_step (by repeat (first | (with_reducible first | exact HB.out | apply below_alloc | apply pw_below_drewN | apply below_drew1) | exact HB.out)) hb); have n1_ := Aside0.mk (hbox); have n2_ := Aside0.mk ((by rw [hg]; exact (below_size (by repeat (first | (with_reducible first | exact HB.out | apply below_alloc | apply pw_below_drewN | apply below_drew1) | exact HB.out))) : w.heap.size ≤ gb117)); have n3_ := Aside0.mk ((by rw [hg]; exact (below_size (by repeat (first | (with_reducible first | exact HB.out | apply below_alloc | apply pw_below_drewN | apply below_drew1) | exact HB.out))) : w.heap.size ≤ gb117)); clear HB; have HB := n0_; have BK117 := n1_; have GW117 := n2_; have GE117 := n3_; clear n0_ n1_ n2_ n3_; clear hb hbox hg) | ((with_reducible refine gate_callee (f := 8) rfl ?_); refine goesL_ (some 16) rfl rfl Try.func8 (by kernel_rfl) rfl #[] rfl (by (try simp only [List.map_toArray, List.map_cons, List.map_nil]); first | done | rfl | (simp only [List.length_drop, List.length_take]; rfl)) ?_; (with_reducible refine (transeptlaw13_alive.calls k  true _ A4.out).mono ?_); rintro e w44 ⟨rfl, hb⟩; refine ⟨_, rfl, ?_⟩; have n0_ := Aside0.mk (blk_below (g := gb117) (o := .cells #[.int .i64 a0_0, .int .i64 a0_1, .int .i64 a0_2, .int .i64 a0_3, .slice A0_4 l0_4.length c0_4] 24 (0, 0)) (by (with_reducible repeat (first | refine blk_drewN ?_ _ | refine blk_drew ?_ | refine blk_alloc ?_ _)); exact BK117.out) hb); have n1_ := Aside0.mk (below_step (by repeat (first | (with_reducible first | exact HB.out | apply below_alloc | apply pw_below_drewN | apply below_drew1 | refine below_set ?_ GE117.out) | exact HB.out)) hb); clear BK117; clear HB; have BK117 := n0_; have HB := n1_; clear n0_ n1_; (try clear hb); (try clear hb2); (try clear hk); (try clear hi); have hcz45_0 : w44.cell? ⟨gb117, 0, none⟩ = some (.int .i64 a0_0) := (blk_cell BK117.out 0).trans rfl; have hcz45_1 : w44.cell? ⟨gb117, 1, none⟩ = some (.int .i64 a0_1) := (blk_cell BK117.out 1).trans rfl; have hcz45_2 : w44.cell? ⟨gb117, 2, none⟩ = some (.int .i64 a0_2) := (blk_cell BK117.out 2).trans rfl; have hcz45_3 : w44.cell? ⟨gb117, 3, none⟩ = some (.int .i64 a0_3) := (blk_cell BK117.out 3).trans rfl; have hcz45_4 : w44.cell? ⟨gb117, 4, none⟩ = some (.slice A0_4 l0_4.length c0_4) := (blk_cell BK117.out 4).trans rfl; have hfz45_0 := blk_frozen BK117.out 0; have hfz45_1 := blk_frozen BK117.out 1; have hfz45_2 := blk_frozen BK117.out 2; have hfz45_3 := blk_frozen BK117.out 3; have hfz45_4 := blk_frozen BK117.out 4) | ((with_reducible refine gate_callee (f := 9) rfl ?_); refine goesL_ (some 21) rfl rfl Try.func9 (by kernel_rfl) rfl #[.agg #[.int .i64 a0_0, .int .i64 a0_1, .int .i64 a0_2, .int .i64 a0_3, .slice A0_4 l0_4.length c0_4], .int .i64 a1] rfl (by (try simp only [List.map_toArray, List.map_cons, List.map_nil]); first | done | rfl | (simp only [List.length_drop, List.length_take]; rfl)) ?_; (with_reducible refine (command_Encode.calls a0_0 a0_1 a0_2 a0_3 _ _ l0_4 a1 t119 t122 _ ?side1 ?side2 A6.out).mono ?_); (case side1 => repeat (first | exact (Kd.C_below HR0_4.out HB.out) | (with_reducible refine Kd.C_alloc ?_ _) | (with_reducible refine Kd.C_drewN ?_ _) | (with_reducible refine Kd.C_drew ?_))); (case side2 => exact HC0_4.out); rintro e w46 ⟨v120, rfl, ho0, hb⟩; refine ⟨_, rfl, ?_⟩; have n0_ := Aside0.mk (Kd.R_lower ho0 (below_size (by repeat (first | (with_reducible first | exact HB.out | apply below_alloc | apply pw_below_drewN | apply below_drew1 | refine below_set ?_ GE117.out) | exact HB.out)))); have n1_ := Aside0.mk (blk_below (g := gb117) (o := .cells #[.int .i64 a0_0, .int .i64 a0_1, .int .i64 a0_2, .int .i64 a0_3, .slice A0_4 l0_4.length c0_4] 24 (0, 0)) (by (with_reducible repeat (first | refine blk_drewN ?_ _ | refine blk_drew ?_ | refine blk_alloc ?_ _)); exact BK117.out) hb); have n2_ := Aside0.mk (below_step (by repeat (first | (with_reducible first | exact HB.out | apply below_alloc | apply pw_below_drewN | apply below_drew1 | refine below_set ?_ GE117.out) | exact HB.out)) hb); clear BK117; clear HB; have HO121 := n0_; have BK117 := n1_; have HB := n2_; clear n0_ n1_ n2_; (try clear hb); (try clear hb2); (try clear hk); (try clear hi); (try clear ho0)) | ((with_reducible refine gate_callee (f := 10) rfl ?_); refine goesL_ (some 25) rfl rfl Try.func10 (by kernel_rfl) rfl #[.int .i64 t122] rfl (by (try simp only [List.map_toArray, List.map_cons, List.map_nil]); first | done | rfl | (simp only [List.length_drop, List.length_take]; rfl)) ?_; (with_reducible refine (transeptlaw13_num.calls t122 t123 _ A7.out).mono ?_); rintro e w' ⟨rfl, ⟨nd, rfl⟩⟩; refine ⟨_, rfl, ?_⟩; obtain ⟨Ao47, co47, eo47⟩ := Kd.R_slice HO121.out; subst eo47))
      go_ret
      exact ⟨by first | rfl | (simp [errW_none, errW_some] <;> rfl) | (simp [*, errW_none, errW_some] <;> rfl), by repeat (first | (with_reducible first | exact HB.out | apply below_alloc | apply pw_below_drewN | apply below_drew1 | refine below_set ?_ GE117.out) | exact HB.out)⟩
  · replace c5 := Bool.eq_false_iff.mpr c5
    subst c5
    have H1 : (none) = some r := by rw [if_neg (show ¬ (false = true) by decide)] at H; exact H
    clear H
    have H := H1
    clear H1
    exact absurd H (by simp)

end Go.Proofs.Ytpjaebbgbmhneaa.Print
