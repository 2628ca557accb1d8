/- Written by pp.py, a program of this project that runs the kit's print over the translation, with functions proved by hand put in. Lean checks it. -/
import Derived.Test.YtpjaebbgbmhneaaPrint0
import Derived.Test.YtpjaebbgbmhneaaPrint4
import Derived.Test.YtpjaebbgbmhneaaPrint8
import Derived.Test.YtpjaebbgbmhneaaPrint9
import Derived.Test.YtpjaebbgbmhneaaPrint10
namespace Go.Proofs.Ytpjaebbgbmhneaa.Print
open Go.RowKit Go.Proofs.YtpjaebbgbmhneaaW.PrintWords Go.Proofs.YtpjaebbgbmhneaaW.PrintLast Go.Proofs.YtpjaebbgbmhneaaW.PrintMore
attribute [local go_sem] max2_int min2_int max_two min_two max_three min_three max_four min_four   -- for this text's walks alone
set_option linter.unusedVariables false
set_option linter.unusedSimpArgs false

/-! ### command_Decode_1: function 25, by hand -/
theorem box_set {W : World} {b : Nat} {t : TypeId} {v : Value} (v' : Value) (h : Boxed W b t v) : Boxed (W.setCell ⟨b, 0, none⟩ v') b t v' := h.set v'
theorem cm_put {W : World} {bc : Nat} {a1 a2 a3 a4 b1 b2 b3 b4 : Int} {u v : Value} (h : cmBox W bc a1 a2 a3 a4 u) :
    cmBox (((((W.setCell ⟨bc, 0, none⟩ (.int .i64 b1)).setCell ⟨bc, 1, none⟩ (.int .i64 b2)).setCell ⟨bc, 2, none⟩ (.int .i64 b3)).setCell ⟨bc, 3, none⟩ (.int .i64 b4)).setCell ⟨bc, 4, none⟩ v) bc b1 b2 b3 b4 v ∧
    W.grownBy (((((W.setCell ⟨bc, 0, none⟩ (.int .i64 b1)).setCell ⟨bc, 1, none⟩ (.int .i64 b2)).setCell ⟨bc, 2, none⟩ (.int .i64 b3)).setCell ⟨bc, 3, none⟩ (.int .i64 b4)).setCell ⟨bc, 4, none⟩ v) (some bc) :=
  ⟨((((h.set0 b1).set1 b2).set2 b3).set3 b4).set4 v, ((((sc_grown_setCell _ _ _ _).trans (sc_grown_setCell _ _ _ _)).trans (sc_grown_setCell _ _ _ _)).trans (sc_grown_setCell _ _ _ _)).trans (sc_grown_setCell _ _ _ _)⟩
theorem below_grown_some {W W' : World} {n b : Nat} (hg : W.grownBy W' (some b)) (hn : n ≤ W.heap.size) (hb : n ≤ b) : Below n W W' := (Below.refl n W).grown hg hn (fun k e => by cases e; exact hb)
set_option maxHeartbeats 4000000 in
set_option maxRecDepth 100000 in
theorem dec_catch (bc bv be : Nat) (a1 a2 a3 a4 y z x : Int) (u : Value) (hu : ∃ A n c, u = .slice A n c) (W : World) (hc : cmBox W bc a1 a2 a3 a4 u) (hv : Boxed W bv 3 (.int .i64 y)) (he : Boxed W be 27 (.int .i64 z)) (h1 : bc ≠ bv) (h2 : bc ≠ be) (h3 : bv ≠ be) :
    CallsD Try.prog 25 #[.pointer (some ⟨bc, 0, none⟩), .pointer (some ⟨bv, 0, none⟩), .pointer (some ⟨be, 0, none⟩)] (.panicking (sc_stop x)) W fun e u' W' =>
      e = .returned (.tuple #[]) ∧ u' = .panicking [{ v := .iface 56 (.agg #[.int .i64 x]), recovered := true }] ∧ cmBox W' bc 0 0 0 0 (.slice none 0 0) ∧ Boxed W' bv 3 (.int .i64 0) ∧ Boxed W' be 27 (.int .i64 x) ∧ (∀ n, n ≤ W.heap.size → n ≤ bc → n ≤ bv → n ≤ be → Below n W W') := by
  obtain ⟨A, n, c, rfl⟩ := hu
  unfold sc_stop
  have hta : ∀ (X : World), (Instr.typeAssert (Value.iface 56 (Value.agg #[Value.int .i64 x])) 20 56 true).run Try.prog X = .ok (.tuple #[.agg #[.int .i64 x], .bool true]) X := fun X => by kernel_rfl
  refine callsD_of_wpS Try.func25 rfl fun c₀ cs hu => ?_
  apply wpS_seq
  apply wpS_region
  simp [wpOpsS, go_sem, recoverD, hu, hta, Try.ntmps25, Exit.thenS]
  simp only [Array.replicate_succ, Array.replicate_zero, List.push_toArray, List.append_toArray, List.nil_append, List.cons_append, List.setIfInBounds_toArray, List.set_cons_zero, List.set_cons_succ]
  refine wpS_of_wp ?_
  have k1 := hc.lt
  have k2 := hv.lt
  have k3 := he.lt
  go_wp2_with fail
  refine start_ (n := 6) (S := fun w' => w'.cell? ⟨W.heap.size, 0, none⟩ = some (.int .i64 x)) (ds := [5]) #[false, false, false, false, false, false] (by kernel_rfl) rfl rfl (show (W.alloc (.cells #[.int .i64 x] 56)).cell? ⟨W.heap.size, 0, none⟩ = _ from (Boxed.new W 56 (.int .i64 x)).cell) (fun hHeld => ?_)
  have c1 : cmBox (W.alloc (.cells #[.int .i64 x] 56)).drew bc a1 a2 a3 a4 (.slice A n c) := cmBox.kept (row := none) hc ⟨rfl, rfl, rfl, by simp [World.drew], fun k hk _ => (World.grownBy_alloc W _ none).block k hk (by simp)⟩ (by simp)
  have v1 : Boxed (W.alloc (.cells #[.int .i64 x] 56)).drew bv 3 (.int .i64 y) := Boxed.alloc hv _
  have e1 : Boxed (W.alloc (.cells #[.int .i64 x] 56)).drew be 27 (.int .i64 z) := Boxed.alloc he _
  have g1 : W.grownBy (W.alloc (.cells #[.int .i64 x] 56)).drew none := ⟨rfl, rfl, rfl, by simp [World.drew], fun k hk _ => (World.grownBy_alloc W _ none).block k hk (by simp)⟩
  generalize (W.alloc (.cells #[.int .i64 x] 56)).drew = wd at hHeld c1 v1 e1 g1 ⊢
  obtain ⟨c2, g2⟩ := cm_put (b1 := 0) (b2 := 0) (b3 := 0) (b4 := 0) (v := .slice none 0 0) c1
  have klt := World.block_lt_of_cell? _ _ hHeld
  have s2 := (World.cell?_of_block (a := ⟨W.heap.size, 0, none⟩) (g2.block W.heap.size klt (by simp; omega))).trans hHeld
  have v2 := v1.kept g2 (by simpa using Ne.symm h1)
  have e2 := e1.kept g2 (by simpa using Ne.symm h2)
  have hcc := c1.cell
  have hcf := c1.frozen
  refine pure_ (i := 0) (N := some 11) (v := ?_) (a' := ?_) #[true, false, false, false, false, false] rfl rfl (by kernel_rfl) (fun _ _ _ h => h) (Or.inl ⟨by rfl, ?_⟩) ?_ ?_
  rotate_left
  · intro w'
    go_simp
    with_reducible rfl
  rotate_left
  · simp only [Act.put, List.setIfInBounds_toArray, List.set_cons_zero, List.set_cons_succ, i64_w, i32_w]
    rfl
  refine pure_ (i := 1) (N := some 12) (v := ?_) (a' := ?_) #[true, true, false, false, false, false] rfl rfl (by kernel_rfl) (fun _ _ _ h => h) (Or.inl ⟨by rfl, ?_⟩) ?_ ?_
  rotate_left
  · intro w'
    go_simp
    with_reducible rfl
  rotate_left
  · simp only [Act.put, List.setIfInBounds_toArray, List.set_cons_zero, List.set_cons_succ, i64_w, i32_w]
    rfl
  refine take_ (i := 2) (N := some 13) (v := ?_) (a' := ?_) #[true, true, true, false, false, false] rfl rfl (by kernel_rfl) (fun _ _ _ h => h) (Or.inl ⟨by rfl, ?_⟩) hHeld ?_ ?_
  rotate_left
  · intro w' s0
    go_simp
    with_reducible rfl
  rotate_left
  · simp only [Act.put, List.setIfInBounds_toArray, List.set_cons_zero, List.set_cons_succ, i64_w, i32_w]
    rfl
  refine one_ (i := 3) (N := none) #[true, true, true, true, false, false] rfl rfl (by kernel_rfl) (by decide) (fun K hK => ?_)
  refine skip_ (w1 := ?_) (by rfl) rfl ?_ ?_
  rotate_left
  · go_simp
    rfl
  refine hK.out _ _ s2 (fun hHeld2 => ?_)
  clear hK K
  generalize hWb : (((((wd.setCell ⟨bc, 0, none⟩ (.int .i64 0)).setCell ⟨bc, 1, none⟩ (.int .i64 0)).setCell ⟨bc, 2, none⟩ (.int .i64 0)).setCell ⟨bc, 3, none⟩ (.int .i64 0)).setCell ⟨bc, 4, none⟩ (.slice none 0 0)) = Wb at c2 g2 s2 v2 e2 hHeld2 ⊢
  clear hWb hHeld
  have hvc := v2.cell
  have hvf := v2.frozen
  have g3 := sc_grown_setCell Wb bv 0 (.int .i64 0)
  have v3 := v2.set (.int .i64 0)
  have c3 := c2.kept g3 (by simpa using h1)
  have e3 := e2.kept g3 (by simpa using Ne.symm h3)
  have klt2 := World.block_lt_of_cell? _ _ s2
  have s3 := (World.cell?_of_block (a := ⟨W.heap.size, 0, none⟩) (g3.block W.heap.size klt2 (by simp; omega))).trans s2
  refine one_ (i := 4) (N := none) #[true, true, true, true, true, false] rfl rfl (by kernel_rfl) (by decide) (fun K hK => ?_)
  refine skip_ (w1 := ?_) (by rfl) rfl ?_ ?_
  rotate_left
  · go_simp
    rfl
  refine hK.out _ _ s3 (fun hHeld3 => ?_)
  clear hK K
  generalize hWc : Wb.setCell ⟨bv, 0, none⟩ (.int .i64 0) = Wc at c3 g3 s3 v3 e3 hHeld3 ⊢
  clear hWc hHeld2
  have hec := e3.cell
  have hef := e3.frozen
  have g4 := sc_grown_setCell Wc be 0 (.int .i64 x)
  have e4 := e3.set (.int .i64 x)
  have c4 := c3.kept g4 (by simpa using h2)
  have v4 := v3.kept g4 (by simpa using h3)
  refine last_ (i := 5) (N := none) #[true, true, true, true, true, true] rfl rfl (by kernel_rfl) (by decide) (fun K hK => ?_)
  refine skip_ (w1 := ?_) (by rfl) rfl ?_ ?_
  rotate_left
  · go_simp
    rfl
  refine hK.out _ _ ?_
  clear hK K
  refine done_ (by kernel_rfl) ?_
  have B0 : ∀ n, n ≤ W.heap.size → n ≤ bc → n ≤ bv → n ≤ be → Below n W (Wc.setCell ⟨be, 0, none⟩ (.int .i64 x)) := fun n q1 q2 q3 q4 => by
    have b1 : Below n W wd := (Below.refl n W).grown g1 q1 (fun k e => by cases e)
    have b2 := b1.grown g2 (Nat.le_trans q1 b1.size) (fun k e => by cases e; exact q2)
    have b3 := b2.grown g3 (Nat.le_trans q1 b2.size) (fun k e => by cases e; exact q3)
    exact b3.grown g4 (Nat.le_trans q1 b3.size) (fun k e => by cases e; exact q4)
  refine (show bodyPostS _ _ _ _ _ _ _ _ _ from ?_)
  simp [bodyPostS, results, Try.results25]
  exact ⟨c4, v4, e4, B0⟩
set_option maxHeartbeats 4000000 in
set_option maxRecDepth 100000 in
theorem dec_idle (p q r : Value) (W : World) :
    CallsD Try.prog 25 #[p, q, r] .returning W fun e u' W' => e = .returned (.tuple #[]) ∧ u' = .returning ∧ W' = W.alloc (.cells #[.int .i64 0] 56) := by
  have hta : ∀ (X : World), (Instr.typeAssert Value.nilIface 20 56 true).run Try.prog X = .ok (.tuple #[.agg #[.int .i64 0], .bool false]) X := fun X => by kernel_rfl
  refine callsD_of_wpS Try.func25 rfl fun c₀ cs hu => ?_
  apply wpS_seq
  apply wpS_region
  simp [wpOpsS, go_sem, recoverD, hu, hta, Try.ntmps25, Exit.thenS]
  simp only [Array.replicate_succ, Array.replicate_zero, List.push_toArray, List.append_toArray, List.nil_append, List.cons_append, List.setIfInBounds_toArray, List.set_cons_zero, List.set_cons_succ]
  refine wpS_of_wp ?_
  go_wp2
  refine (show bodyPostS _ _ _ _ _ _ _ _ _ from ?_)
  cases c₀
  simp_all [bodyPostS, results, Try.results25]

/-! ### command_Decode: function 14, by hand -/
/-- What octets are as a command: its parts, its version, or why there is none. -/
def sc_dec (l : List Int) : Int × Int × Int × Int × List ScOp × Int × Int :=
  match sc_cmd l with
  | .error x => (0, 0, 0, 0, [], 0, x)
  | .ok (a, b, c, d, os, v) => if (cmd_encode v a b c d os).2 ≠ 0 then (0, 0, 0, 0, [], 0, (cmd_encode v a b c d os).2) else (a, b, c, d, os, v, 0)
def command_Decode.f (l0 : List Int) : Option (Int × Int × Int × Int × List ScOp × Int × Int) := if (l0.all fun x => decide (0 ≤ x ∧ x < 256)) = true then some (sc_dec l0) else none
theorem leaves_congr {P : Program} {fn : Func} {t1 t2 : Array Value} {R : Ending → World → Prop} (ht : results fn t1 = results fn t2) : ∀ (ds : List Deferred) (u : FrameMode) (w : World), Leaves P fn t1 R ds u w → Leaves P fn t2 R ds u w := by
  intro ds
  induction ds with
  | nil =>
    intro u w h
    cases u with
    | run => exact h
    | returning => obtain ⟨v, h1, h2⟩ := h; exact ⟨v, by rw [← ht]; exact h1, h2⟩
    | panicking c => exact h
  | cons d ds ih =>
    intro u w h
    obtain ⟨hu, fv, cap, f, args, h1, h2, h3⟩ := h
    refine ⟨hu, fv, cap, f, args, h1, h2, h3.mono ?_⟩
    intro e u' w' h4
    cases e with
    | returned v => exact ih _ _ h4
    | panicked c => exact ih _ _ h4
    | outgrown => exact h4
theorem dec_hQ {R : Ending → World → Prop} {c : List PanicEntry} {a : Act} {w : World} {v : Value} {N : Nat} (hN : 5 ≤ N) (h : bodyPostD Try.prog Try.f14 R (.panic c) (a.put (some N) v) w) : bodyPostD Try.prog Try.f14 R (.panic c) a w := by
  refine leaves_congr ?_ _ _ _ h
  have q : ∀ k, k < 5 → (a.put (some N) v).tmps[k]?.getD undef = a.tmps[k]?.getD undef := by
    intro k hk
    have hne : ¬ N = k := by omega
    simp [Act.put, Array.getElem?_setIfInBounds, hne]
  simp only [results, Try.results14]
  simp [q 2 (by decide), q 3 (by decide), q 4 (by decide)]
theorem leaves_nil {P : Program} {fn : Func} {tmps : Array Value} {R : Ending → World → Prop} {w : World} {v : Value} (h : (results fn tmps).run P w = .ok v w) (hr : R (.returned v) w) : Leaves P fn tmps R [] .returning w := ⟨v, h, hr⟩
theorem dec_res {tmps : Array Value} {W : World} {bc bv be : Nat} {cs : Array Value} {y z : Int} (h2 : tmps.getD 2 undef = .pointer (some ⟨bc, 0, none⟩)) (h3 : tmps.getD 3 undef = .pointer (some ⟨bv, 0, none⟩)) (h4 : tmps.getD 4 undef = .pointer (some ⟨be, 0, none⟩))
    (hc : W.heap[bc]? = some (.cells cs 24 (0, 0))) (hs : cs.size = 5) (hv : Boxed W bv 3 (.int .i64 y)) (he : Boxed W be 27 (.int .i64 z)) :
    (results Try.f14 tmps).run Try.prog W = .ok (.tuple #[.agg cs, .int .i64 y, .int .i64 z]) W := by
  have hl1 := run_loadVar_row (P := Try.prog) W bc 24 24 cs (0, 0) _ hc Try.underlying24 rfl (by rw [hs]; kernel_rfl)
  have hl2 : (loadVar 3 ⟨bv, 0, none⟩).run Try.prog W = .ok (.int .i64 y) W := by
    have := hv.cell
    simp [go_sem, this]
  have hl3 : (loadVar 27 ⟨be, 0, none⟩).run Try.prog W = .ok (.int .i64 z) W := by
    have := he.cell
    simp [go_sem, this]
  simp only [results, Try.results14]
  simp only [Array.getD_eq_getD_getElem?] at h2 h3 h4
  simp [h2, h3, h4, asAddr, hl1, hl2, hl3, Result.andThen, Sem.run_bind]
theorem ops_below {W W' : World} {base : Nat} {v : Value} {os : List ScOp} (h : Kd.R k48 48 W base (fun _ => True) v os) (hb : Below W.heap.size W W') : Kd.R k48 48 W' base (fun _ => True) v os := by
  obtain ⟨h0, inner, hown, hr⟩ := h
  refine ⟨fun _ _ => trivial, inner, ⟨hown.1, ?_⟩, hr.imp_ (fun x cs hx => by rw [k48_openM hx]; exact k48_mkM _ _ _ _)⟩
  rcases hown.2 with hn | ⟨g, cap, cur, rfl, hb1, hgg, rest⟩
  · exact .inl hn
  · exact .inr ⟨g, cap, cur, rfl, hb1, (hb.block g (Array.getElem?_eq_some_iff.1 hgg).1).trans hgg, rest⟩
set_option maxHeartbeats 8000000 in
set_option maxRecDepth 100000 in
theorem command_Decode.calls (A0 : Option Addr) (c0 : Nat) (l0 : List Int) (r1 r2 r3 r4 : Int) (r5 : List ScOp) (r6 r7 : Int) (w : World) (hr0 : Kd.C (Kd.int .u8) w A0 l0.length l0) (hc0 : l0.length ≤ c0) (h : command_Decode.f l0 = some (r1, r2, r3, r4, r5, r6, r7)) :
    Calls Try.prog 14 #[.slice A0 l0.length c0] w fun e w' => ∃ v0_ : Value, e = .returned (.tuple #[.agg #[.int .i64 r1, .int .i64 r2, .int .i64 r3, .int .i64 r4, v0_], .int .i64 r6, .int .i64 r7]) ∧ Kd.R k48 48 w' w.heap.size (fun _ => True) v0_ r5 ∧ Below w.heap.size w w' := by
  unfold command_Decode.f at h
  split at h
  case isFalse => cases h
  rename_i hall
  have hby : sc_bytes l0 := fun x hx => by have := List.all_eq_true.1 hall x hx; simpa using this
  have H := Aside0.mk (Option.some.inj h)
  clear h hall
  have HR := Aside0.mk hr0
  have HC := Aside0.mk hc0
  have hmf : ∀ (fn : Fn) (first cap : Array Value) (w : World), (Instr.makeFunc fn first cap).run Try.prog w = .ok (.func fn first cap) w := fun _ _ _ _ => rfl
  have hB0 : Below w.heap.size w ((((w.alloc (.cells #[.int .i64 0, .int .i64 0, .int .i64 0, .int .i64 0, .slice none 0 0] 24)).alloc (.cells #[.int .i64 0] 3)).alloc (.cells #[.int .i64 0] 27)).alloc (.cells #[.slice A0 l0.length c0] 58)) :=
    ((((Below.refl _ w).alloc (Nat.le_refl _) _).alloc (by simp) _).alloc (by simp; omega) _).alloc (by simp; omega) _
  have hbc : cmBox ((((w.alloc (.cells #[.int .i64 0, .int .i64 0, .int .i64 0, .int .i64 0, .slice none 0 0] 24)).alloc (.cells #[.int .i64 0] 3)).alloc (.cells #[.int .i64 0] 27)).alloc (.cells #[.slice A0 l0.length c0] 58)) w.heap.size 0 0 0 0 (.slice none 0 0) :=
    cmBox.kept (cmBox.kept (cmBox.kept (World.alloc_heap_new w _) (World.grownBy_alloc _ _ none) (by simp)) (World.grownBy_alloc _ _ none) (by simp)) (World.grownBy_alloc _ _ none) (by simp)
  have hbv : Boxed ((((w.alloc (.cells #[.int .i64 0, .int .i64 0, .int .i64 0, .int .i64 0, .slice none 0 0] 24)).alloc (.cells #[.int .i64 0] 3)).alloc (.cells #[.int .i64 0] 27)).alloc (.cells #[.slice A0 l0.length c0] 58)) (w.heap.size + 1) 3 (.int .i64 0) := by
    have := Boxed.new (w.alloc (.cells #[.int .i64 0, .int .i64 0, .int .i64 0, .int .i64 0, .slice none 0 0] 24)) 3 (.int .i64 0)
    rw [World.size_alloc] at this
    exact (this.alloc _).alloc _
  have hbe : Boxed ((((w.alloc (.cells #[.int .i64 0, .int .i64 0, .int .i64 0, .int .i64 0, .slice none 0 0] 24)).alloc (.cells #[.int .i64 0] 3)).alloc (.cells #[.int .i64 0] 27)).alloc (.cells #[.slice A0 l0.length c0] 58)) (w.heap.size + 1 + 1) 27 (.int .i64 0) := by
    have := Boxed.new ((w.alloc (.cells #[.int .i64 0, .int .i64 0, .int .i64 0, .int .i64 0, .slice none 0 0] 24)).alloc (.cells #[.int .i64 0] 3)) 27 (.int .i64 0)
    rw [World.size_alloc, World.size_alloc] at this
    exact this.alloc _
  have hbs : Boxed ((((w.alloc (.cells #[.int .i64 0, .int .i64 0, .int .i64 0, .int .i64 0, .slice none 0 0] 24)).alloc (.cells #[.int .i64 0] 3)).alloc (.cells #[.int .i64 0] 27)).alloc (.cells #[.slice A0 l0.length c0] 58)) (w.heap.size + 1 + 1 + 1) 58 (.slice A0 l0.length c0) := by
    have := Boxed.new (((w.alloc (.cells #[.int .i64 0, .int .i64 0, .int .i64 0, .int .i64 0, .slice none 0 0] 24)).alloc (.cells #[.int .i64 0] 3)).alloc (.cells #[.int .i64 0] 27)) 58 (.slice A0 l0.length c0)
    rw [World.size_alloc, World.size_alloc, World.size_alloc] at this
    exact this
  have T := Aside0.mk (sc_command w _ _ l0 hby ⟨hB0, by omega, A0, c0, hbs, hr0, hc0⟩)
  have HBC := Aside0.mk hbc
  have HBV := Aside0.mk hbv
  have HBE := Aside0.mk hbe
  have HBB := Aside0.mk hB0
  clear hr0 hc0 hbc hbv hbe hbs hB0 hby
  go_enter_defers Try.func14, Try.ntmps14
  go_wp2_with fail
  refine T.out.mono ?_
  rintro e W1 ⟨hg, ⟨x, hx, rfl⟩ | ⟨a, b, c, d, os, v, u, hok, rfl, HO⟩⟩
  · have B1 := Aside0.mk (HBB.out.grown hg HBB.out.size (fun k e => by cases e; omega))
    have hc1 := HBC.out.kept hg (by simp; omega)
    have hv1 := HBV.out.kept hg (by simp)
    have he1 := HBE.out.kept hg (by simp)
    clear hg T HBC HBV HBE HBB
    go_wp2
    refine leaves_cons (f := 25) (args := #[.pointer (some ⟨w.heap.size, 0, none⟩), .pointer (some ⟨w.heap.size + 1, 0, none⟩), .pointer (some ⟨w.heap.size + 1 + 1, 0, none⟩)]) (by simp) (by simp [go_sem]) ?_
    refine (dec_catch _ _ _ 0 0 0 0 0 0 x _ ⟨_, _, _, rfl⟩ W1 hc1 hv1 he1 (by omega) (by omega) (by omega)).mono ?_
    rintro e u' W2 ⟨rfl, rfl, hc2, hv2, he2, hB2⟩
    have hrr := H.out
    unfold sc_dec at hrr
    rw [hx] at hrr
    cases hrr
    have BF := Aside0.mk (B1.out.trans (hB2 _ B1.out.size (Nat.le_refl _) (by omega) (by omega)))
    refine leaves_nil (dec_res (bc := w.heap.size) (bv := w.heap.size + 1) (be := w.heap.size + 1 + 1) rfl rfl rfl hc2 rfl hv2 he2) ?_
    exact ⟨_, rfl, Kd.R_nil _ _ _ _ _, BF.out⟩
  · have B1 := HBB.out.grown hg HBB.out.size (fun k e => by cases e; omega)
    have hc1 := HBC.out.kept hg (by intro e; injection e with e; omega)
    have hv1 := HBV.out.kept hg (by intro e; injection e with e; omega)
    have he1 := HBE.out.kept hg (by intro e; injection e with e; omega)
    clear hg T HBC HBV HBE
    obtain ⟨Au, cu, eu⟩ := Kd.R_slice HO
    subst eu
    obtain ⟨c2, g2⟩ := cm_put (b1 := a) (b2 := b) (b3 := c) (b4 := d) (v := .slice Au os.length cu) hc1
    have v2 := hv1.kept g2 (by intro e; injection e with e; omega)
    have e2 := he1.kept g2 (by intro e; injection e with e; omega)
    have g3 := sc_grown_setCell (((((W1.setCell ⟨w.heap.size, 0, none⟩ (.int .i64 a)).setCell ⟨w.heap.size, 1, none⟩ (.int .i64 b)).setCell ⟨w.heap.size, 2, none⟩ (.int .i64 c)).setCell ⟨w.heap.size, 3, none⟩ (.int .i64 d)).setCell ⟨w.heap.size, 4, none⟩ (.slice Au os.length cu)) (w.heap.size + 1) 0 (.int .i64 v)
    have v3 := v2.set (.int .i64 v)
    have c3 := c2.kept g3 (by intro e; injection e with e; omega)
    have e3 := e2.kept g3 (by intro e; injection e with e; omega)
    have ne1 : ∀ bb, bb < w.heap.size + 4 → (Value.slice Au os.length cu).ownBlock = none ∨ (Value.slice Au os.length cu).ownBlock ≠ some bb := fun bb hbb => by
      cases e : (Value.slice Au os.length cu).ownBlock with
      | none => exact .inl rfl
      | some k => right; have := (ops_base HO k e).1; simp at this; intro e2; injection e2 with e2; omega
    have NE1 := Aside0.mk ne1
    have o3 := ops_grown (ops_grown HO g2 (ne1 _ (by omega))) g3 (ne1 _ (by omega))
    have B3 := (B1.grown g2 B1.size (fun k e => by cases e; exact Nat.le_refl _)).grown g3 (B1.grown g2 B1.size (fun k e => by cases e; exact Nat.le_refl _)).size (fun k e => by cases e; omega)
    have hr3 := Kd.R_reads' o3
    obtain ⟨p, q, hpq⟩ : ∃ p q, cmd_encode v a b c d os = (p, q) := ⟨_, _, rfl⟩
    have HE := Aside0.mk (command_Encode.calls a b c d Au cu os v p q _ hr3.2.2 hr3.2.1 (show some (cmd_encode v a b c d os) = _ by rw [hpq]))
    have HPQ := Aside0.mk hpq
    have HOK := Aside0.mk hok
    have hcc1 := hc1.cell
    have hcf1 := hc1.frozen
    have hvc1 := v2.cell
    have hvf1 := v2.frozen
    have hcc3 := c3.cell
    have hvc3 := v3.cell
    have C3 := Aside0.mk c3
    have V3 := Aside0.mk v3
    have E3 := Aside0.mk e3
    have O3 := Aside0.mk o3
    have BB3 := Aside0.mk B3
    clear hr3 g2 g3 v2 e2 c2 hc1 hv1 he1 B1 HBB hpq hok c3 v3 e3 o3 B3 HO ne1
    go_wp2_with fail
    refine HE.out.mono ?_
    rintro e W2 ⟨vb, rfl, _, hb2⟩
    have c4 : cmBox W2 w.heap.size a b c d (.slice Au os.length cu) := (hb2.block _ C3.out.lt).trans C3.out
    have v4 : Boxed W2 (w.heap.size + 1) 3 (.int .i64 v) := (hb2.block _ V3.out.lt).trans V3.out
    have e4 : Boxed W2 (w.heap.size + 1 + 1) 27 (.int .i64 0) := (hb2.block _ E3.out.lt).trans E3.out
    have o4 := ops_below O3.out hb2
    have B4 := BB3.out.trans (hb2.mono BB3.out.size)
    have g5 := sc_grown_setCell W2 (w.heap.size + 1 + 1) 0 (.int .i64 q)
    have e5 := e4.set (.int .i64 q)
    have c5 := c4.kept g5 (by intro e; injection e with e; omega)
    have v5 := v4.kept g5 (by intro e; injection e with e; omega)
    have o5 := ops_grown o4 g5 (NE1.out _ (by omega))
    have B5 := B4.grown g5 B4.size (fun k e => by cases e; omega)
    have hec4 := e4.cell
    have hef4 := e4.frozen
    have hec5 := e5.cell
    clear C3 V3 E3 O3 BB3 HE hb2 o4 B4 v4 c4 hcc1 hcf1 hvc1 hvf1 hcc3 hvc3
    have C5 := Aside0.mk c5
    have V5 := Aside0.mk v5
    have E5 := Aside0.mk e5
    have O5 := Aside0.mk o5
    have B5' := Aside0.mk B5
    clear c5 v5 e5 o5 B5 g5 e4
    by_cases hq : q = 0
    · subst hq
      go_wp2_with fail
      refine start_ (n := 5) (S := fun w' => (w'.cell? ⟨w.heap.size, 0, none⟩ = some (.int .i64 a) ∧ w'.cell? ⟨w.heap.size, 1, none⟩ = some (.int .i64 b) ∧ w'.cell? ⟨w.heap.size, 2, none⟩ = some (.int .i64 c) ∧ w'.cell? ⟨w.heap.size, 3, none⟩ = some (.int .i64 d) ∧ w'.cell? ⟨w.heap.size, 4, none⟩ = some (.slice Au os.length cu)) ∧ w'.cell? ⟨w.heap.size + 1, 0, none⟩ = some (.int .i64 v)) (ds := [3, 4]) #[false, false, false, false, false] (by kernel_rfl) rfl rfl ⟨C5.out.cell, V5.out.cell⟩ (fun hHeld => ?_)
      have g6 : (W2.setCell ⟨w.heap.size + 1 + 1, 0, none⟩ (.int .i64 0)).grownBy (W2.setCell ⟨w.heap.size + 1 + 1, 0, none⟩ (.int .i64 0)).drew none := ⟨rfl, rfl, rfl, Nat.le_refl _, fun _ _ _ => rfl⟩
      have c6 := C5.out.kept g6 (by simp)
      have v6 := V5.out.kept g6 (by simp)
      have e6 := E5.out.kept g6 (by simp)
      have o6 := ops_grown O5.out g6 (by cases e : (Value.slice Au os.length cu).ownBlock with | none => exact .inl rfl | some k => right; simp)
      have B6 := B5'.out.grown g6 B5'.out.size (fun k e => by cases e)
      generalize (W2.setCell ⟨w.heap.size + 1 + 1, 0, none⟩ (.int .i64 0)).drew = wd at hHeld c6 v6 e6 o6 B6 ⊢
      clear g6
      obtain ⟨c7, g7⟩ := cm_put (b1 := a) (b2 := b) (b3 := c) (b4 := d) (v := .slice Au os.length cu) c6
      have v7 := v6.kept g7 (by intro e; injection e with e; omega)
      have e7 := e6.kept g7 (by intro e; injection e with e; omega)
      have o7 := ops_grown o6 g7 (NE1.out _ (by omega))
      have B7 := B6.grown g7 B6.size (fun k e => by cases e; exact Nat.le_refl _)
      have hc6 := c6.cell
      have hcf6 := c6.frozen
      refine take_ (i := 0) (N := some 22) (v := ?_) (a' := ?_) #[true, false, false, false, false] rfl rfl (by kernel_rfl) (fun _ _ _ h => dec_hQ (N := 22) (by decide) h) (Or.inl ⟨by rfl, ?_⟩) hHeld ?_ ?_
      rotate_left
      · rintro w' ⟨⟨s0, s1, s2, s3, s4⟩, s5⟩
        go_simp
        with_reducible rfl
      rotate_left
      · simp only [Act.put, List.setIfInBounds_toArray, List.set_cons_zero, List.set_cons_succ, i64_w, i32_w]
        rfl
      refine take_ (i := 1) (N := some 23) (v := ?_) (a' := ?_) #[true, true, false, false, false] rfl rfl (by kernel_rfl) (fun _ _ _ h => dec_hQ (N := 23) (by decide) h) (Or.inl ⟨by rfl, ?_⟩) hHeld ?_ ?_
      rotate_left
      · rintro w' ⟨_, s5⟩
        go_simp
        with_reducible rfl
      rotate_left
      · simp only [Act.put, List.setIfInBounds_toArray, List.set_cons_zero, List.set_cons_succ, i64_w, i32_w]
        rfl
      refine one_ (i := 2) (N := none) #[true, true, true, false, false] rfl rfl (by kernel_rfl) (by decide) (fun K hK => ?_)
      refine skip_ (w1 := ?_) (by rfl) rfl ?_ ?_
      rotate_left
      · go_simp
        rfl
      refine hK.out _ _ ⟨c7.cell, v7.cell⟩ (fun hHeld2 => ?_)
      clear hK K hHeld
      have hHeld := hHeld2
      clear hHeld2
      generalize (((((wd.setCell ⟨w.heap.size, 0, none⟩ (.int .i64 a)).setCell ⟨w.heap.size, 1, none⟩ (.int .i64 b)).setCell ⟨w.heap.size, 2, none⟩ (.int .i64 c)).setCell ⟨w.heap.size, 3, none⟩ (.int .i64 d)).setCell ⟨w.heap.size, 4, none⟩ (.slice Au os.length cu)) = we at c7 g7 v7 e7 o7 B7 hHeld ⊢
      have hv7 := v7.cell
      have hvf7 := v7.frozen
      have g8 := sc_grown_setCell we (w.heap.size + 1) 0 (.int .i64 v)
      have v8 := v7.set (.int .i64 v)
      have c8 := c7.kept g8 (by intro e; injection e with e; omega)
      have e8 := e7.kept g8 (by intro e; injection e with e; omega)
      have o8 := ops_grown o7 g8 (NE1.out _ (by omega))
      have B8 := B7.grown g8 B7.size (fun k e => by cases e; omega)
      refine last_ (i := 3) (N := none) #[true, true, true, true, false] rfl rfl (by kernel_rfl) (by decide) (fun K hK => ?_)
      refine skip_ (w1 := ?_) (by rfl) rfl ?_ ?_
      rotate_left
      · go_simp
        rfl
      refine hK.out _ _ ?_
      clear hK K
      generalize we.setCell ⟨w.heap.size + 1, 0, none⟩ (.int .i64 v) = wf at c8 g8 v8 e8 o8 B8 ⊢
      have he8 := e8.cell
      have hef8 := e8.frozen
      have g9 := sc_grown_setCell wf (w.heap.size + 1 + 1) 0 (.int .i64 0)
      have e9 := e8.set (.int .i64 0)
      have c9 := c8.kept g9 (by intro e; injection e with e; omega)
      have v9 := v8.kept g9 (by intro e; injection e with e; omega)
      have o9 := ops_grown o8 g9 (NE1.out _ (by omega))
      have B9 := B8.grown g9 B8.size (fun k e => by cases e; omega)
      refine last_ (i := 4) (N := none) #[true, true, true, true, true] rfl rfl (by kernel_rfl) (by decide) (fun K hK => ?_)
      refine skip_ (w1 := ?_) (by rfl) rfl ?_ ?_
      rotate_left
      · go_simp
        rfl
      refine hK.out _ _ ?_
      clear hK K
      refine done_ (by kernel_rfl) ?_
      try go_wp2
      refine leaves_cons (f := 25) (args := #[.pointer (some ⟨w.heap.size, 0, none⟩), .pointer (some ⟨w.heap.size + 1, 0, none⟩), .pointer (some ⟨w.heap.size + 1 + 1, 0, none⟩)]) (by simp) (by simp [go_sem]) ?_
      refine (dec_idle _ _ _ _).mono ?_
      rintro e u' Wl ⟨rfl, rfl, rfl⟩
      have hrr := H.out
      unfold sc_dec at hrr
      rw [HOK.out] at hrr
      dsimp only at hrr
      rw [HPQ.out] at hrr
      rw [if_neg (by simp)] at hrr
      have ga := World.grownBy_alloc (wf.setCell ⟨w.heap.size + 1 + 1, 0, none⟩ (.int .i64 0)) (.cells #[.int .i64 0] 56) none
      have o10 := ops_grown o9 ga (by cases e : (Value.slice Au os.length cu).ownBlock with | none => exact .inl rfl | some k => right; simp)
      cases hrr
      refine leaves_nil (dec_res (bc := w.heap.size) (bv := w.heap.size + 1) (be := w.heap.size + 1 + 1) rfl rfl rfl (c9.kept ga (by simp)) rfl (v9.kept ga (by simp)) (e9.kept ga (by simp))) ?_
      exact ⟨_, rfl, Kd.R_lower o10 (by simp; omega), B9.grown ga B9.size (fun k e => by cases e)⟩
    · have hq2 : (q == 0) = false := by simpa using hq
      have hq3 : (q != 0) = true := by simpa using hq
      have HQ := Aside0.mk hq
      go_wp2_with fail
      refine start_ (n := 5) (S := fun w' => w'.cell? ⟨w.heap.size + 1 + 1, 0, none⟩ = some (.int .i64 q)) (ds := [4]) #[false, false, false, false, false] (by kernel_rfl) rfl rfl E5.out.cell (fun hHeld => ?_)
      have g6 : (W2.setCell ⟨w.heap.size + 1 + 1, 0, none⟩ (.int .i64 q)).grownBy (W2.setCell ⟨w.heap.size + 1 + 1, 0, none⟩ (.int .i64 q)).drew none := ⟨rfl, rfl, rfl, Nat.le_refl _, fun _ _ _ => rfl⟩
      have c6 := C5.out.kept g6 (by simp)
      have v6 := V5.out.kept g6 (by simp)
      have e6 := E5.out.kept g6 (by simp)
      have B6 := B5'.out.grown g6 B5'.out.size (fun k e => by cases e)
      generalize (W2.setCell ⟨w.heap.size + 1 + 1, 0, none⟩ (.int .i64 q)).drew = wd at hHeld c6 v6 e6 B6 ⊢
      clear g6
      obtain ⟨c7, g7⟩ := cm_put (b1 := 0) (b2 := 0) (b3 := 0) (b4 := 0) (v := .slice none 0 0) c6
      have v7 := v6.kept g7 (by intro e; injection e with e; omega)
      have e7 := e6.kept g7 (by intro e; injection e with e; omega)
      have B7 := B6.grown g7 B6.size (fun k e => by cases e; exact Nat.le_refl _)
      have hc6 := c6.cell
      have hcf6 := c6.frozen
      refine pure_ (i := 0) (N := some 20) (v := ?_) (a' := ?_) #[true, false, false, false, false] rfl rfl (by kernel_rfl) (fun _ _ _ h => dec_hQ (N := 20) (by decide) h) (Or.inl ⟨by rfl, ?_⟩) ?_ ?_
      rotate_left
      · intro w'
        go_simp
        with_reducible rfl
      rotate_left
      · simp only [Act.put, List.setIfInBounds_toArray, List.set_cons_zero, List.set_cons_succ, i64_w, i32_w]
        rfl
      refine take_ (i := 1) (N := some 21) (v := ?_) (a' := ?_) #[true, true, false, false, false] rfl rfl (by kernel_rfl) (fun _ _ _ h => dec_hQ (N := 21) (by decide) h) (Or.inl ⟨by rfl, ?_⟩) hHeld ?_ ?_
      rotate_left
      · rintro w' s0
        go_simp
        with_reducible rfl
      rotate_left
      · simp only [Act.put, List.setIfInBounds_toArray, List.set_cons_zero, List.set_cons_succ, i64_w, i32_w]
        rfl
      refine one_ (i := 2) (N := none) #[true, true, true, false, false] rfl rfl (by kernel_rfl) (by decide) (fun K hK => ?_)
      refine skip_ (w1 := ?_) (by rfl) rfl ?_ ?_
      rotate_left
      · go_simp
        rfl
      refine hK.out _ _ e7.cell (fun hHeld2 => ?_)
      clear hK K hHeld
      have hHeld := hHeld2
      clear hHeld2
      generalize (((((wd.setCell ⟨w.heap.size, 0, none⟩ (.int .i64 0)).setCell ⟨w.heap.size, 1, none⟩ (.int .i64 0)).setCell ⟨w.heap.size, 2, none⟩ (.int .i64 0)).setCell ⟨w.heap.size, 3, none⟩ (.int .i64 0)).setCell ⟨w.heap.size, 4, none⟩ (.slice none 0 0)) = we at c7 g7 v7 e7 B7 hHeld ⊢
      have hv7 := v7.cell
      have hvf7 := v7.frozen
      have g8 := sc_grown_setCell we (w.heap.size + 1) 0 (.int .i64 0)
      have v8 := v7.set (.int .i64 0)
      have c8 := c7.kept g8 (by intro e; injection e with e; omega)
      have e8 := e7.kept g8 (by intro e; injection e with e; omega)
      have B8 := B7.grown g8 B7.size (fun k e => by cases e; omega)
      refine one_ (i := 3) (N := none) #[true, true, true, true, false] rfl rfl (by kernel_rfl) (by decide) (fun K hK => ?_)
      refine skip_ (w1 := ?_) (by rfl) rfl ?_ ?_
      rotate_left
      · go_simp
        rfl
      refine hK.out _ _ e8.cell (fun hHeld2 => ?_)
      clear hK K hHeld
      have hHeld := hHeld2
      clear hHeld2
      generalize we.setCell ⟨w.heap.size + 1, 0, none⟩ (.int .i64 0) = wf at c8 g8 v8 e8 B8 hHeld ⊢
      have he8 := e8.cell
      have hef8 := e8.frozen
      have g9 := sc_grown_setCell wf (w.heap.size + 1 + 1) 0 (.int .i64 q)
      have e9 := e8.set (.int .i64 q)
      have c9 := c8.kept g9 (by intro e; injection e with e; omega)
      have v9 := v8.kept g9 (by intro e; injection e with e; omega)
      have B9 := B8.grown g9 B8.size (fun k e => by cases e; omega)
      refine last_ (i := 4) (N := none) #[true, true, true, true, true] rfl rfl (by kernel_rfl) (by decide) (fun K hK => ?_)
      refine skip_ (w1 := ?_) (by rfl) rfl ?_ ?_
      rotate_left
      · go_simp
        rfl
      refine hK.out _ _ ?_
      clear hK K
      refine done_ (by kernel_rfl) ?_
      try go_wp2
      refine leaves_cons (f := 25) (args := #[.pointer (some ⟨w.heap.size, 0, none⟩), .pointer (some ⟨w.heap.size + 1, 0, none⟩), .pointer (some ⟨w.heap.size + 1 + 1, 0, none⟩)]) (by simp) (by simp [go_sem]) ?_
      refine (dec_idle _ _ _ _).mono ?_
      rintro e u' Wl ⟨rfl, rfl, rfl⟩
      have hrr := H.out
      unfold sc_dec at hrr
      rw [HOK.out] at hrr
      dsimp only at hrr
      rw [HPQ.out] at hrr
      rw [if_pos HQ.out] at hrr
      cases hrr
      have ga := World.grownBy_alloc (wf.setCell ⟨w.heap.size + 1 + 1, 0, none⟩ (.int .i64 q)) (.cells #[.int .i64 0] 56) none
      refine leaves_nil (dec_res (bc := w.heap.size) (bv := w.heap.size + 1) (be := w.heap.size + 1 + 1) rfl rfl rfl (c9.kept ga (by simp)) rfl (v9.kept ga (by simp)) (e9.kept ga (by simp))) ?_
      exact ⟨_, rfl, Kd.R_nil _ _ _ _ _, B9.grown ga B9.size (fun k e => by cases e)⟩


/-! ### transeptref01_Number: function 44 -/
def transeptref01_Number.l0 : Nat → List Int → Int → Int → Option (Int)
  | 0, _, _, _ => none
  | k + 1, x0, x3, x4 => if x4 < (x0.length : Int) then (if 0 ≤ x4 then (transeptref01_Number.l0 k x0 (IntKind.u64.wrap ((IntKind.u64.wrap (x3 * 256)) + (IntKind.u64.wrap (rd x0 x4)))) (wrap64 (x4 + 1))) else (none)) else (some x3)
def transeptref01_Number.f (k : Nat) (l0 : List Int) : Option (Int) := transeptref01_Number.l0 k l0 0 0
theorem transeptref01_Number.mono_l : ∀ k, (∀ y0 y1 y2, LeO (transeptref01_Number.l0 k y0 y1 y2) (transeptref01_Number.l0 (k + 1) y0 y1 y2))
  | 0 => fun _ _ _ r h => by simp [transeptref01_Number.l0] at h
  | k + 1 => by
    have ih0 := transeptref01_Number.mono_l k
    · intro y0 y1 y2
      unfold transeptref01_Number.l0
      repeat' first
      | (with_reducible exact ih0 _ _ _)
      | (with_reducible exact LeO.refl _)
      | (with_reducible exact LeO.none _)
      | (with_reducible refine LeO.ite ?_ ?_)
      | (with_reducible refine LeO.bind ?_ (fun _ => ?_))
      | exact ih0 _ _ _
      | exact LeO.none _
      | refine LeO.ite ?_ ?_
      | refine LeO.bind ?_ (fun _ => ?_)
theorem transeptref01_Number.mono : ∀ a0 k, LeO (transeptref01_Number.f k a0) (transeptref01_Number.f (k + 1) a0) := by
  intro a0 k
  have ih0 := transeptref01_Number.mono_l k
  unfold transeptref01_Number.f
  repeat' first
      | (with_reducible exact ih0 _ _ _)
      | (with_reducible exact LeO.refl _)
      | (with_reducible exact LeO.none _)
      | (with_reducible refine LeO.ite ?_ ?_)
      | (with_reducible refine LeO.bind ?_ (fun _ => ?_))
      | exact ih0 _ _ _
      | exact LeO.none _
      | refine LeO.ite ?_ ?_
      | refine LeO.bind ?_ (fun _ => ?_)
set_option maxHeartbeats 8000000 in
set_option maxRecDepth 100000 in
theorem transeptref01_Number.calls (k : Nat) (A0 : Option Addr) (c0 : Nat) (l0 : List Int) (r : Int) (w : World) (hr0 : Kd.C (Kd.int .u8) w A0 l0.length l0) (hc0 : l0.length ≤ c0) (h : transeptref01_Number.f k l0 = some r) :
    Calls Try.prog 44 #[.slice A0 l0.length c0] w fun e w' => e = .returned (.int .u64 r) ∧ Drawn0 w w' := by
  have HR0 := Aside0.mk hr0
  have HC0 := Aside0.mk hc0
  clear hr0 hc0
  have H : (transeptref01_Number.l0 k l0 0 0) = some r := h
  clear h
  have H' := Aside0.mk H
  clear H
  go_enter Try.func44, Try.ntmps44
  go_wp2
  go_loopg [3, 4] k (fun kq v3 v4 w' => ∃ (x3_1 : Int) (x4_1 : Int), v3 = .int .u64 x3_1 ∧ v4 = .int .i64 x4_1 ∧ Aside0 (transeptref01_Number.l0 kq l0 x3_1 x4_1 = some r) ∧ Aside0 (kq ≤ k) ∧ Drawn0 w w')
  case atStart => exact ⟨(0), (0), (by first | rfl | (simp; done) | (simp [*]; done)), (by first | rfl | (simp; done) | (simp [*]; done)), H', ⟨Nat.le_refl _⟩, by repeat (first | exact Drawn0.refl _ | apply Drawn0.step)⟩
  case round =>
    clear H'
    obtain ⟨x3_1, x4_1, rfl, rfl, HA, HK1, ⟨m1, rfl⟩⟩ := hrel
    cases gk with
    | zero => exact absurd HA.out (by simp [transeptref01_Number.l0])
    | succ k1 =>
      have H := HA.out
      clear HA
      simp only [transeptref01_Number.l0] at H
      by_cases c2 : x4_1 < (l0.length : Int)
      · rw [if_pos c2] at H
        have c2b0 : decide (x4_1 < (l0.length : Int)) = true := decide_eq_true c2
        clear c2
        by_cases c3 : 0 ≤ x4_1
        · rw [if_pos c3] at H
          have c3b0 : decide (0 ≤ x4_1) = true := decide_eq_true c3
          clear c3
          have H' := Aside0.mk H
          clear H
          have p191 : 0 ≤ (x4_1 : Int) := of_decide_eq_true (by first | (with_reducible assumption) | assumption)
          have q191 : x4_1 < (l0.length : Int) := of_decide_eq_true (by first | (with_reducible assumption) | assumption)
          obtain ⟨ad191, e191, hx191_0⟩ := Kd.at_int HR0.out x4_1 p191 q191
          cases e191
          replace p191 := eq_true p191
          replace q191 := eq_true q191
          go_wp2
          go_roundg k1
          case measure => have := HK1.out; omega
          case rel => exact ⟨(IntKind.u64.wrap ((IntKind.u64.wrap (x3_1 * 256)) + (IntKind.u64.wrap (rd l0 x4_1)))), (wrap64 (x4_1 + 1)), (by first | rfl | (simp; done) | (simp [*]; done)), (by first | rfl | (simp; done) | (simp [*]; done)), H', ⟨by have := HK1.out; omega⟩, by repeat (first | exact Drawn0.refl _ | apply Drawn0.step)⟩
        · rw [if_neg c3] at H
          exact absurd H (by simp)
      · rw [if_neg c2] at H
        have c2b0 : decide (x4_1 < (l0.length : Int)) = false := decide_eq_false c2
        clear c2
        obtain rfl := Option.some.inj H
        go_wp2
        go_ret
        exact ⟨by first | rfl | (simp; done) | (simp [*]; done), by repeat (first | exact Drawn0.refl _ | apply Drawn0.step)⟩

/-! ### transeptref13_reader_take: function 45, by hand -/
/-- What a reader's take comes to: what is read, where it stands, its first error. -/
def rd_take (l : List Int) (p : Nat) (e : Int) (n : Nat) : List Int × Nat × Int := if e ≠ 0 then ([], p, e) else if l.length - p < n then ([], p, 8) else ((l.drop p).take n, p + n, e)
def rdBox (W : World) (B : Nat) (A : Option Addr) (c n : Nat) (p : Nat) (e : Int) : Prop := W.heap[B]? = some (.cells #[.slice A n c, .int .i64 (p : Int), .int .i64 e] 63 (0, 0))
theorem rdBox.lt {W : World} {B : Nat} {A : Option Addr} {c n p : Nat} {e : Int} (h : rdBox W B A c n p e) : B < W.heap.size := (Array.getElem?_eq_some_iff.1 h).1
theorem rdBox.kept {W W' : World} {row : Option Nat} {B : Nat} {A : Option Addr} {c n p : Nat} {e : Int} (h : rdBox W B A c n p e) (hg : W.grownBy W' row) (hne : some B ≠ row) : rdBox W' B A c n p e := (hg.block B h.lt hne).trans h
theorem rdBox.cell {W : World} {B : Nat} {A : Option Addr} {c n p : Nat} {e : Int} (h : rdBox W B A c n p e) : W.cell? ⟨B, 0, none⟩ = some (.slice A n c) ∧ W.cell? ⟨B, 1, none⟩ = some (.int .i64 (p : Int)) ∧ W.cell? ⟨B, 2, none⟩ = some (.int .i64 e) := by simp [World.cell?, show W.heap[B]? = _ from h]
theorem rdBox.frozen {W : World} {B : Nat} {A : Option Addr} {c n p : Nat} {e : Int} (h : rdBox W B A c n p e) (i : Nat) : W.frozen? ⟨B, i, none⟩ = false := by simp [World.frozen?, show W.heap[B]? = _ from h]
theorem rdBox.set1 {W : World} {B : Nat} {A : Option Addr} {c n p : Nat} {e : Int} (h : rdBox W B A c n p e) (q : Nat) : rdBox (W.setCell ⟨B, 1, none⟩ (.int .i64 (q : Int))) B A c n q e := by
  obtain ⟨hlt, hk⟩ := Array.getElem?_eq_some_iff.1 h
  show (W.heap.modify B _)[B]? = _
  rw [Array.getElem?_eq_getElem (by rw [Array.size_modify]; exact hlt), Array.getElem_modify_self, hk]
  rfl
theorem rdBox.set2 {W : World} {B : Nat} {A : Option Addr} {c n p : Nat} {e : Int} (h : rdBox W B A c n p e) (x : Int) : rdBox (W.setCell ⟨B, 2, none⟩ (.int .i64 x)) B A c n p x := by
  obtain ⟨hlt, hk⟩ := Array.getElem?_eq_some_iff.1 h
  show (W.heap.modify B _)[B]? = _
  rw [Array.getElem?_eq_getElem (by rw [Array.size_modify]; exact hlt), Array.getElem_modify_self, hk]
  rfl
/-- Block B holds a reader of the octets l of W0. -/
structure rdAt (W0 W : World) (B : Nat) (A : Option Addr) (c : Nat) (l : List Int) (p : Nat) (e : Int) : Prop where
  below : Below W0.heap.size W0 W
  hB : W0.heap.size ≤ B
  box : rdBox W B A c l.length p e
  hC : Kd.C (Kd.int .u8) W0 A l.length l
  hc : l.length ≤ c
  hp : p ≤ l.length
theorem rdAt.grown {W0 W W' : World} {B : Nat} {A : Option Addr} {c : Nat} {l : List Int} {p : Nat} {e : Int} (h : rdAt W0 W B A c l p e) {row : Option Nat} (hg : W.grownBy W' row) (hr : ∀ k, row = some k → W0.heap.size ≤ k ∧ k ≠ B) : rdAt W0 W' B A c l p e :=
  ⟨h.below.grown hg h.below.size (fun k e => (hr k e).1), h.hB, h.box.kept hg (fun e => (hr B e.symm).2 rfl), h.hC, h.hc, h.hp⟩
theorem rdAt.set1 {W0 W : World} {B : Nat} {A : Option Addr} {c : Nat} {l : List Int} {p : Nat} {e : Int} (h : rdAt W0 W B A c l p e) (q : Nat) (hq : q ≤ l.length) : rdAt W0 (W.setCell ⟨B, 1, none⟩ (.int .i64 (q : Int))) B A c l q e :=
  ⟨h.below.setCell (p := ⟨B, 1, none⟩) h.hB _, h.hB, h.box.set1 q, h.hC, h.hc, hq⟩
theorem rdAt.set2 {W0 W : World} {B : Nat} {A : Option Addr} {c : Nat} {l : List Int} {p : Nat} {e : Int} (h : rdAt W0 W B A c l p e) (x : Int) : rdAt W0 (W.setCell ⟨B, 2, none⟩ (.int .i64 x)) B A c l p x :=
  ⟨h.below.setCell (p := ⟨B, 2, none⟩) h.hB _, h.hB, h.box.set2 x, h.hC, h.hc, h.hp⟩
def rdTake (W0 W : World) (B : Nat) (A : Option Addr) (c : Nat) (l : List Int) (r : List Int × Nat × Int) (e : Ending) (W' : World) : Prop :=
  W.grownBy W' (some B) ∧ rdAt W0 W' B A c l r.2.1 r.2.2 ∧ ∃ A' c', e = .returned (.slice A' r.1.length c') ∧ Kd.C (Kd.int .u8) W0 A' r.1.length r.1 ∧ r.1.length ≤ c'
set_option maxHeartbeats 4000000 in
set_option maxRecDepth 100000 in
theorem rd_take_calls (W0 W : World) (B : Nat) (A : Option Addr) (c : Nat) (l : List Int) (p : Nat) (x : Int) (n : Nat) (hn : n ≤ 65535) (hs : rdAt W0 W B A c l p x) :
    Calls Try.prog 45 #[.pointer (some ⟨B, 0, none⟩), .int .i64 (n : Int)] W fun e W' => rdTake W0 W B A c l (rd_take l p x n) e W' := by
  have HS := Aside0.mk hs
  have hcell := hs.box.cell
  have hfz := hs.box.frozen 2
  have hfz1 := hs.box.frozen 1
  have hmax : l.length ≤ 9223372036854775807 := hs.hC.2.1
  have hp := hs.hp
  have nilC : Kd.C (Kd.int .u8) W0 (none : Option Addr) 0 [] := Kd.C_of_reads (d := 0) (h1 := fun _ => rfl) ⟨rfl, by simp, fun h => absurd h (by decide)⟩
  have HNIL := Aside0.mk nilC
  clear hs nilC
  by_cases he : x = 0
  · subst he
    by_cases hlt : l.length - p < n
    · have HT := Aside0.mk (show rd_take l p 0 n = ([], p, 8) by unfold rd_take; rw [if_neg (by decide), if_pos hlt])
      have hd : decide (((l.length : Int) - (p : Int)) < (n : Int)) = true := decide_eq_true (by omega)
      have hw : wrap64 ((l.length : Int) - (p : Int)) = (l.length : Int) - (p : Int) := wrap_add (by omega) (by omega)
      go_enter Try.func45, Try.ntmps45
      go_wp2_with fail
      go_region
      go_wp2
      go_ret
      rw [HT.out]
      exact show rdTake W0 W B A c l ([], p, 8) _ _ from ⟨World.grownBy.trans (sc_grown_setCell W B 2 _) ⟨rfl, rfl, rfl, Nat.le_refl _, fun _ _ _ => rfl⟩, (HS.out.set2 8).grown (row := none) ⟨rfl, rfl, rfl, Nat.le_refl _, fun _ _ _ => rfl⟩ (fun k e => by cases e), none, 0, rfl, HNIL.out, Nat.le_refl _⟩
    · have hpn : p + n ≤ l.length := by omega
      have hT : rd_take l p 0 n = ((l.drop p).take n, p + n, 0) := by unfold rd_take; rw [if_neg (by decide), if_neg hlt]
      have hlen : ((l.drop p).take n).length = n := by rw [List.length_take, List.length_drop]; omega
      have hmid : (l.take (p + n)).drop p = (l.drop p).take n := by rw [List.drop_take]; congr 1; omega
      have hrd := ((Kd.reads_of_C (d := (0 : Int)) HS.out.hC).take_ (p + n) hpn).drop_ p (by omega) (show p + n ≤ c by have := HS.out.hc; omega)
      rw [hmid, show p + n - p = n by omega] at hrd
      have HRD := Aside0.mk (Kd.C_of_reads (d := (0 : Int)) (h1 := fun _ => rfl) (by rw [hlen]; exact hrd) : Kd.C (Kd.int .u8) W0 (if c = p then A else A.map (·.add p)) ((l.drop p).take n).length ((l.drop p).take n))
      have HT := Aside0.mk hT
      have HLEN := Aside0.mk hlen
      have HCP := Aside0.mk (show n ≤ c - p by have := HS.out.hc; omega)
      have hd : decide (((l.length : Int) - (p : Int)) < (n : Int)) = false := decide_eq_false (by omega)
      have hw : wrap64 ((l.length : Int) - (p : Int)) = (l.length : Int) - (p : Int) := wrap_add (by omega) (by omega)
      have hw2 : wrap64 ((p : Int) + (n : Int)) = ((p + n : Nat) : Int) := by rw [wrap_add (by omega) (by omega)]; omega
      have hw3 : wrap64 (((p + n : Nat) : Int) - (n : Int)) = (p : Int) := by rw [wrap_add (by omega) (by omega)]; omega
      have HPN := Aside0.mk hpn
      have hpc : p + n ≤ c := by have := HS.out.hc; omega
      clear hT hlen hmid hrd
      go_enter Try.func45, Try.ntmps45
      go_wp2_with fail
      go_region
      have hb2 := (HS.out.box.set1 (p + n)).cell
      go_wp2_with fail
      by_cases hcp : c = p
      · have HR2 := Aside0.mk (by have := HRD.out; rwa [if_pos hcp] at this : Kd.C (Kd.int .u8) W0 A ((l.drop p).take n).length ((l.drop p).take n))
        clear HRD
        go_region
        go_wp2
        go_ret
        rw [HT.out]
        exact show rdTake W0 W B A c l ((l.drop p).take n, p + n, 0) _ _ from ⟨World.grownBy.trans (sc_grown_setCell W B 1 _) ⟨rfl, rfl, rfl, Nat.le_refl _, fun _ _ _ => rfl⟩, (HS.out.set1 (p + n) HPN.out).grown (row := none) ⟨rfl, rfl, rfl, Nat.le_refl _, fun _ _ _ => rfl⟩ (fun k e => by cases e), A, 0, by rw [HLEN.out]; show Ending.returned (Value.slice A (p + n - p) 0) = _; rw [Nat.add_sub_cancel_left], HR2.out, by rw [HLEN.out]; have := HCP.out; omega⟩
      · have HR2 := Aside0.mk (by have := HRD.out; rwa [if_neg hcp] at this : Kd.C (Kd.int .u8) W0 (A.map (·.add p)) ((l.drop p).take n).length ((l.drop p).take n))
        have hcp3 := eq_false hcp
        clear HRD hcp
        go_region
        go_wp2
        go_ret
        rw [HT.out]
        exact show rdTake W0 W B A c l ((l.drop p).take n, p + n, 0) _ _ from ⟨World.grownBy.trans (sc_grown_setCell W B 1 _) ⟨rfl, rfl, rfl, Nat.le_refl _, fun _ _ _ => rfl⟩, (HS.out.set1 (p + n) HPN.out).grown (row := none) ⟨rfl, rfl, rfl, Nat.le_refl _, fun _ _ _ => rfl⟩ (fun k e => by cases e), (A.map (·.add p)), c - p, by rw [HLEN.out]; show Ending.returned (Value.slice (A.map (·.add p)) (p + n - p) (c - p)) = _; rw [Nat.add_sub_cancel_left], HR2.out, by rw [HLEN.out]; have := HCP.out; omega⟩
  · have HT := Aside0.mk (show rd_take l p x n = ([], p, x) by unfold rd_take; rw [if_pos he])
    have hx1 : (x == 0) = false := by simpa using he
    have hx2 : (x != 0) = true := by simpa using he
    go_enter Try.func45, Try.ntmps45
    go_wp2
    go_ret
    rw [HT.out]
    exact show rdTake W0 W B A c l ([], p, x) _ _ from ⟨⟨rfl, rfl, rfl, Nat.le_refl _, fun _ _ _ => rfl⟩, HS.out, none, 0, rfl, HNIL.out, Nat.le_refl _⟩

/-! ### transeptref13_reader_num: function 27, by hand -/
def rd_num (l : List Int) (p : Nat) (e : Int) (n : Nat) : Int × Nat × Int := (sc_be (rd_take l p e n).1, (rd_take l p e n).2)
theorem number_l0 (l : List Int) (hl : sc_bytes l) (h8 : l.length ≤ 8) (d : Nat) : ∀ (k i : Nat) (n : Nat), i ≤ l.length → l.length - i = d → d < k → n < 256 ^ i →
    transeptref01_Number.l0 k l (n : Int) (i : Int) = some ((l.drop i).foldl (fun n x => n * 256 + x) (n : Int)) := by
  induction d with
  | zero =>
    intro k i n h1 h2 h3 h4
    obtain ⟨k, rfl⟩ : ∃ m, k = m + 1 := ⟨k - 1, by omega⟩
    obtain rfl : i = l.length := by omega
    simp only [transeptref01_Number.l0]
    rw [if_neg (by omega), List.drop_length]
    rfl
  | succ d ih =>
    intro k i n h1 h2 h3 h4
    obtain ⟨k, rfl⟩ : ∃ m, k = m + 1 := ⟨k - 1, by omega⟩
    have hlt : i < l.length := by omega
    have hn : n < 72057594037927936 := Nat.lt_of_lt_of_le h4 (by have : (256 : Nat) ^ i ≤ 256 ^ 7 := Nat.pow_le_pow_right (by omega) (by omega); simpa using this)
    have hb := hl _ (List.getElem_mem hlt)
    obtain ⟨b, hb'⟩ := Int.eq_ofNat_of_zero_le hb.1
    have hrd : rd l (i : Int) = l[i] := by simp [rd, List.getD_eq_getElem?_getD, List.getElem?_eq_getElem hlt]
    simp only [transeptref01_Number.l0]
    rw [if_pos (by omega), if_pos (by omega), hrd, List.drop_eq_getElem_cons hlt, hb']
    rw [show IntKind.u64.wrap ((n : Int) * 256) = (n : Int) * 256 by rw [IntKind.wrap_u64]; omega, show IntKind.u64.wrap (b : Int) = (b : Int) by rw [IntKind.wrap_u64]; omega, show IntKind.u64.wrap ((n : Int) * 256 + (b : Int)) = (n : Int) * 256 + b by rw [IntKind.wrap_u64]; omega, wrap_next hlt (by omega)]
    have := ih k (i + 1) (n * 256 + b) (by omega) (by omega) (by omega) (by rw [Nat.pow_succ]; omega)
    rw [show ((n * 256 + b : Nat) : Int) = (n : Int) * 256 + b by omega] at this
    rw [this]
    rfl
theorem number_f (l : List Int) (hl : sc_bytes l) (h8 : l.length ≤ 8) : transeptref01_Number.f 20 l = some (sc_be l) := by
  unfold transeptref01_Number.f
  have := number_l0 l hl h8 l.length 20 0 0 (by omega) (by omega) (by omega) (by simp)
  rw [List.drop_zero] at this
  exact this
theorem rd_take_bytes {l : List Int} (hl : sc_bytes l) (p : Nat) (e : Int) (n : Nat) : sc_bytes (rd_take l p e n).1 := by
  unfold rd_take
  split
  · intro x hx; cases hx
  · split
    · intro x hx; cases hx
    · exact sc_bytes_take (sc_bytes_drop hl p) n
theorem rd_take_len (l : List Int) (p : Nat) (e : Int) (n : Nat) : (rd_take l p e n).1.length ≤ n := by
  unfold rd_take
  split
  · simp
  · split
    · simp
    · rw [List.length_take]; omega
theorem rd_num_lt {l : List Int} (hl : sc_bytes l) (p : Nat) (e : Int) (n : Nat) : 0 ≤ (rd_num l p e n).1 ∧ (rd_num l p e n).1 < 256 ^ n := by
  have h := sc_be_lt _ (rd_take_bytes hl p e n) 0 (by omega)
  refine ⟨h.1, Int.lt_of_lt_of_le h.2 ?_⟩
  have h2 := rd_take_len l p e n
  rw [Int.zero_add, Int.one_mul]
  have h3 := Int.ofNat_le.2 (Nat.pow_le_pow_right (n := 256) (by omega) h2)
  simpa using h3
def rdNum (W0 W : World) (B : Nat) (A : Option Addr) (c : Nat) (l : List Int) (k : IntKind) (r : Int × Nat × Int) (e : Ending) (W' : World) : Prop :=
  W.grownBy W' (some B) ∧ rdAt W0 W' B A c l r.2.1 r.2.2 ∧ e = .returned (.int k r.1)
set_option maxHeartbeats 4000000 in
set_option maxRecDepth 100000 in
theorem rd_num_calls (W0 W : World) (B : Nat) (A : Option Addr) (c : Nat) (l : List Int) (hl : sc_bytes l) (p : Nat) (x : Int) (n : Nat) (hn : n ≤ 8) (hs : rdAt W0 W B A c l p x) :
    Calls Try.prog 27 #[.pointer (some ⟨B, 0, none⟩), .int .i64 (n : Int)] W fun e W' => rdNum W0 W B A c l .u64 (rd_num l p x n) e W' := by
  have T := Aside0.mk (rd_take_calls W0 W B A c l p x n (by omega) hs)
  have HNF := Aside0.mk (number_f _ (rd_take_bytes hl p x n) (Nat.le_trans (rd_take_len l p x n) hn))
  clear hs hl
  go_enter Try.func27, Try.ntmps27
  go_wp2_with fail
  refine T.out.mono ?_
  rintro e W1 ⟨hg, hs1, A1, c1, rfl, hC1, hc1⟩
  have N := Aside0.mk (transeptref01_Number.calls 20 A1 c1 _ _ W1 (Kd.C_below hC1 hs1.below) hc1 HNF.out)
  have HG := Aside0.mk hg
  have HS := Aside0.mk hs1
  clear hg hs1 hC1 hc1 T HNF
  go_wp2_with fail
  refine N.out.mono ?_
  rintro e W2 ⟨rfl, hd⟩
  obtain ⟨nd, rfl⟩ := hd.out
  go_wp2
  go_ret
  exact show rdNum W0 W B A c l .u64 (rd_num l p x n) _ _ from ⟨HG.out.trans (sc_grown_drewN _ _ _), HS.out.grown (row := none) (sc_grown_drewN _ _ _) (fun k e => by cases e), rfl⟩

/-! ### transeptref13_reader_groups: function 28, by hand -/
def rd_groups : Nat → Nat → Int → List Int → Nat → Int → Int × Nat × Int
  | 0, _, _, _, p, _ => (0, p, 4)
  | f + 1, i, n, l, p, e => match rd_num l p e 1 with
    | (c, p1, e1) => if e1 ≠ 0 then (0, p1, e1) else if c < 128 then (n + c % 128 * 128 ^ i, p1, if c = 0 ∧ 0 < i then 4 else e1) else rd_groups f (i + 1) (n + c % 128 * 128 ^ i) l p1 e1
set_option maxHeartbeats 4000000 in
set_option maxRecDepth 100000 in
theorem rd_groups_calls (W0 W : World) (B : Nat) (A : Option Addr) (c0 : Nat) (l : List Int) (hl : sc_bytes l) (p : Nat) (x : Int) (hs : rdAt W0 W B A c0 l p x) :
    Calls Try.prog 28 #[.pointer (some ⟨B, 0, none⟩)] W fun e W' => rdNum W0 W B A c0 l .i64 (rd_groups 6 0 0 l p x) e W' := by
  have HL := Aside0.mk hl
  have HS := Aside0.mk hs
  clear hs hl
  go_enter Try.func28, Try.ntmps28
  go_wp2
  go_loopw [3, 4] (fun n i wr => ∃ (j m q : Nat) (e : Int), j ≤ 6 ∧ i = .int .i64 j ∧ n = .int .i64 m ∧ Aside0 (m < 128 ^ j) ∧ Aside0 (rdAt W0 wr B A c0 l q e) ∧ Aside0 (W.grownBy wr (some B)) ∧ Aside0 (rd_groups 6 0 0 l p x = rd_groups (6 - j) j m l q e)) (fun _ i _ => 6 - (intOf i).toNat)
  case atStart =>
    exact ⟨0, 0, p, x, by omega, rfl, rfl, ⟨by simp⟩, HS, ⟨⟨rfl, rfl, rfl, Nat.le_refl _, fun _ _ _ => rfl⟩⟩, ⟨rfl⟩⟩
  case round =>
    obtain ⟨j, m, q, e, hj, rfl, rfl, HM, HA, HG, HE⟩ := hrel
    clear HS
    by_cases hlt : j < 6
    · have T := Aside0.mk (rd_num_calls W0 wr B A c0 l HL.out q e 1 (by decide) HA.out)
      obtain ⟨f, hf⟩ : ∃ f, 6 - j = f + 1 := ⟨5 - j, by omega⟩
      go_wp2_with fail
      refine T.out.mono ?_
      rintro e2 W' ⟨hg, hs1, rfl⟩
      have hb := rd_num_lt HL.out q e 1
      have HE2 := Aside0.mk (HE.out.trans (by rw [hf]; rfl : rd_groups (6 - j) j m l q e = match rd_num l q e 1 with
        | (c, p1, e1) => if e1 ≠ 0 then (0, p1, e1) else if c < 128 then ((m : Int) + c % 128 * 128 ^ j, p1, if c = 0 ∧ 0 < j then 4 else e1) else rd_groups f (j + 1) ((m : Int) + c % 128 * 128 ^ j) l p1 e1))
      generalize hr : rd_num l q e 1 = r at hb hs1 HE2 ⊢
      obtain ⟨cv, cp, ce⟩ := r
      dsimp only at hs1 HE2 hb ⊢
      obtain ⟨c, rfl⟩ := Int.eq_ofNat_of_zero_le hb.1
      have hc1 : (c : Int) < 256 := by have := hb.2; simpa using this
      have HG2 := Aside0.mk (HG.out.trans hg)
      have HS2 := Aside0.mk hs1
      have HF := Aside0.mk hf
      have hcell := hs1.box.cell
      have hfz := hs1.box.frozen 2
      have hc0 : (0 : Int) ≤ (c : Int) := by omega
      clear hg hs1 HG T hr hb HE hf
      by_cases hce : ce = 0
      · subst hce
        have hand := i64_and127 (c : Int)
        have hgr := sc_group m j (c : Int) hlt HM.out hc0
        have hp : (128 : Nat) ^ j ≤ 128 ^ 5 := Nat.pow_le_pow_right (by omega) (by omega)
        obtain ⟨g, hg7⟩ := Int.eq_ofNat_of_zero_le (show 0 ≤ (c : Int) % 128 by omega)
        have hg8 : g < 128 := by omega
        have hm2 : g * 128 ^ j ≤ 127 * 128 ^ 5 := Nat.mul_le_mul (by omega) hp
        have e7 : (2 : Int) ^ (7 * j) = 128 ^ j := by rw [Int.pow_mul]; rfl
        have hpk : ((c : Int) % 128 * 128 ^ j : Int) = ((g * 128 ^ j : Nat) : Int) := by rw [hg7, Int.natCast_mul, Int.natCast_pow]; rfl
        obtain ⟨z, hz⟩ : ∃ z : Nat, z = m + g * 128 ^ j := ⟨_, rfl⟩
        have hor : Go.bits .or .i64 (m : Int) (wrap64 ((c : Int) % 128 * 2 ^ (7 * j))) = (z : Int) := by
          rw [e7, wrap_add (by omega) (by omega), hgr, hpk]
          omega
        have HMK := Aside0.mk (show (m : Int) + (c : Int) % 128 * 128 ^ j = (z : Int) by rw [hpk]; omega)
        have HM2 := Aside0.mk (show z < 128 ^ (j + 1) by
          have h1 := HM.out
          have h2 : g * 128 ^ j ≤ 127 * 128 ^ j := Nat.mul_le_mul_right _ (by omega)
          rw [Nat.pow_succ]
          omega)
        clear hz hgr hp hg7 hg8 hm2 e7 hpk
        by_cases c128 : (c : Int) < 128
        · have HC8 := Aside0.mk c128
          by_cases e0 : c = 0 ∧ 0 < j
          · have e00 := e0.1
            have e01 := e0.2
            have HX := Aside0.mk (show rd_groups 6 0 0 l p x = ((z : Int), cp, 4) by rw [HE2.out, if_neg (by decide), if_pos c128, if_pos (by omega), HMK.out])
            subst e00
            have hz0 : (z : Int) = (m : Int) := by have := HMK.out; simpa using this.symm
            have hand0 : Go.bits .and .i64 0 127 = 0 := by have := i64_and127 0; simpa using this
            have hw0 : wrap64 0 = 0 := by unfold wrap64; omega
            have hor0 : Go.bits .or .i64 (m : Int) (wrap64 0) = (z : Int) := by rw [← hor]; simp
            have hor1 : Go.bits .or .i64 (m : Int) 0 = (z : Int) := by rw [← hor0, hw0]
            clear e0 hor hz0 HMK
            go_wp2
            go_ret
            rw [HX.out]
            exact show rdNum W0 W B A c0 l .i64 ((z : Int), cp, 4) _ _ from ⟨HG2.out.trans (sc_grown_setCell _ _ _ _), HS2.out.set2 4, rfl⟩
          · have HX := Aside0.mk (show rd_groups 6 0 0 l p x = ((z : Int), cp, 0) by rw [HE2.out, if_neg (by decide), if_pos c128, if_neg (by omega), HMK.out])
            by_cases e1 : c = 0
            · have j0 : ¬ 0 < j := fun h => e0 ⟨e1, h⟩
              obtain rfl : j = 0 := by omega
              have hm0 : m = 0 := by have := HM.out; simp at this; exact this
              subst hm0
              subst e1
              have hzz : z = 0 := by have := HMK.out; simp at this; omega
              subst hzz
              have hand0 : Go.bits .and .i64 0 127 = 0 := by have := i64_and127 0; simpa using this
              have hw0 : wrap64 0 = 0 := by unfold wrap64; omega
              have h01 : Go.bits .or .i64 0 0 = 0 := by have := sc_or_i64 0 0 (by omega) (by omega); simpa using this
              have h00 : Go.bits .or .i64 0 (wrap64 0) = 0 := by rw [hw0]; exact h01
              clear hor HMK e0
              go_wp2
              go_ret
              rw [HX.out]
              exact show rdNum W0 W B A c0 l .i64 ((0 : Nat), cp, 0) _ _ from ⟨HG2.out, HS2.out, rfl⟩
            · clear e0
              go_wp2
              go_ret
              rw [HX.out]
              exact show rdNum W0 W B A c0 l .i64 ((z : Int), cp, 0) _ _ from ⟨HG2.out, HS2.out, rfl⟩
        · have HC8 := Aside0.mk (show ¬ (c : Int) < 128 from c128)
          go_wp2
          go_roundw
          case rel =>
            exact ⟨j + 1, z, cp, 0, by omega, by go_num, rfl, HM2, HS2, HG2, ⟨by rw [HE2.out, if_neg (by decide), if_neg (by have := HC8.out; omega), HMK.out, show 6 - (j + 1) = f by have := HF.out; omega]⟩⟩
          case measure => simp [intOf]; omega
      · have HX := Aside0.mk (show rd_groups 6 0 0 l p x = (0, cp, ce) by rw [HE2.out, if_pos hce])
        have h1 : (ce == 0) = false := by simpa using hce
        have h2 : (ce != 0) = true := by simpa using hce
        go_wp2
        go_ret
        rw [HX.out]
        exact show rdNum W0 W B A c0 l .i64 (0, cp, ce) _ _ from ⟨HG2.out, HS2.out, rfl⟩
    · obtain rfl : j = 6 := by omega
      clear hlt
      have hfz := HA.out.box.frozen 2
      have hcell := HA.out.box.cell
      go_wp2
      go_ret
      rw [HE.out]
      exact show rdNum W0 W B A c0 l .i64 (0, q, 4) _ _ from ⟨HG.out.trans (sc_grown_setCell _ _ _ _), HA.out.set2 4, rfl⟩

end Go.Proofs.Ytpjaebbgbmhneaa.Print
