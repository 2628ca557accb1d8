/- Written by pp.py, a program of this project that runs the kit's print over the translation, with functions proved by hand put in. Lean checks it. -/
import Derived.Test.YtpjaebbgbmhneaaPrint0
import Derived.Test.YtpjaebbgbmhneaaPrint8
import Derived.Test.YtpjaebbgbmhneaaPrint9
namespace Go.Proofs.Ytpjaebbgbmhneaa.Print
open Go.RowKit Go.Proofs.YtpjaebbgbmhneaaW.PrintWords Go.Proofs.YtpjaebbgbmhneaaW.PrintLast Go.Proofs.YtpjaebbgbmhneaaW.PrintMore
attribute [local go_sem] max2_int min2_int max_two min_two max_three min_three max_four min_four   -- for this text's walks alone
set_option linter.unusedVariables false
set_option linter.unusedSimpArgs false

/-! ### command_scanner_command: function 26, by hand -/
abbrev ScOp := S48
def sc_fix (t : List Int) : Except Int (Int × List Int) := if t.length < 8 then .error 8 else .ok (min (sc_be (t.take 8)) 1099511627777, t.drop 8)
def sc_ops : Nat → Int → List Int → Except Int (List ScOp × List Int)
  | 0, _, l => .ok ([], l)
  | n + 1, v, l => match sc_op v l with
    | .error x => .error x
    | .ok (o, t) => match sc_ops n v t with
      | .error x => .error x
      | .ok (os, u) => .ok (o :: os, u)
/-- What a number of ops comes to behind those that were read. -/
def sc_more (acc : List ScOp) (r : Except Int (List ScOp × List Int)) : Except Int (List ScOp × List Int) := match r with
  | .error x => .error x
  | .ok (os, u) => .ok (acc ++ os, u)
/-- A command of octets: kind, number, home, verdict, ops, version. -/
def sc_cmd : List Int → Except Int (Int × Int × Int × Int × List ScOp × Int)
  | [] => .error 8
  | v :: t => if v ≠ 1 ∧ v ≠ 2 then .error 131 else match t with
    | [] => .error 8
    | kind :: t1 => match (if v = 1 then sc_fix t1 else sc_var 6 0 0 t1) with
      | .error x => .error x
      | .ok (txn, t2) => match t2 with
        | home :: verd :: cnt :: t3 => match sc_ops cnt.toNat v t3 with
          | .error x => .error x
          | .ok (ops, t4) => if 0 < t4.length then .error 23 else .ok (kind, txn, home, verd, ops, v)
        | _ => .error 8
def scCmd (W0 W : World) (B : Nat) (r : Except Int (Int × Int × Int × Int × List ScOp × Int)) (e : Ending) (W' : World) : Prop := W.grownBy W' (some B) ∧
  ((∃ x, r = .error x ∧ e = .panicked (sc_stop x)) ∨ (∃ a b c d os v u, r = .ok (a, b, c, d, os, v) ∧ e = .returned (.tuple #[.agg #[.int .i64 a, .int .i64 b, .int .i64 c, .int .i64 d, u], .int .i64 v]) ∧ Kd.R k48 48 W' W.heap.size (fun _ => True) u os))
def cmBox (W : World) (b : Nat) (a1 a2 a3 a4 : Int) (v : Value) : Prop := W.heap[b]? = some (.cells #[.int .i64 a1, .int .i64 a2, .int .i64 a3, .int .i64 a4, v] 24 (0, 0))
theorem cmBox.lt {W : World} {b : Nat} {a1 a2 a3 a4 : Int} {v : Value} (h : cmBox W b a1 a2 a3 a4 v) : b < W.heap.size := (Array.getElem?_eq_some_iff.1 h).1
theorem cmBox.kept {W W' : World} {row : Option Nat} {b : Nat} {a1 a2 a3 a4 : Int} {v : Value} (h : cmBox W b a1 a2 a3 a4 v) (hg : W.grownBy W' row) (hne : some b ≠ row) : cmBox W' b a1 a2 a3 a4 v := (hg.block b h.lt hne).trans h
theorem cmBox.cell {W : World} {b : Nat} {a1 a2 a3 a4 : Int} {v : Value} (h : cmBox W b a1 a2 a3 a4 v) : W.cell? ⟨b, 0, none⟩ = some (.int .i64 a1) ∧ W.cell? ⟨b, 1, none⟩ = some (.int .i64 a2) ∧ W.cell? ⟨b, 2, none⟩ = some (.int .i64 a3) ∧ W.cell? ⟨b, 3, none⟩ = some (.int .i64 a4) ∧ W.cell? ⟨b, 4, none⟩ = some v := by simp [World.cell?, show W.heap[b]? = _ from h]
theorem cmBox.frozen {W : World} {b : Nat} {a1 a2 a3 a4 : Int} {v : Value} (h : cmBox W b a1 a2 a3 a4 v) (i : Nat) : W.frozen? ⟨b, i, none⟩ = false := by simp [World.frozen?, show W.heap[b]? = _ from h]
theorem cmBox.set0 {W : World} {b : Nat} {a1 a2 a3 a4 : Int} {v : Value} (h : cmBox W b a1 a2 a3 a4 v) (x : Int) : cmBox (W.setCell ⟨b, 0, none⟩ (.int .i64 x)) b x a2 a3 a4 v := by
  obtain ⟨hlt, hk⟩ := Array.getElem?_eq_some_iff.1 h
  show (W.heap.modify b _)[b]? = _
  rw [Array.getElem?_eq_getElem (by rw [Array.size_modify]; exact hlt), Array.getElem_modify_self, hk]
  rfl
theorem cmBox.set1 {W : World} {b : Nat} {a1 a2 a3 a4 : Int} {v : Value} (h : cmBox W b a1 a2 a3 a4 v) (x : Int) : cmBox (W.setCell ⟨b, 1, none⟩ (.int .i64 x)) b a1 x a3 a4 v := by
  obtain ⟨hlt, hk⟩ := Array.getElem?_eq_some_iff.1 h
  show (W.heap.modify b _)[b]? = _
  rw [Array.getElem?_eq_getElem (by rw [Array.size_modify]; exact hlt), Array.getElem_modify_self, hk]
  rfl
theorem cmBox.set2 {W : World} {b : Nat} {a1 a2 a3 a4 : Int} {v : Value} (h : cmBox W b a1 a2 a3 a4 v) (x : Int) : cmBox (W.setCell ⟨b, 2, none⟩ (.int .i64 x)) b a1 a2 x a4 v := by
  obtain ⟨hlt, hk⟩ := Array.getElem?_eq_some_iff.1 h
  show (W.heap.modify b _)[b]? = _
  rw [Array.getElem?_eq_getElem (by rw [Array.size_modify]; exact hlt), Array.getElem_modify_self, hk]
  rfl
theorem cmBox.set3 {W : World} {b : Nat} {a1 a2 a3 a4 : Int} {v : Value} (h : cmBox W b a1 a2 a3 a4 v) (x : Int) : cmBox (W.setCell ⟨b, 3, none⟩ (.int .i64 x)) b a1 a2 a3 x v := by
  obtain ⟨hlt, hk⟩ := Array.getElem?_eq_some_iff.1 h
  show (W.heap.modify b _)[b]? = _
  rw [Array.getElem?_eq_getElem (by rw [Array.size_modify]; exact hlt), Array.getElem_modify_self, hk]
  rfl
theorem cmBox.set4 {W : World} {b : Nat} {a1 a2 a3 a4 : Int} {v : Value} (h : cmBox W b a1 a2 a3 a4 v) (u : Value) : cmBox (W.setCell ⟨b, 4, none⟩ (u)) b a1 a2 a3 a4 u := by
  obtain ⟨hlt, hk⟩ := Array.getElem?_eq_some_iff.1 h
  show (W.heap.modify b _)[b]? = _
  rw [Array.getElem?_eq_getElem (by rw [Array.size_modify]; exact hlt), Array.getElem_modify_self, hk]
  rfl
theorem ops_grown {W W' : World} {base : Nat} {row : Option Nat} {v : Value} {os : List ScOp} (h : Kd.R k48 48 W base (fun _ => True) v os) (hg : W.grownBy W' row) (hne : v.ownBlock = none ∨ v.ownBlock ≠ row) : Kd.R k48 48 W' base (fun _ => True) v os := by
  obtain ⟨h0, inner, hown, hr⟩ := h
  exact ⟨fun _ _ => trivial, inner, hown.kept hg hne, hr.imp_ (fun x cs hx => by rw [k48_openM hx]; exact k48_mkM _ _ _ _)⟩
theorem ops_base {W : World} {base : Nat} {v : Value} {os : List ScOp} (h : Kd.R k48 48 W base (fun _ => True) v os) : ∀ k, v.ownBlock = some k → base ≤ k ∧ k < W.heap.size ∧ ∃ cs, W.heap[k]? = some (.cells cs 48 (0, 0)) := by
  obtain ⟨h0, inner, hown, hr⟩ := h
  intro k hk
  rcases hown.2 with ⟨rfl, _⟩ | ⟨g, cap, cur, rfl, hb, hgg, _⟩
  · simp [Value.ownBlock] at hk
  · obtain rfl : g = k := by simpa [Value.ownBlock] using hk
    exact ⟨hb, (Array.getElem?_eq_some_iff.1 hgg).1, cur, hgg⟩
theorem ops_app {W : World} {base : Nat} {v : Value} {os : List ScOp} (o : ScOp) (h : Kd.R k48 48 W base (fun _ => True) v os) (hbase : base ≤ W.heap.size) (hl : (os.length + 1) * 40 ≤ 140737488355328) :
    ∃ g cap W', (shutApp #[22, 22] 22 #[v, .slice (some ⟨W.heap.size, 0, none⟩) 1 1]).run Try.prog (W.alloc (.cells #[.int .i64 o.f0, .string o.f1, .string o.f2] 48)) = .ok (.value (.slice (some ⟨g, 0, none⟩) (os.length + 1) cap)) W' ∧ (Builtin.append_ #[22, 22] 22 #[v, .slice (some ⟨W.heap.size, 0, none⟩) 1 1]).run Try.prog (W.alloc (.cells #[.int .i64 o.f0, .string o.f1, .string o.f2] 48)) = .ok (.slice (some ⟨g, 0, none⟩) (os.length + 1) cap) W' ∧
      Kd.R k48 48 W' base (fun _ => True) (.slice (some ⟨g, 0, none⟩) (os.length + 1) cap) (os ++ [o]) ∧ W.grownBy W' v.ownBlock := by
  obtain ⟨i0, hi, hz0, hz1, hz2⟩ := info_parts info48
  obtain ⟨h0, inner, hown, hr⟩ := h
  have hml : maxLen = 9223372036854775807 := rfl
  obtain ⟨v', W', hrun, hown', hg, _, hat⟩ := run_append_own_at (P := Try.prog) (W.alloc (.cells #[.int .i64 o.f0, .string o.f1, .string o.f2] 48)) base 22 22 48 i0 (.agg #[(.int .i64 0), (.string ⟨#[]⟩), (.string ⟨#[]⟩)]) 3 40 Try.underlying22 hi hz0 hz1 hz2 rfl (by decide) v os.length inner (hown.alloc _) ⟨W.heap.size, 0, none⟩ 1 1 [.int .i64 o.f0, .string o.f1, .string o.f2] rfl
    (by simpa using World.news_of_block (cs := #[.int .i64 o.f0, .string o.f1, .string o.f2]) (t := 48) (fr := (0, 0)) (heap_alloc_new W (.cells #[.int .i64 o.f0, .string o.f1, .string o.f2] 48))) (by simp [Value.oneCell']) (by omega) hl (by simp; omega)
  obtain ⟨g, cap, rfl⟩ : ∃ g cap, v' = .slice (some ⟨g, 0, none⟩) (os.length + 1) cap := by
    rcases hown'.2 with ⟨_, h0⟩ | ⟨g, cap, _, rfl, _⟩
    · omega
    · exact ⟨g, cap, rfl⟩
  have hg2 := (World.grownBy_alloc W (.cells #[.int .i64 o.f0, .string o.f1, .string o.f2] 48) v.ownBlock).trans hg
  refine ⟨g, cap, W', run_shutApp hrun, hrun, ?_, hg2⟩
  exact Kd.R_appended (okp := fun k => True ∧ some k ≠ v.ownBlock) (fun _ _ => trivial) hr (k48_mkM _ _ _ o) (fun _ h => h) (fun _ _ => trivial) hown' hg2 (by rcases hat with h | h; exact .inl h; exact .inr ⟨_, h, by simp⟩)
structure cmSt (W0 W Wc : World) (B bC : Nat) (t : List Int) (a1 a2 a3 a4 : Int) (v : Value) (os : List ScOp) : Prop where
  grown : W.grownBy Wc (some B)
  scan : scanAt W0 Wc B t
  box : cmBox Wc bC a1 a2 a3 a4 v
  own : Kd.R k48 48 Wc W.heap.size (fun _ => True) v os
  w0 : W0.heap.size ≤ W.heap.size
  bw : B < W.heap.size
  nC : W.heap.size ≤ bC
theorem cmSt.size {W0 W Wc : World} {B bC : Nat} {t : List Int} {a1 a2 a3 a4 : Int} {v : Value} {os : List ScOp} (h : cmSt W0 W Wc B bC t a1 a2 a3 a4 v os) : W.heap.size ≤ Wc.heap.size := h.grown.size
theorem cmSt.call {W0 W Wc W' : World} {B bC : Nat} {t t' : List Int} {a1 a2 a3 a4 : Int} {v : Value} {os : List ScOp} (h : cmSt W0 W Wc B bC t a1 a2 a3 a4 v os) (hg : Wc.grownBy W' (some B)) (hs : scanAt W0 W' B t') : cmSt W0 W W' B bC t' a1 a2 a3 a4 v os :=
  ⟨h.grown.trans hg, hs, h.box.kept hg (by have := h.bw; have := h.nC; simp; omega), ops_grown h.own hg (by
    cases e : v.ownBlock with
    | none => exact .inl rfl
    | some k => right; have := (ops_base h.own k e).1; have := h.bw; simp; omega), h.w0, h.bw, h.nC⟩
theorem cmSt.st0 {W0 W Wc : World} {B bC : Nat} {t : List Int} {a1 a2 a3 a4 : Int} {v : Value} {os : List ScOp} (h : cmSt W0 W Wc B bC t a1 a2 a3 a4 v os) (x : Int) : cmSt W0 W (Wc.setCell ⟨bC, 0, none⟩ (.int .i64 x)) B bC t x a2 a3 a4 v os :=
  ⟨sc_grown_new h.grown h.nC (sc_grown_setCell _ _ _ _), scanAt_other h.scan (Nat.le_trans h.w0 h.nC) (by have := h.bw; have := h.nC; omega) (sc_grown_setCell _ _ _ _), h.box.set0 x, ops_grown h.own (sc_grown_setCell _ _ _ _) (by
    cases e : v.ownBlock with
    | none => exact .inl rfl
    | some k => right; obtain ⟨_, _, cs, hk⟩ := ops_base h.own k e; intro e2; injection e2 with e2; subst e2; have hx := h.box; unfold cmBox at hx; rw [hk] at hx; simp at hx), h.w0, h.bw, h.nC⟩
theorem cmSt.st1 {W0 W Wc : World} {B bC : Nat} {t : List Int} {a1 a2 a3 a4 : Int} {v : Value} {os : List ScOp} (h : cmSt W0 W Wc B bC t a1 a2 a3 a4 v os) (x : Int) : cmSt W0 W (Wc.setCell ⟨bC, 1, none⟩ (.int .i64 x)) B bC t a1 x a3 a4 v os :=
  ⟨sc_grown_new h.grown h.nC (sc_grown_setCell _ _ _ _), scanAt_other h.scan (Nat.le_trans h.w0 h.nC) (by have := h.bw; have := h.nC; omega) (sc_grown_setCell _ _ _ _), h.box.set1 x, ops_grown h.own (sc_grown_setCell _ _ _ _) (by
    cases e : v.ownBlock with
    | none => exact .inl rfl
    | some k => right; obtain ⟨_, _, cs, hk⟩ := ops_base h.own k e; intro e2; injection e2 with e2; subst e2; have hx := h.box; unfold cmBox at hx; rw [hk] at hx; simp at hx), h.w0, h.bw, h.nC⟩
theorem cmSt.st2 {W0 W Wc : World} {B bC : Nat} {t : List Int} {a1 a2 a3 a4 : Int} {v : Value} {os : List ScOp} (h : cmSt W0 W Wc B bC t a1 a2 a3 a4 v os) (x : Int) : cmSt W0 W (Wc.setCell ⟨bC, 2, none⟩ (.int .i64 x)) B bC t a1 a2 x a4 v os :=
  ⟨sc_grown_new h.grown h.nC (sc_grown_setCell _ _ _ _), scanAt_other h.scan (Nat.le_trans h.w0 h.nC) (by have := h.bw; have := h.nC; omega) (sc_grown_setCell _ _ _ _), h.box.set2 x, ops_grown h.own (sc_grown_setCell _ _ _ _) (by
    cases e : v.ownBlock with
    | none => exact .inl rfl
    | some k => right; obtain ⟨_, _, cs, hk⟩ := ops_base h.own k e; intro e2; injection e2 with e2; subst e2; have hx := h.box; unfold cmBox at hx; rw [hk] at hx; simp at hx), h.w0, h.bw, h.nC⟩
theorem cmSt.st3 {W0 W Wc : World} {B bC : Nat} {t : List Int} {a1 a2 a3 a4 : Int} {v : Value} {os : List ScOp} (h : cmSt W0 W Wc B bC t a1 a2 a3 a4 v os) (x : Int) : cmSt W0 W (Wc.setCell ⟨bC, 3, none⟩ (.int .i64 x)) B bC t a1 a2 a3 x v os :=
  ⟨sc_grown_new h.grown h.nC (sc_grown_setCell _ _ _ _), scanAt_other h.scan (Nat.le_trans h.w0 h.nC) (by have := h.bw; have := h.nC; omega) (sc_grown_setCell _ _ _ _), h.box.set3 x, ops_grown h.own (sc_grown_setCell _ _ _ _) (by
    cases e : v.ownBlock with
    | none => exact .inl rfl
    | some k => right; obtain ⟨_, _, cs, hk⟩ := ops_base h.own k e; intro e2; injection e2 with e2; subst e2; have hx := h.box; unfold cmBox at hx; rw [hk] at hx; simp at hx), h.w0, h.bw, h.nC⟩
theorem sc_op_bytes (v : Int) (t : List Int) (o : ScOp) (t' : List Int) (hb : sc_bytes t) (h : sc_op v t = .ok (o, t')) : sc_bytes t' := by
  unfold sc_op at h
  split at h
  · rename_i kind k t
    split at h
    · split at h
      · cases h
      · split at h
        · rename_i a b u hdr
          split at h
          · cases h
          · cases h
            have : sc_bytes (t.drop k.toNat) := sc_bytes_drop (fun y hy => hb y (by simp [hy])) _
            rw [hdr] at this
            exact sc_bytes_drop (fun y hy => this y (by simp [hy])) _
        · cases h
    · split at h
      · split at h
        · cases h
        · split at h
          · cases h
          · cases h
            exact sc_bytes_drop (sc_bytes_drop (fun y hy => hb y (by simp [hy])) _) _
      · cases h
  · cases h
theorem sc_res_cell {tmps : Array Value} {w : World} {g : Nat} {cs : Array Value} {x : Value} (hp : tmps.getD 2 undef = .pointer (some ⟨g, 0, none⟩)) (hx : tmps.getD 3 undef = x) (hg : w.heap[g]? = some (.cells cs 24 (0, 0))) (hs : cs.size = 5) :
    (results Try.f26 tmps).run Try.prog w = .ok (.tuple #[.agg cs, x]) w := by
  rw [results_cell_tmp (fn := Try.f26) (p := 2) (u := 3) (ty := 24) rfl]
  have hlv := run_loadVar_row (P := Try.prog) w g 24 24 cs (0, 0) _ hg Try.underlying24 rfl (by rw [hs]; kernel_rfl)
  rw [hp, hx]
  simp [asAddr, hlv, Result.andThen]
theorem sc_more_step (os : List ScOp) (f : Nat) {v : Int} {t t' : List Int} {o : ScOp} (h : sc_op v t = .ok (o, t')) : sc_more os (sc_ops (f + 1) v t) = sc_more (os ++ [o]) (sc_ops f v t') := by
  simp only [sc_ops, h]
  cases sc_ops f v t' with
  | error x => rfl
  | ok r => simp [sc_more]
theorem cmSt.fin5 {W0 W Wc : World} {B bC : Nat} {t : List Int} {a1 a2 a3 a4 : Int} {v : Value} {os : List ScOp} (h : cmSt W0 W Wc B bC t a1 a2 a3 a4 v os) :
    W.grownBy (((((Wc.setCell ⟨bC, 0, none⟩ (.int .i64 a1)).setCell ⟨bC, 1, none⟩ (.int .i64 a2)).setCell ⟨bC, 2, none⟩ (.int .i64 a3)).setCell ⟨bC, 3, none⟩ (.int .i64 a4)).setCell ⟨bC, 4, none⟩ v) (some B) ∧
    cmBox (((((Wc.setCell ⟨bC, 0, none⟩ (.int .i64 a1)).setCell ⟨bC, 1, none⟩ (.int .i64 a2)).setCell ⟨bC, 2, none⟩ (.int .i64 a3)).setCell ⟨bC, 3, none⟩ (.int .i64 a4)).setCell ⟨bC, 4, none⟩ v) bC a1 a2 a3 a4 v ∧
    Kd.R k48 48 (((((Wc.setCell ⟨bC, 0, none⟩ (.int .i64 a1)).setCell ⟨bC, 1, none⟩ (.int .i64 a2)).setCell ⟨bC, 2, none⟩ (.int .i64 a3)).setCell ⟨bC, 3, none⟩ (.int .i64 a4)).setCell ⟨bC, 4, none⟩ v) W.heap.size (fun _ => True) v os := by
  have h4 := (((h.st0 a1).st1 a2).st2 a3).st3 a4
  exact ⟨sc_grown_new h4.grown h4.nC (sc_grown_setCell _ _ _ _), h4.box.set4 v, ops_grown h4.own (sc_grown_setCell _ _ _ _) (by
    cases e : v.ownBlock with
    | none => exact .inl rfl
    | some k => right; obtain ⟨_, _, cs, hk⟩ := ops_base h4.own k e; intro e2; injection e2 with e2; subst e2; have hx := h4.box; unfold cmBox at hx; rw [hk] at hx; simp at hx)⟩
theorem sc_var_bytes : ∀ (f i : Nat) (n : Int) (l : List Int) (x : Int) (t : List Int), sc_bytes l → sc_var f i n l = .ok (x, t) → sc_bytes t := by
  intro f
  induction f with
  | zero => intro i n l x t _ h; simp [sc_var] at h
  | succ f ih =>
    intro i n l x t hl h
    cases l with
    | nil => simp [sc_var] at h
    | cons c l =>
      simp only [sc_var] at h
      have hl2 : sc_bytes l := fun y hy => hl y (by simp [hy])
      split at h
      · cases h
      · split at h
        · cases h; exact hl2
        · exact ih _ _ _ _ _ hl2 h
theorem cmSt.moved {W0 W Wc W' : World} {B bC : Nat} {t : List Int} {a1 a2 a3 a4 : Int} {v : Value} {os : List ScOp} (h : cmSt W0 W Wc B bC t a1 a2 a3 a4 v os) (hg : Wc.grownBy W' none) : cmSt W0 W W' B bC t a1 a2 a3 a4 v os :=
  ⟨h.grown.trans ⟨hg.os, hg.tape, hg.output, hg.size, fun k hk _ => hg.block k hk (by simp)⟩, scanAt_grown h.scan hg, h.box.kept hg (by simp), ops_grown h.own hg (by
    cases e : v.ownBlock with
    | none => exact .inl rfl
    | some k => right; simp), h.w0, h.bw, h.nC⟩
theorem cmSt.box3 {W0 W W2 W3 : World} {B bC : Nat} {t : List Int} {a1 a2 a3 a4 : Int} {v : Value} {os : List ScOp} (h : cmSt W0 W W2 B bC t a1 a2 a3 a4 v os) (hg : W2.grownBy W3 v.ownBlock) : cmBox W3 bC a1 a2 a3 a4 v :=
  h.box.kept hg (by
    intro e
    obtain ⟨_, _, cs, hk⟩ := ops_base h.own bC e.symm
    have hx := h.box
    unfold cmBox at hx
    rw [hk] at hx
    simp at hx)
theorem cmSt.fin {W0 W W2 W3 : World} {B bC : Nat} {t : List Int} {a1 a2 a3 a4 : Int} {v v' : Value} {os os' : List ScOp} (h : cmSt W0 W W2 B bC t a1 a2 a3 a4 v os) (hg : W2.grownBy W3 v.ownBlock) (ho : Kd.R k48 48 W3 W.heap.size (fun _ => True) v' os') :
    cmSt W0 W (W3.setCell ⟨bC, 4, none⟩ v') B bC t a1 a2 a3 a4 v' os' := by
  have hb3 := h.box3 hg
  have hs3 : scanAt W0 W3 B t := by
    cases e : v.ownBlock with
    | none => rw [e] at hg; exact scanAt_grown h.scan hg
    | some k =>
      rw [e] at hg
      have := (ops_base h.own k e).1
      exact scanAt_other h.scan (Nat.le_trans h.w0 this) (by have := h.bw; omega) hg
  have hgr : W.grownBy W3 (some B) := by
    cases e : v.ownBlock with
    | none => rw [e] at hg; exact h.grown.trans ⟨hg.os, hg.tape, hg.output, hg.size, fun k hk _ => hg.block k hk (by simp)⟩
    | some k => rw [e] at hg; exact sc_grown_new h.grown (ops_base h.own k e).1 hg
  exact ⟨sc_grown_new hgr h.nC (sc_grown_setCell _ _ _ _), scanAt_other hs3 (Nat.le_trans h.w0 h.nC) (by have := h.bw; have := h.nC; omega) (sc_grown_setCell _ _ _ _), hb3.set4 v', ops_grown ho (sc_grown_setCell _ _ _ _) (by
    cases e : v'.ownBlock with
    | none => exact .inl rfl
    | some k => right; obtain ⟨_, _, cs, hk⟩ := ops_base ho k e; intro e2; injection e2 with e2; subst e2; have hx := hb3; unfold cmBox at hx; rw [hk] at hx; simp at hx), h.w0, h.bw, h.nC⟩
theorem sc_goesx {P : Program} {ops : Array Oper} {Q : Exit → Act → World → Prop} {oi : Oper} {N : Option Tmp} {a : Act} {w : World} {K : Act → World → Prop} {f : FuncId} {fn : Func} {xs : Array Operand} {ts : Array TypeId} (hf : P.funcs[f]? = some fn) (hname : (fn.name == "runtime.NumGoroutine") = false) (hb : fn.body.isSome = true) (args : Array Value)
    (hw : Region.wanted oi (yielded ops a.tmps) = true) (hN : oi.dst = N) (hop : oi.op = .call { callee := .value (.func f), args := xs, argTypes := ts }) (hargs : xs.map a.eval = args)
    (h : Calls P f args w fun e w' => (∃ v, e = .returned v ∧ K (a.put N v) w') ∨ (∃ c, e = .panicked c ∧ Q (.panic c) a w')) : if Region.wanted oi (yielded ops a.tmps) = true then Oper.wp P oi a w K Q else K (a.put N undef) w := by
  have he := enters_ hf hname hb args w
  have hrun : (execOp a.eval oi).run P w = .ok (.enter f args) w := by
    unfold execOp
    simp [hop, resolve, Deferred.ofValue, invoke, Act.eval, hargs, he]
  rw [if_pos hw]
  subst hN
  unfold Oper.wp
  rw [hrun, Oper.upon_enter]
  refine h.mono fun e w'' hh => ?_
  rcases hh with ⟨v, rfl, hk⟩ | ⟨c, rfl, hk⟩
  · exact hk
  · exact hk
section
attribute [local go_sem ↓ 5000] builtin_shutApp
set_option maxHeartbeats 8000000 in
set_option maxRecDepth 100000 in
theorem sc_command (W0 W : World) (B : Nat) (l : List Int) (hl : sc_bytes l) (hs : scanAt W0 W B l) :
    Calls Try.prog 26 #[.pointer (some ⟨B, 0, none⟩)] W fun e W' => scCmd W0 W B (sc_cmd l) e W' := by
  have HL := Aside0.mk hl
  have HS : Aside0 (cmSt W0 W (W.alloc (.cells #[.int .i64 0, .int .i64 0, .int .i64 0, .int .i64 0, .slice none 0 0] 24)) B W.heap.size l 0 0 0 0 (.slice none 0 0) []) := by
    obtain ⟨h1, h2, A, c, hbox, h3⟩ := id hs
    exact ⟨⟨World.grownBy_alloc _ _ _, scanAt_grown hs (World.grownBy_alloc _ _ _), World.alloc_heap_new W _, Kd.R_nil _ _ _ _ _, h1.size, hbox.lt, Nat.le_refl _⟩⟩
  clear hs hl
  go_enter Try.func26, Try.ntmps26
  have T := Aside0.mk (sc_octet W0 _ B l HL.out HS.out.scan)
  go_wp2_with fail
  refine T.out.mono ?_
  rintro e W1 ⟨hg, ⟨hnil, rfl⟩ | ⟨v, t, hcons, hs1, rfl⟩⟩
  · have HG := Aside0.mk (HS.out.grown.trans hg)
    clear hg T HS
    go_wp2
    refine ⟨rfl, ?_⟩
    exact show scCmd W0 W B _ _ _ from ⟨HG.out, .inl ⟨8, (by rw [hnil]; rfl), rfl⟩⟩
  have HS1 := Aside0.mk (HS.out.call hg hs1)
  clear hg hs1 T HS
  have HS := HS1
  clear HS1
  have hx0 := HL.out v (by rw [hcons]; simp)
  have Ht : Aside0 (sc_bytes t) := ⟨fun y hy => HL.out y (by rw [hcons]; simp [hy])⟩
  have HXv := Aside0.mk hx0
  clear hx0
  have HCv := Aside0.mk hcons
  clear hcons
  obtain rfl := HCv.out
  clear HCv
  by_cases hv : v ≠ 1 ∧ v ≠ 2
  · have hv1 : (v == 1) = false := by simpa using hv.1
    have hv2 : (v == 2) = false := by simpa using hv.2
    have hv3 : (v != 1) = true := by simpa using hv.1
    have hv4 : (v != 2) = true := by simpa using hv.2
    have hv5 := eq_false hv.1
    have hv6 := eq_false hv.2
    have HV := Aside0.mk hv
    clear hv
    go_wp2
    refine ⟨rfl, ?_⟩
    exact show scCmd W0 W B _ _ _ from ⟨HS.out.grown, .inl ⟨131, by simp only [sc_cmd]; rw [if_pos HV.out], rfl⟩⟩
  rcases (show v = 1 ∨ v = 2 by omega) with rfl | rfl
  · clear hv
    have T := Aside0.mk (sc_octet W0 _ B t Ht.out HS.out.scan)
    go_wp2_with fail
    refine T.out.mono ?_
    rintro e W2 ⟨hg, ⟨hnil, rfl⟩ | ⟨kind, t1, hcons, hs1, rfl⟩⟩
    · have HG := Aside0.mk (HS.out.grown.trans hg)
      clear hg T HS
      go_wp2
      refine ⟨rfl, ?_⟩
      exact show scCmd W0 W B _ _ _ from ⟨HG.out, .inl ⟨8, (by rw [hnil]; rfl), rfl⟩⟩
    have HS1 := Aside0.mk (HS.out.call hg hs1)
    clear hg hs1 T HS
    have HS := HS1
    clear HS1
    have hx0 := Ht.out kind (by rw [hcons]; simp)
    have Ht1 : Aside0 (sc_bytes t1) := ⟨fun y hy => Ht.out y (by rw [hcons]; simp [hy])⟩
    have HXkind := Aside0.mk hx0
    clear hx0
    have HCkind := Aside0.mk hcons
    clear hcons
    obtain rfl := HCkind.out
    clear HCkind
    have hb_ := HS.out.box.cell
    have hf_ := HS.out.box.frozen 0
    have HSn := Aside0.mk (HS.out.st0 (kind))
    clear HS
    have HS := HSn
    clear HSn
    have T := Aside0.mk (sc_fixed W0 _ B t1 Ht1.out HS.out.scan)
    go_wp2_with fail
    refine T.out.mono ?_
    rintro e W3 ⟨hg, ⟨hsh, rfl⟩ | ⟨hle, hs1, rfl⟩⟩
    · have HG := Aside0.mk (HS.out.grown.trans hg)
      clear hg T HS
      go_wp2
      refine ⟨rfl, ?_⟩
      exact show scCmd W0 W B _ _ _ from ⟨HG.out, .inl ⟨8, (by simp only [sc_cmd]; rw [if_neg (by decide), if_pos trivial, sc_fix, if_pos hsh]), rfl⟩⟩
    have HTX : Aside0 ((if (1 : Int) = 1 then sc_fix t1 else sc_var 6 0 0 t1) = .ok (min (sc_be (t1.take 8)) 1099511627777, t1.drop 8)) := ⟨by rw [if_pos rfl, sc_fix, if_neg (by omega)]⟩
    have Ht2 : Aside0 (sc_bytes (t1.drop 8)) := ⟨sc_bytes_drop Ht1.out 8⟩
    generalize min (sc_be (t1.take 8)) 1099511627777 = txn at HTX ⊢
    generalize t1.drop 8 = t2 at HTX Ht2 hs1
    clear hle
    have HS1 := Aside0.mk (HS.out.call hg hs1)
    clear hg hs1 T HS hb_ hf_
    have HS := HS1
    clear HS1
    have hb_ := HS.out.box.cell
    have hf_ := HS.out.box.frozen 1
    have HSn := Aside0.mk (HS.out.st1 (txn))
    clear HS
    have HS := HSn
    clear HSn
    have T := Aside0.mk (sc_octet W0 _ B t2 Ht2.out HS.out.scan)
    go_wp2_with fail
    refine T.out.mono ?_
    rintro e W4 ⟨hg, ⟨hnil, rfl⟩ | ⟨home, p, hcons, hs1, rfl⟩⟩
    · have HG := Aside0.mk (HS.out.grown.trans hg)
      clear hg T HS
      go_wp2
      refine ⟨rfl, ?_⟩
      exact show scCmd W0 W B _ _ _ from ⟨HG.out, .inl ⟨8, (by simp only [sc_cmd]; rw [if_neg (by decide), HTX.out]; dsimp only; rw [hnil]), rfl⟩⟩
    have HS1 := Aside0.mk (HS.out.call hg hs1)
    clear hg hs1 T HS
    have HS := HS1
    clear HS1
    have hx0 := Ht2.out home (by rw [hcons]; simp)
    have Hp : Aside0 (sc_bytes p) := ⟨fun y hy => Ht2.out y (by rw [hcons]; simp [hy])⟩
    have HXhome := Aside0.mk hx0
    clear hx0
    have HChome := Aside0.mk hcons
    clear hcons
    clear hb_ hf_
    have hb_ := HS.out.box.cell
    have hf_ := HS.out.box.frozen 2
    have HSn := Aside0.mk (HS.out.st2 (home))
    clear HS
    have HS := HSn
    clear HSn
    have T := Aside0.mk (sc_octet W0 _ B p Hp.out HS.out.scan)
    go_wp2_with fail
    refine T.out.mono ?_
    rintro e W5 ⟨hg, ⟨hnil, rfl⟩ | ⟨verd, q, hcons, hs1, rfl⟩⟩
    · have HG := Aside0.mk (HS.out.grown.trans hg)
      clear hg T HS
      go_wp2
      refine ⟨rfl, ?_⟩
      exact show scCmd W0 W B _ _ _ from ⟨HG.out, .inl ⟨8, (by simp only [sc_cmd]; rw [if_neg (by decide), HTX.out]; dsimp only; rw [HChome.out, hnil]), rfl⟩⟩
    have HS1 := Aside0.mk (HS.out.call hg hs1)
    clear hg hs1 T HS
    have HS := HS1
    clear HS1
    have hx0 := Hp.out verd (by rw [hcons]; simp)
    have Hq : Aside0 (sc_bytes q) := ⟨fun y hy => Hp.out y (by rw [hcons]; simp [hy])⟩
    have HXverd := Aside0.mk hx0
    clear hx0
    have HCverd := Aside0.mk hcons
    clear hcons
    clear hb_ hf_
    have hb_ := HS.out.box.cell
    have hf_ := HS.out.box.frozen 3
    have HSn := Aside0.mk (HS.out.st3 (verd))
    clear HS
    have HS := HSn
    clear HSn
    have T := Aside0.mk (sc_octet W0 _ B q Hq.out HS.out.scan)
    go_wp2_with fail
    refine T.out.mono ?_
    rintro e W6 ⟨hg, ⟨hnil, rfl⟩ | ⟨cnt, t3, hcons, hs1, rfl⟩⟩
    · have HG := Aside0.mk (HS.out.grown.trans hg)
      clear hg T HS
      go_wp2
      refine ⟨rfl, ?_⟩
      exact show scCmd W0 W B _ _ _ from ⟨HG.out, .inl ⟨8, (by simp only [sc_cmd]; rw [if_neg (by decide), HTX.out]; dsimp only; rw [HChome.out, HCverd.out, hnil]), rfl⟩⟩
    have HS1 := Aside0.mk (HS.out.call hg hs1)
    clear hg hs1 T HS
    have HS := HS1
    clear HS1
    have hx0 := Hq.out cnt (by rw [hcons]; simp)
    have Ht3 : Aside0 (sc_bytes t3) := ⟨fun y hy => Hq.out y (by rw [hcons]; simp [hy])⟩
    have HXcnt := Aside0.mk hx0
    clear hx0
    have HCcnt := Aside0.mk hcons
    clear hcons
    clear hb_ hf_
    obtain ⟨cn, rfl⟩ := Int.eq_ofNat_of_zero_le HXcnt.out.1
    have hcn : (cn : Int) < 256 := HXcnt.out.2
    go_wp2
    go_loopw [33] (fun i wr => ∃ (j : Nat) (t : List Int) (u : Value) (os : List ScOp), i = .int .i64 j ∧ j ≤ cn ∧ Aside0 (os.length = j) ∧ Aside0 (sc_bytes t) ∧ Aside0 (cmSt W0 W wr B W.heap.size t kind txn home verd u os) ∧ Aside0 (sc_ops cn 1 t3 = sc_more os (sc_ops (cn - j) 1 t))) (fun i _ => cn - (intOf i).toNat)
    case atStart =>
      refine ⟨0, t3, _, [], rfl, by omega, ⟨rfl⟩, Ht3, HS, ⟨?_⟩⟩
      rw [Nat.sub_zero]
      cases sc_ops cn 1 t3 with
      | error x => rfl
      | ok r => rfl
    case round =>
      obtain ⟨j, t, u, os, rfl, hj, HO, HT, HSr, HE⟩ := hrel
      clear HS
      have HS := HSr
      clear HSr
      by_cases hlt : j < cn
      · obtain ⟨f, hf⟩ : ∃ f, cn - j = f + 1 := ⟨cn - j - 1, by omega⟩
        have HF := Aside0.mk hf
        clear hf
        have hb1 := HS.out.box.cell
        have hb_ := HS.out.box.cell
        have HSZ := Aside0.mk HS.out.grown
        have HLN := Aside0.mk (show (os.length + 1) * 40 ≤ 140737488355328 by rw [HO.out]; omega)
        go_wp2_with fail
        refine start_ (n := 9) (S := fun w' => w'.cell? ⟨W.heap.size, 4, none⟩ = some u) (ds := [6, 8]) #[false, false, false, false, false, false, false, false, false] (by kernel_rfl) rfl rfl (by have := hb_.2.2.2.2; exact this) (fun hHeld => ?_)
        have HSd := Aside0.mk (HS.out.moved (W' := wr.drew) ⟨rfl, rfl, rfl, Nat.le_refl _, fun _ _ _ => rfl⟩)
        generalize wr.drew = wd at hHeld HSd ⊢
        refine pure_ (i := 0) (N := some 35) (v := ?_) (a' := ?_) #[true, false, false, false, false, false, false, false, false] rfl rfl (by kernel_rfl) (fun _ _ _ h => h) (Or.inl ⟨by rfl, ?_⟩) ?_ ?_
        rotate_left
        · intro w'
          go_simp
          with_reducible rfl
        rotate_left
        · simp only [Act.put, List.setIfInBounds_toArray, List.set_cons_zero, List.set_cons_succ, i64_w, i32_w]
          rfl
        refine pure_ (i := 2) (N := some 37) (v := ?_) (a' := ?_) #[true, false, true, false, false, false, false, false, false] rfl rfl (by kernel_rfl) (fun _ _ _ h => h) (Or.inl ⟨by rfl, ?_⟩) ?_ ?_
        rotate_left
        · intro w'
          go_simp
          with_reducible rfl
        rotate_left
        · simp only [Act.put, List.setIfInBounds_toArray, List.set_cons_zero, List.set_cons_succ, i64_w, i32_w]
          rfl
        refine pure_ (i := 3) (N := some 38) (v := ?_) (a' := ?_) #[true, false, true, true, false, false, false, false, false] rfl rfl (by kernel_rfl) (fun _ _ _ h => h) (Or.inl ⟨by rfl, ?_⟩) ?_ ?_
        rotate_left
        · intro w'
          go_simp
          with_reducible rfl
        rotate_left
        · simp only [Act.put, List.setIfInBounds_toArray, List.set_cons_zero, List.set_cons_succ, i64_w, i32_w]
          rfl
        refine take_ (i := 1) (N := some 36) (v := ?_) (a' := ?_) #[true, true, true, true, false, false, false, false, false] rfl rfl (by kernel_rfl) (fun _ _ _ h => h) (Or.inl ⟨by rfl, ?_⟩) hHeld ?_ ?_
        rotate_left
        · intro w' s0
          go_simp
          with_reducible rfl
        rotate_left
        · simp only [Act.put, List.setIfInBounds_toArray, List.set_cons_zero, List.set_cons_succ, i64_w, i32_w]
          rfl
        refine one_ (i := 4) (N := some 39) #[true, true, true, true, true, false, false, false, false] rfl rfl (by kernel_rfl) (by decide) (fun K hK => ?_)
        refine sc_goesx Try.func43 (by kernel_rfl) rfl #[.pointer (some ⟨B, 0, none⟩), .int .i64 1] (by rfl) rfl rfl (by (try simp only [List.map_toArray, List.map_cons, List.map_nil]); first | done | rfl) ?_
        refine (sc_op_calls W0 wd B t 1 HT.out HSd.out.scan).mono ?_
        rintro e W2 ⟨hg2, ⟨x, hx, rfl⟩ | ⟨o, t', hok, hs2, rfl⟩⟩
        · refine .inr ⟨_, rfl, ?_⟩
          have HPX : sc_cmd (1 :: kind :: t1) = .error x := by simp only [sc_cmd]; rw [if_neg (by decide), HTX.out]; dsimp only; rw [HChome.out, HCverd.out, HCcnt.out]; dsimp only; rw [Int.toNat_natCast]; rw [HE.out, HF.out]; simp only [sc_ops, hx, sc_more]
          have hsz := HSd.out.grown.trans hg2
          clear hK
          exact ⟨rfl, show scCmd W0 W B _ _ _ from ⟨hsz, .inl ⟨x, HPX, rfl⟩⟩⟩
        refine .inl ⟨_, rfl, ?_⟩
        have HS2 := Aside0.mk (HSd.out.call hg2 hs2)
        have HOK := Aside0.mk hok
        clear hg2 hs2 hok hHeld HSd
        refine hK.out _ _ HS2.out.box.cell.2.2.2.2 (fun hHeld => ?_)
        clear hK K
        obtain ⟨g, cap, W3, _, hraw, HO3, hg3⟩ := ops_app o HS2.out.own HS2.out.size HLN.out
        have hb3_ := (HS2.out.box3 hg3).cell
        have hf3_ := (HS2.out.box3 hg3).frozen 4
        have HS3 := Aside0.mk (HS2.out.fin hg3 HO3)
        have hal : (W2.alloc (.cells #[.int .i64 o.f0, .string o.f1, .string o.f2] 48)).cell? ⟨W.heap.size, 4, none⟩ = some u := (cmBox.kept HS2.out.box (World.grownBy_alloc _ _ none) (by simp)).cell.2.2.2.2
        clear HS2 HO3 hg3
        refine one_ (i := 5) (N := some 40) #[true, true, true, true, true, true, false, false, false] rfl rfl (by kernel_rfl) (by decide) (fun K hK => ?_)
        refine value_ (w1 := W2.alloc (.cells #[.int .i64 o.f0, .string o.f1, .string o.f2] 48)) (v := .slice (some ⟨W2.heap.size, 0, none⟩) 1 1) (by rfl) rfl ?_ ?_
        · go_simp
        refine hK.out _ _ hal (fun hHeld2 => ?_)
        clear hK K
        refine last_ (i := 6) (N := some 41) #[true, true, true, true, true, true, true, false, false] rfl rfl (by kernel_rfl) (by decide) (fun K hK => ?_)
        refine value_ (w1 := W3) (v := .slice (some ⟨g, 0, none⟩) (os.length + 1) cap) (by rfl) rfl ?_ ?_
        · simp [execOp, resolve, invoke, builtin, Act.eval, Act.put, hraw, Result.andThen]
        refine hK.out _ _ ?_
        clear hK K
        refine pure_ (i := 7) (N := some 42) (v := ?_) (a' := ?_) #[true, true, true, true, true, true, true, true, false] rfl rfl (by kernel_rfl) (fun _ _ _ h => h) (Or.inl ⟨by rfl, ?_⟩) ?_ ?_
        rotate_left
        · intro w'
          go_simp
          with_reducible rfl
        rotate_left
        · simp only [Act.put, List.setIfInBounds_toArray, List.set_cons_zero, List.set_cons_succ, i64_w, i32_w]
          rfl
        refine last_ (i := 8) (N := none) #[true, true, true, true, true, true, true, true, true] rfl rfl (by kernel_rfl) (by decide) (fun K hK => ?_)
        refine skip_ (w1 := ?_) (by rfl) rfl ?_ ?_
        rotate_left
        · go_simp
          rfl
        refine hK.out _ _ ?_
        clear hK K
        refine done_ (by kernel_rfl) ?_
        go_wp2
        go_roundw
        case rel =>
          exact ⟨j + 1, t', _, os ++ [o], by go_num, by omega, ⟨by simp [HO.out]⟩, ⟨sc_op_bytes 1 t o t' HT.out HOK.out⟩, HS3, ⟨by rw [HE.out, HF.out, sc_more_step os f HOK.out, show cn - (j + 1) = f by have := HF.out; omega]⟩⟩
        case measure => simp [intOf]; omega
      · obtain rfl : j = cn := by omega
        clear hlt
        have HEE : Aside0 (sc_ops j 1 t3 = .ok (os, t)) := ⟨by rw [HE.out, Nat.sub_self]; simp [sc_ops, sc_more]⟩
        obtain ⟨_, _, A, c, hbox, _⟩ := id HS.out.scan
        have hcell := hbox.cell
        clear hbox HE
        by_cases ht : 0 < t.length
        · have HPX := Aside0.mk (show sc_cmd (1 :: kind :: t1) = .error 23 by simp only [sc_cmd]; rw [if_neg (by decide), HTX.out]; dsimp only; rw [HChome.out, HCverd.out, HCcnt.out]; dsimp only; rw [Int.toNat_natCast]; rw [HEE.out]; dsimp only; rw [if_pos ht])
          have HSZ := Aside0.mk HS.out.grown
          go_wp2
          refine ⟨rfl, ?_⟩
          exact show scCmd W0 W B _ _ _ from ⟨HSZ.out, .inl ⟨23, HPX.out, rfl⟩⟩
        · have HPX := Aside0.mk (show sc_cmd (1 :: kind :: t1) = .ok (kind, txn, home, verd, os, 1) by simp only [sc_cmd]; rw [if_neg (by decide), HTX.out]; dsimp only; rw [HChome.out, HCverd.out, HCcnt.out]; dsimp only; rw [Int.toNat_natCast]; rw [HEE.out]; dsimp only; rw [if_neg ht])
          obtain rfl : t = [] := List.eq_nil_of_length_eq_zero (by omega)
          obtain ⟨Au, cu, eu⟩ := Kd.R_slice HS.out.own
          subst eu
          have hb_ := HS.out.box.cell
          have hf_ := HS.out.box.frozen
          have F := Aside0.mk HS.out.fin5
          go_wp2
          obtain ⟨f1, f2, f3⟩ := F.out
          refine bodyPost_ret (sc_res_cell (g := W.heap.size) rfl rfl f2 rfl) rfl ?_
          exact show scCmd W0 W B _ _ _ from ⟨f1, .inr ⟨kind, txn, home, verd, os, 1, _, HPX.out, rfl, f3⟩⟩
  · clear hv
    have T := Aside0.mk (sc_octet W0 _ B t Ht.out HS.out.scan)
    go_wp2_with fail
    refine T.out.mono ?_
    rintro e W2 ⟨hg, ⟨hnil, rfl⟩ | ⟨kind, t1, hcons, hs1, rfl⟩⟩
    · have HG := Aside0.mk (HS.out.grown.trans hg)
      clear hg T HS
      go_wp2
      refine ⟨rfl, ?_⟩
      exact show scCmd W0 W B _ _ _ from ⟨HG.out, .inl ⟨8, (by rw [hnil]; rfl), rfl⟩⟩
    have HS1 := Aside0.mk (HS.out.call hg hs1)
    clear hg hs1 T HS
    have HS := HS1
    clear HS1
    have hx0 := Ht.out kind (by rw [hcons]; simp)
    have Ht1 : Aside0 (sc_bytes t1) := ⟨fun y hy => Ht.out y (by rw [hcons]; simp [hy])⟩
    have HXkind := Aside0.mk hx0
    clear hx0
    have HCkind := Aside0.mk hcons
    clear hcons
    obtain rfl := HCkind.out
    clear HCkind
    have hb_ := HS.out.box.cell
    have hf_ := HS.out.box.frozen 0
    have HSn := Aside0.mk (HS.out.st0 (kind))
    clear HS
    have HS := HSn
    clear HSn
    have T := Aside0.mk (sc_varint W0 _ B t1 Ht1.out HS.out.scan)
    go_wp2_with fail
    refine T.out.mono ?_
    rintro e W3 ⟨hg, ⟨x, hsh, rfl⟩ | ⟨txn, t2, hok, hs1, rfl⟩⟩
    · have HG := Aside0.mk (HS.out.grown.trans hg)
      clear hg T HS
      go_wp2
      refine ⟨rfl, ?_⟩
      exact show scCmd W0 W B _ _ _ from ⟨HG.out, .inl ⟨x, (by simp only [sc_cmd]; rw [if_neg (by decide), if_neg (by decide), hsh]), rfl⟩⟩
    have HTX : Aside0 ((if (2 : Int) = 1 then sc_fix t1 else sc_var 6 0 0 t1) = .ok (txn, t2)) := ⟨by rw [if_neg (by decide), hok]⟩
    have Ht2 : Aside0 (sc_bytes t2) := ⟨sc_var_bytes 6 0 0 t1 txn t2 Ht1.out hok⟩
    clear hok
    have HS1 := Aside0.mk (HS.out.call hg hs1)
    clear hg hs1 T HS hb_ hf_
    have HS := HS1
    clear HS1
    have hb_ := HS.out.box.cell
    have hf_ := HS.out.box.frozen 1
    have HSn := Aside0.mk (HS.out.st1 (txn))
    clear HS
    have HS := HSn
    clear HSn
    have T := Aside0.mk (sc_octet W0 _ B t2 Ht2.out HS.out.scan)
    go_wp2_with fail
    refine T.out.mono ?_
    rintro e W4 ⟨hg, ⟨hnil, rfl⟩ | ⟨home, p, hcons, hs1, rfl⟩⟩
    · have HG := Aside0.mk (HS.out.grown.trans hg)
      clear hg T HS
      go_wp2
      refine ⟨rfl, ?_⟩
      exact show scCmd W0 W B _ _ _ from ⟨HG.out, .inl ⟨8, (by simp only [sc_cmd]; rw [if_neg (by decide), HTX.out]; dsimp only; rw [hnil]), rfl⟩⟩
    have HS1 := Aside0.mk (HS.out.call hg hs1)
    clear hg hs1 T HS
    have HS := HS1
    clear HS1
    have hx0 := Ht2.out home (by rw [hcons]; simp)
    have Hp : Aside0 (sc_bytes p) := ⟨fun y hy => Ht2.out y (by rw [hcons]; simp [hy])⟩
    have HXhome := Aside0.mk hx0
    clear hx0
    have HChome := Aside0.mk hcons
    clear hcons
    clear hb_ hf_
    have hb_ := HS.out.box.cell
    have hf_ := HS.out.box.frozen 2
    have HSn := Aside0.mk (HS.out.st2 (home))
    clear HS
    have HS := HSn
    clear HSn
    have T := Aside0.mk (sc_octet W0 _ B p Hp.out HS.out.scan)
    go_wp2_with fail
    refine T.out.mono ?_
    rintro e W5 ⟨hg, ⟨hnil, rfl⟩ | ⟨verd, q, hcons, hs1, rfl⟩⟩
    · have HG := Aside0.mk (HS.out.grown.trans hg)
      clear hg T HS
      go_wp2
      refine ⟨rfl, ?_⟩
      exact show scCmd W0 W B _ _ _ from ⟨HG.out, .inl ⟨8, (by simp only [sc_cmd]; rw [if_neg (by decide), HTX.out]; dsimp only; rw [HChome.out, hnil]), rfl⟩⟩
    have HS1 := Aside0.mk (HS.out.call hg hs1)
    clear hg hs1 T HS
    have HS := HS1
    clear HS1
    have hx0 := Hp.out verd (by rw [hcons]; simp)
    have Hq : Aside0 (sc_bytes q) := ⟨fun y hy => Hp.out y (by rw [hcons]; simp [hy])⟩
    have HXverd := Aside0.mk hx0
    clear hx0
    have HCverd := Aside0.mk hcons
    clear hcons
    clear hb_ hf_
    have hb_ := HS.out.box.cell
    have hf_ := HS.out.box.frozen 3
    have HSn := Aside0.mk (HS.out.st3 (verd))
    clear HS
    have HS := HSn
    clear HSn
    have T := Aside0.mk (sc_octet W0 _ B q Hq.out HS.out.scan)
    go_wp2_with fail
    refine T.out.mono ?_
    rintro e W6 ⟨hg, ⟨hnil, rfl⟩ | ⟨cnt, t3, hcons, hs1, rfl⟩⟩
    · have HG := Aside0.mk (HS.out.grown.trans hg)
      clear hg T HS
      go_wp2
      refine ⟨rfl, ?_⟩
      exact show scCmd W0 W B _ _ _ from ⟨HG.out, .inl ⟨8, (by simp only [sc_cmd]; rw [if_neg (by decide), HTX.out]; dsimp only; rw [HChome.out, HCverd.out, hnil]), rfl⟩⟩
    have HS1 := Aside0.mk (HS.out.call hg hs1)
    clear hg hs1 T HS
    have HS := HS1
    clear HS1
    have hx0 := Hq.out cnt (by rw [hcons]; simp)
    have Ht3 : Aside0 (sc_bytes t3) := ⟨fun y hy => Hq.out y (by rw [hcons]; simp [hy])⟩
    have HXcnt := Aside0.mk hx0
    clear hx0
    have HCcnt := Aside0.mk hcons
    clear hcons
    clear hb_ hf_
    obtain ⟨cn, rfl⟩ := Int.eq_ofNat_of_zero_le HXcnt.out.1
    have hcn : (cn : Int) < 256 := HXcnt.out.2
    go_wp2
    go_loopw [33] (fun i wr => ∃ (j : Nat) (t : List Int) (u : Value) (os : List ScOp), i = .int .i64 j ∧ j ≤ cn ∧ Aside0 (os.length = j) ∧ Aside0 (sc_bytes t) ∧ Aside0 (cmSt W0 W wr B W.heap.size t kind txn home verd u os) ∧ Aside0 (sc_ops cn 2 t3 = sc_more os (sc_ops (cn - j) 2 t))) (fun i _ => cn - (intOf i).toNat)
    case atStart =>
      refine ⟨0, t3, _, [], rfl, by omega, ⟨rfl⟩, Ht3, HS, ⟨?_⟩⟩
      rw [Nat.sub_zero]
      cases sc_ops cn 2 t3 with
      | error x => rfl
      | ok r => rfl
    case round =>
      obtain ⟨j, t, u, os, rfl, hj, HO, HT, HSr, HE⟩ := hrel
      clear HS
      have HS := HSr
      clear HSr
      by_cases hlt : j < cn
      · obtain ⟨f, hf⟩ : ∃ f, cn - j = f + 1 := ⟨cn - j - 1, by omega⟩
        have HF := Aside0.mk hf
        clear hf
        have hb1 := HS.out.box.cell
        have hb_ := HS.out.box.cell
        have HSZ := Aside0.mk HS.out.grown
        have HLN := Aside0.mk (show (os.length + 1) * 40 ≤ 140737488355328 by rw [HO.out]; omega)
        go_wp2_with fail
        refine start_ (n := 9) (S := fun w' => w'.cell? ⟨W.heap.size, 4, none⟩ = some u) (ds := [6, 8]) #[false, false, false, false, false, false, false, false, false] (by kernel_rfl) rfl rfl (by have := hb_.2.2.2.2; exact this) (fun hHeld => ?_)
        have HSd := Aside0.mk (HS.out.moved (W' := wr.drew) ⟨rfl, rfl, rfl, Nat.le_refl _, fun _ _ _ => rfl⟩)
        generalize wr.drew = wd at hHeld HSd ⊢
        refine pure_ (i := 0) (N := some 35) (v := ?_) (a' := ?_) #[true, false, false, false, false, false, false, false, false] rfl rfl (by kernel_rfl) (fun _ _ _ h => h) (Or.inl ⟨by rfl, ?_⟩) ?_ ?_
        rotate_left
        · intro w'
          go_simp
          with_reducible rfl
        rotate_left
        · simp only [Act.put, List.setIfInBounds_toArray, List.set_cons_zero, List.set_cons_succ, i64_w, i32_w]
          rfl
        refine pure_ (i := 2) (N := some 37) (v := ?_) (a' := ?_) #[true, false, true, false, false, false, false, false, false] rfl rfl (by kernel_rfl) (fun _ _ _ h => h) (Or.inl ⟨by rfl, ?_⟩) ?_ ?_
        rotate_left
        · intro w'
          go_simp
          with_reducible rfl
        rotate_left
        · simp only [Act.put, List.setIfInBounds_toArray, List.set_cons_zero, List.set_cons_succ, i64_w, i32_w]
          rfl
        refine pure_ (i := 3) (N := some 38) (v := ?_) (a' := ?_) #[true, false, true, true, false, false, false, false, false] rfl rfl (by kernel_rfl) (fun _ _ _ h => h) (Or.inl ⟨by rfl, ?_⟩) ?_ ?_
        rotate_left
        · intro w'
          go_simp
          with_reducible rfl
        rotate_left
        · simp only [Act.put, List.setIfInBounds_toArray, List.set_cons_zero, List.set_cons_succ, i64_w, i32_w]
          rfl
        refine take_ (i := 1) (N := some 36) (v := ?_) (a' := ?_) #[true, true, true, true, false, false, false, false, false] rfl rfl (by kernel_rfl) (fun _ _ _ h => h) (Or.inl ⟨by rfl, ?_⟩) hHeld ?_ ?_
        rotate_left
        · intro w' s0
          go_simp
          with_reducible rfl
        rotate_left
        · simp only [Act.put, List.setIfInBounds_toArray, List.set_cons_zero, List.set_cons_succ, i64_w, i32_w]
          rfl
        refine one_ (i := 4) (N := some 39) #[true, true, true, true, true, false, false, false, false] rfl rfl (by kernel_rfl) (by decide) (fun K hK => ?_)
        refine sc_goesx Try.func43 (by kernel_rfl) rfl #[.pointer (some ⟨B, 0, none⟩), .int .i64 2] (by rfl) rfl rfl (by (try simp only [List.map_toArray, List.map_cons, List.map_nil]); first | done | rfl) ?_
        refine (sc_op_calls W0 wd B t 2 HT.out HSd.out.scan).mono ?_
        rintro e W2 ⟨hg2, ⟨x, hx, rfl⟩ | ⟨o, t', hok, hs2, rfl⟩⟩
        · refine .inr ⟨_, rfl, ?_⟩
          have HPX : sc_cmd (2 :: kind :: t1) = .error x := by simp only [sc_cmd]; rw [if_neg (by decide), HTX.out]; dsimp only; rw [HChome.out, HCverd.out, HCcnt.out]; dsimp only; rw [Int.toNat_natCast]; rw [HE.out, HF.out]; simp only [sc_ops, hx, sc_more]
          have hsz := HSd.out.grown.trans hg2
          clear hK
          exact ⟨rfl, show scCmd W0 W B _ _ _ from ⟨hsz, .inl ⟨x, HPX, rfl⟩⟩⟩
        refine .inl ⟨_, rfl, ?_⟩
        have HS2 := Aside0.mk (HSd.out.call hg2 hs2)
        have HOK := Aside0.mk hok
        clear hg2 hs2 hok hHeld HSd
        refine hK.out _ _ HS2.out.box.cell.2.2.2.2 (fun hHeld => ?_)
        clear hK K
        obtain ⟨g, cap, W3, _, hraw, HO3, hg3⟩ := ops_app o HS2.out.own HS2.out.size HLN.out
        have hb3_ := (HS2.out.box3 hg3).cell
        have hf3_ := (HS2.out.box3 hg3).frozen 4
        have HS3 := Aside0.mk (HS2.out.fin hg3 HO3)
        have hal : (W2.alloc (.cells #[.int .i64 o.f0, .string o.f1, .string o.f2] 48)).cell? ⟨W.heap.size, 4, none⟩ = some u := (cmBox.kept HS2.out.box (World.grownBy_alloc _ _ none) (by simp)).cell.2.2.2.2
        clear HS2 HO3 hg3
        refine one_ (i := 5) (N := some 40) #[true, true, true, true, true, true, false, false, false] rfl rfl (by kernel_rfl) (by decide) (fun K hK => ?_)
        refine value_ (w1 := W2.alloc (.cells #[.int .i64 o.f0, .string o.f1, .string o.f2] 48)) (v := .slice (some ⟨W2.heap.size, 0, none⟩) 1 1) (by rfl) rfl ?_ ?_
        · go_simp
        refine hK.out _ _ hal (fun hHeld2 => ?_)
        clear hK K
        refine last_ (i := 6) (N := some 41) #[true, true, true, true, true, true, true, false, false] rfl rfl (by kernel_rfl) (by decide) (fun K hK => ?_)
        refine value_ (w1 := W3) (v := .slice (some ⟨g, 0, none⟩) (os.length + 1) cap) (by rfl) rfl ?_ ?_
        · simp [execOp, resolve, invoke, builtin, Act.eval, Act.put, hraw, Result.andThen]
        refine hK.out _ _ ?_
        clear hK K
        refine pure_ (i := 7) (N := some 42) (v := ?_) (a' := ?_) #[true, true, true, true, true, true, true, true, false] rfl rfl (by kernel_rfl) (fun _ _ _ h => h) (Or.inl ⟨by rfl, ?_⟩) ?_ ?_
        rotate_left
        · intro w'
          go_simp
          with_reducible rfl
        rotate_left
        · simp only [Act.put, List.setIfInBounds_toArray, List.set_cons_zero, List.set_cons_succ, i64_w, i32_w]
          rfl
        refine last_ (i := 8) (N := none) #[true, true, true, true, true, true, true, true, true] rfl rfl (by kernel_rfl) (by decide) (fun K hK => ?_)
        refine skip_ (w1 := ?_) (by rfl) rfl ?_ ?_
        rotate_left
        · go_simp
          rfl
        refine hK.out _ _ ?_
        clear hK K
        refine done_ (by kernel_rfl) ?_
        go_wp2
        go_roundw
        case rel =>
          exact ⟨j + 1, t', _, os ++ [o], by go_num, by omega, ⟨by simp [HO.out]⟩, ⟨sc_op_bytes 2 t o t' HT.out HOK.out⟩, HS3, ⟨by rw [HE.out, HF.out, sc_more_step os f HOK.out, show cn - (j + 1) = f by have := HF.out; omega]⟩⟩
        case measure => simp [intOf]; omega
      · obtain rfl : j = cn := by omega
        clear hlt
        have HEE : Aside0 (sc_ops j 2 t3 = .ok (os, t)) := ⟨by rw [HE.out, Nat.sub_self]; simp [sc_ops, sc_more]⟩
        obtain ⟨_, _, A, c, hbox, _⟩ := id HS.out.scan
        have hcell := hbox.cell
        clear hbox HE
        by_cases ht : 0 < t.length
        · have HPX := Aside0.mk (show sc_cmd (2 :: kind :: t1) = .error 23 by simp only [sc_cmd]; rw [if_neg (by decide), HTX.out]; dsimp only; rw [HChome.out, HCverd.out, HCcnt.out]; dsimp only; rw [Int.toNat_natCast]; rw [HEE.out]; dsimp only; rw [if_pos ht])
          have HSZ := Aside0.mk HS.out.grown
          go_wp2
          refine ⟨rfl, ?_⟩
          exact show scCmd W0 W B _ _ _ from ⟨HSZ.out, .inl ⟨23, HPX.out, rfl⟩⟩
        · have HPX := Aside0.mk (show sc_cmd (2 :: kind :: t1) = .ok (kind, txn, home, verd, os, 2) by simp only [sc_cmd]; rw [if_neg (by decide), HTX.out]; dsimp only; rw [HChome.out, HCverd.out, HCcnt.out]; dsimp only; rw [Int.toNat_natCast]; rw [HEE.out]; dsimp only; rw [if_neg ht])
          obtain rfl : t = [] := List.eq_nil_of_length_eq_zero (by omega)
          obtain ⟨Au, cu, eu⟩ := Kd.R_slice HS.out.own
          subst eu
          have hb_ := HS.out.box.cell
          have hf_ := HS.out.box.frozen
          have F := Aside0.mk HS.out.fin5
          go_wp2
          obtain ⟨f1, f2, f3⟩ := F.out
          refine bodyPost_ret (sc_res_cell (g := W.heap.size) rfl rfl f2 rfl) rfl ?_
          exact show scCmd W0 W B _ _ _ from ⟨f1, .inr ⟨kind, txn, home, verd, os, 2, _, HPX.out, rfl, f3⟩⟩
end

end Go.Proofs.Ytpjaebbgbmhneaa.Print
