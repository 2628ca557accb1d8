/- Written by pp.py, a program of this project that runs the kit's print over the translation, with functions proved by hand put in. Lean checks it. -/
import Derived.Test.YtpjaebbgbmhneaaPrint0
import Derived.Test.YtpjaebbgbmhneaaPrint6
import Derived.Test.YtpjaebbgbmhneaaPrint8
import Derived.Test.YtpjaebbgbmhneaaPrint9
import Derived.Test.YtpjaebbgbmhneaaPrint10
import Derived.Test.YtpjaebbgbmhneaaPrint11
import Derived.Test.YtpjaebbgbmhneaaPrint12
namespace Go.Proofs.Ytpjaebbgbmhneaa.Print
open Go.RowKit Go.Proofs.YtpjaebbgbmhneaaW.PrintWords Go.Proofs.YtpjaebbgbmhneaaW.PrintLast Go.Proofs.YtpjaebbgbmhneaaW.PrintMore
attribute [local go_sem] max2_int min2_int max_two min_two max_three min_three max_four min_four   -- for this text's walks alone
set_option linter.unusedVariables false
set_option linter.unusedSimpArgs false

/-! ### transeptref13_Decode: function 15, by hand -/
def rd_ops : Nat → Int → List Int → Nat → Int → List ScOp × Nat × Int
  | 0, _, _, p, e => ([], p, e)
  | n + 1, v, l, p, e => if e ≠ 0 then ([], p, e) else match rd_op v l p e with
    | (o, p1, e1) => match rd_ops n v l p1 e1 with
      | (os, p2, e2) => (o :: os, p2, e2)
def rd_more (acc : List ScOp) (r : List ScOp × Nat × Int) : List ScOp × Nat × Int := (acc ++ r.1, r.2)
def rd_txn (v : Int) (l : List Int) (p : Nat) (e : Int) : Int × Bool × Nat × Int :=
  if v = 1 then match rd_num l p e 8 with
    | (n, p3, e3) => (n % 4611686018427387904, decide (n > 1099511627776), p3, e3)
  else match rd_groups 6 0 0 l p e with
    | (n, p3, e3) => (n, false, p3, e3)
abbrev RdRes := Int × Int × Int × Int × List ScOp × Int × Int
def rd_end (k : Nat) (kind txn home verd : Int) (ops : List ScOp) (v : Int) (p : Nat) (e : Int) (len : Nat) : Option RdRes :=
  if e ≠ 0 then some (0, 0, 0, 0, [], 0, e) else if p < len then some (0, 0, 0, 0, [], 0, 23) else
    (transeptref13_Check.f k kind txn home verd ops).bind fun ec => if ec ≠ 0 then some (0, 0, 0, 0, [], 0, ec) else
      (transeptref13_Encode.f k kind txn home verd ops v).bind fun en => if en.2 ≠ 0 then some (0, 0, 0, 0, [], 0, en.2) else some (kind, txn, home, verd, ops, v, 0)
def rd_rest (k : Nat) (v : Int) (l : List Int) (p1 : Nat) (e1 : Int) : Option RdRes :=
  match rd_num l p1 e1 1 with
  | (kind, p2, e2) => match rd_txn v l p2 e2 with
    | (txn, big, p3, e3) => match rd_num l p3 e3 1 with
      | (home, p4, e4) => match rd_num l p4 e4 1 with
        | (verd, p5, e5) => match rd_num l p5 e5 1 with
          | (cnt, p6, e6) => match rd_ops cnt.toNat v l p6 e6 with
            | (ops, p7, e7) => rd_end k kind (if big = true then 1099511627777 else txn) home verd ops v p7 e7 l.length
def rd_dec (k : Nat) (l : List Int) : Option RdRes :=
  match rd_num l 0 0 1 with
  | (v, p1, e1) => if e1 = 0 ∧ v ≠ 1 ∧ v ≠ 2 then some (0, 0, 0, 0, [], 0, 131) else rd_rest k v l p1 e1
def transeptref13_Decode.f (k : Nat) (l0 : List Int) : Option RdRes := if (l0.all fun x => decide (0 ≤ x ∧ x < 256)) = true then rd_dec k l0 else none
theorem rd_end_mono (k : Nat) (a b c d : Int) (os : List ScOp) (v : Int) (p : Nat) (e : Int) (n : Nat) : LeO (rd_end k a b c d os v p e n) (rd_end (k + 1) a b c d os v p e n) := by
  unfold rd_end
  refine LeO.ite (LeO.refl _) (LeO.ite (LeO.refl _) (LeO.bind (transeptref13_Check.mono _ _ _ _ _ _) (fun _ => LeO.ite (LeO.refl _) (LeO.bind (transeptref13_Encode.mono _ _ _ _ _ _ _) (fun _ => LeO.refl _)))))
theorem transeptref13_Decode.mono : ∀ l0 k, LeO (transeptref13_Decode.f k l0) (transeptref13_Decode.f (k + 1) l0) := by
  intro l k
  unfold transeptref13_Decode.f
  refine LeO.ite ?_ (LeO.refl _)
  unfold rd_dec
  refine LeO.ite (LeO.refl _) ?_
  unfold rd_rest
  exact rd_end_mono _ _ _ _ _ _ _ _ _ _
theorem rd_more_step (os : List ScOp) (f : Nat) {v : Int} {l : List Int} {p : Nat} {o : ScOp} {p1 : Nat} {e1 : Int} (h : rd_op v l p 0 = (o, p1, e1)) : rd_more os (rd_ops (f + 1) v l p 0) = rd_more (os ++ [o]) (rd_ops f v l p1 e1) := by
  simp only [rd_ops]
  rw [if_neg (by decide), h]
  simp [rd_more]
theorem rd_and (n : Int) (h0 : 0 ≤ n) (h1 : n < 18446744073709551616) : Go.bits .and .u64 n 4611686018427387903 = n % 4611686018427387904 := by
  obtain ⟨m, rfl⟩ := Int.eq_ofNat_of_zero_le h0
  have h := bits_and_u64_nat m 4611686018427387903 (by omega) (by omega)
  rw [show ((4611686018427387903 : Nat) : Int) = 4611686018427387903 from rfl] at h
  rw [h, show (4611686018427387903 : Nat) = 2 ^ 62 - 1 by decide, Nat.and_two_pow_sub_one_eq_mod]
  omega
/-- A reader at work, and the command it makes. -/
structure dcSt (w Wc : World) (B : Nat) (A : Option Addr) (c : Nat) (l : List Int) (b2 b7 : Nat) (p : Nat) (e : Int) (a1 a2 a3 a4 : Int) (v : Value) (os : List ScOp) : Prop where
  rd : rdAt w Wc B A c l p e
  box2 : cmBox Wc b2 0 0 0 0 (.slice none 0 0)
  box7 : cmBox Wc b7 a1 a2 a3 a4 v
  own : Kd.R k48 48 Wc w.heap.size (fun _ => True) v os
  n2 : w.heap.size ≤ b2
  l2 : b2 < B
  l7 : B < b7
theorem dcSt.opB {w Wc : World} {B : Nat} {A : Option Addr} {c : Nat} {l : List Int} {b2 b7 p : Nat} {e a1 a2 a3 a4 : Int} {v : Value} {os : List ScOp} (h : dcSt w Wc B A c l b2 b7 p e a1 a2 a3 a4 v os) : v.ownBlock = none ∨ v.ownBlock ≠ some B := by
  cases q : v.ownBlock with
  | none => exact .inl rfl
  | some k => right; obtain ⟨_, _, cs, hk⟩ := ops_base h.own k q; intro e2; injection e2 with e2; subst e2; have hx := h.rd.box; unfold rdBox at hx; rw [hk] at hx; simp at hx
theorem cm_op {Wc : World} {base b : Nat} {a1 a2 a3 a4 : Int} {u v : Value} {os : List ScOp} (hb : cmBox Wc b a1 a2 a3 a4 u) (ho : Kd.R k48 48 Wc base (fun _ => True) v os) : v.ownBlock = none ∨ v.ownBlock ≠ some b := by
  cases q : v.ownBlock with
  | none => exact .inl rfl
  | some k => right; obtain ⟨_, _, cs, hk⟩ := ops_base ho k q; intro e2; injection e2 with e2; subst e2; have hx := hb; unfold cmBox at hx; rw [hk] at hx; simp at hx
theorem dcSt.call {w Wc W' : World} {B : Nat} {A : Option Addr} {c : Nat} {l : List Int} {b2 b7 p p' : Nat} {e e' a1 a2 a3 a4 : Int} {v : Value} {os : List ScOp} (h : dcSt w Wc B A c l b2 b7 p e a1 a2 a3 a4 v os) (hg : Wc.grownBy W' (some B)) (hs : rdAt w W' B A c l p' e') : dcSt w W' B A c l b2 b7 p' e' a1 a2 a3 a4 v os :=
  ⟨hs, h.box2.kept hg (by have := h.l2; simp; omega), h.box7.kept hg (by have := h.l7; simp; omega), ops_grown h.own hg h.opB, h.n2, h.l2, h.l7⟩
theorem dcSt.moved {w Wc W' : World} {B : Nat} {A : Option Addr} {c : Nat} {l : List Int} {b2 b7 p : Nat} {e a1 a2 a3 a4 : Int} {v : Value} {os : List ScOp} (h : dcSt w Wc B A c l b2 b7 p e a1 a2 a3 a4 v os) (hg : Wc.grownBy W' none) : dcSt w W' B A c l b2 b7 p e a1 a2 a3 a4 v os :=
  ⟨h.rd.grown hg (fun k e => by cases e), h.box2.kept hg (by simp), h.box7.kept hg (by simp), ops_grown h.own hg (by cases q : v.ownBlock with | none => exact .inl rfl | some k => right; simp), h.n2, h.l2, h.l7⟩
theorem dcSt.size {w Wc : World} {B : Nat} {A : Option Addr} {c : Nat} {l : List Int} {b2 b7 p : Nat} {e a1 a2 a3 a4 : Int} {v : Value} {os : List ScOp} (h : dcSt w Wc B A c l b2 b7 p e a1 a2 a3 a4 v os) : w.heap.size ≤ Wc.heap.size := h.rd.below.size
theorem dcSt.rd7 {w Wc : World} {B : Nat} {A : Option Addr} {c : Nat} {l : List Int} {b2 b7 p : Nat} {e a1 a2 a3 a4 : Int} {v : Value} {os : List ScOp} (h : dcSt w Wc B A c l b2 b7 p e a1 a2 a3 a4 v os) (i : Nat) (x : Value) : rdAt w (Wc.setCell ⟨b7, i, none⟩ x) B A c l p e :=
  h.rd.grown (sc_grown_setCell _ _ _ _) (fun k q => by cases q; exact ⟨by have := h.n2; have := h.l2; have := h.l7; omega, by have := h.l7; omega⟩)
theorem dcSt.st0 {w Wc : World} {B : Nat} {A : Option Addr} {c : Nat} {l : List Int} {b2 b7 p : Nat} {e a1 a2 a3 a4 : Int} {v : Value} {os : List ScOp} (h : dcSt w Wc B A c l b2 b7 p e a1 a2 a3 a4 v os) (x : Int) : dcSt w (Wc.setCell ⟨b7, 0, none⟩ (.int .i64 x)) B A c l b2 b7 p e x a2 a3 a4 v os :=
  ⟨h.rd7 0 _, h.box2.kept (sc_grown_setCell _ _ _ _) (by have := h.l2; have := h.l7; simp; omega), h.box7.set0 x, ops_grown h.own (sc_grown_setCell _ _ _ _) (cm_op h.box7 h.own), h.n2, h.l2, h.l7⟩
theorem dcSt.st1 {w Wc : World} {B : Nat} {A : Option Addr} {c : Nat} {l : List Int} {b2 b7 p : Nat} {e a1 a2 a3 a4 : Int} {v : Value} {os : List ScOp} (h : dcSt w Wc B A c l b2 b7 p e a1 a2 a3 a4 v os) (x : Int) : dcSt w (Wc.setCell ⟨b7, 1, none⟩ (.int .i64 x)) B A c l b2 b7 p e a1 x a3 a4 v os :=
  ⟨h.rd7 1 _, h.box2.kept (sc_grown_setCell _ _ _ _) (by have := h.l2; have := h.l7; simp; omega), h.box7.set1 x, ops_grown h.own (sc_grown_setCell _ _ _ _) (cm_op h.box7 h.own), h.n2, h.l2, h.l7⟩
theorem dcSt.st2 {w Wc : World} {B : Nat} {A : Option Addr} {c : Nat} {l : List Int} {b2 b7 p : Nat} {e a1 a2 a3 a4 : Int} {v : Value} {os : List ScOp} (h : dcSt w Wc B A c l b2 b7 p e a1 a2 a3 a4 v os) (x : Int) : dcSt w (Wc.setCell ⟨b7, 2, none⟩ (.int .i64 x)) B A c l b2 b7 p e a1 a2 x a4 v os :=
  ⟨h.rd7 2 _, h.box2.kept (sc_grown_setCell _ _ _ _) (by have := h.l2; have := h.l7; simp; omega), h.box7.set2 x, ops_grown h.own (sc_grown_setCell _ _ _ _) (cm_op h.box7 h.own), h.n2, h.l2, h.l7⟩
theorem dcSt.st3 {w Wc : World} {B : Nat} {A : Option Addr} {c : Nat} {l : List Int} {b2 b7 p : Nat} {e a1 a2 a3 a4 : Int} {v : Value} {os : List ScOp} (h : dcSt w Wc B A c l b2 b7 p e a1 a2 a3 a4 v os) (x : Int) : dcSt w (Wc.setCell ⟨b7, 3, none⟩ (.int .i64 x)) B A c l b2 b7 p e a1 a2 a3 x v os :=
  ⟨h.rd7 3 _, h.box2.kept (sc_grown_setCell _ _ _ _) (by have := h.l2; have := h.l7; simp; omega), h.box7.set3 x, ops_grown h.own (sc_grown_setCell _ _ _ _) (cm_op h.box7 h.own), h.n2, h.l2, h.l7⟩
theorem dcSt.box3 {w W2 W3 : World} {B : Nat} {A : Option Addr} {c : Nat} {l : List Int} {b2 b7 p : Nat} {e a1 a2 a3 a4 : Int} {v : Value} {os : List ScOp} (h : dcSt w W2 B A c l b2 b7 p e a1 a2 a3 a4 v os) (hg : W2.grownBy W3 v.ownBlock) : cmBox W3 b7 a1 a2 a3 a4 v :=
  h.box7.kept hg (by rcases cm_op h.box7 h.own with q | q; rw [q]; simp; exact Ne.symm q)
theorem dcSt.fin {w W2 W3 : World} {B : Nat} {A : Option Addr} {c : Nat} {l : List Int} {b2 b7 p : Nat} {e a1 a2 a3 a4 : Int} {v v' : Value} {os os' : List ScOp} (h : dcSt w W2 B A c l b2 b7 p e a1 a2 a3 a4 v os) (hg : W2.grownBy W3 v.ownBlock) (ho : Kd.R k48 48 W3 w.heap.size (fun _ => True) v' os') :
    dcSt w (W3.setCell ⟨b7, 4, none⟩ v') B A c l b2 b7 p e a1 a2 a3 a4 v' os' := by
  have hb3 := h.box3 hg
  have hr3 : rdAt w W3 B A c l p e := h.rd.grown hg (fun k q => ⟨(ops_base h.own k q).1, by intro q2; subst q2; rcases h.opB with z | z; rw [z] at q; cases q; exact z q⟩)
  have h23 : cmBox W3 b2 0 0 0 0 (.slice none 0 0) := h.box2.kept hg (by rcases cm_op h.box2 h.own with q | q; rw [q]; simp; exact Ne.symm q)
  exact ⟨hr3.grown (sc_grown_setCell _ _ _ _) (fun k q => by cases q; exact ⟨by have := h.n2; have := h.l2; have := h.l7; omega, by have := h.l7; omega⟩), h23.kept (sc_grown_setCell _ _ _ _) (by have := h.l2; have := h.l7; simp; omega), hb3.set4 v', ops_grown ho (sc_grown_setCell _ _ _ _) (cm_op hb3 ho), h.n2, h.l2, h.l7⟩
theorem rd_res_cell {tmps : Array Value} {W : World} {g : Nat} {cs : Array Value} {x y : Value} (hp : tmps.getD 2 undef = .pointer (some ⟨g, 0, none⟩)) (hx : tmps.getD 3 undef = x) (hy : tmps.getD 4 undef = y) (hg : W.heap[g]? = some (.cells cs 24 (0, 0))) (hs : cs.size = 5) :
    (results Try.f15 tmps).run Try.prog W = .ok (.tuple #[.agg cs, x, y]) W := by
  have hlv := run_loadVar_row (P := Try.prog) W g 24 24 cs (0, 0) _ hg Try.underlying24 rfl (by rw [hs]; kernel_rfl)
  simp only [results, Try.results15]
  simp only [Array.getD_eq_getD_getElem?] at hp hx hy
  simp [hp, hx, hy, asAddr, hlv, Result.andThen, Sem.run_bind]
theorem dcSt.under {w Wc W' : World} {B : Nat} {A : Option Addr} {c : Nat} {l : List Int} {b2 b7 p : Nat} {e a1 a2 a3 a4 : Int} {v : Value} {os : List ScOp} (h : dcSt w Wc B A c l b2 b7 p e a1 a2 a3 a4 v os) (hb : Below Wc.heap.size Wc W') : dcSt w W' B A c l b2 b7 p e a1 a2 a3 a4 v os :=
  h.moved ⟨hb.os, hb.tape, hb.output, hb.size, fun k hk _ => hb.block k hk⟩
theorem dcSt.slice {w Wc : World} {B : Nat} {A : Option Addr} {c : Nat} {l : List Int} {b2 b7 p : Nat} {e a1 a2 a3 a4 : Int} {v : Value} {os : List ScOp} (h : dcSt w Wc B A c l b2 b7 p e a1 a2 a3 a4 v os) : ∃ Au cu, v = .slice Au os.length cu := Kd.R_slice h.own
section
attribute [local go_sem ↓ 5000] builtin_shutApp
set_option maxHeartbeats 16000000 in
set_option maxRecDepth 1000000 in
theorem transeptref13_Decode.calls (k : Nat) (A0 : Option Addr) (c0 : Nat) (l0 : List Int) (r1 r2 r3 r4 : Int) (r5 : List ScOp) (r6 r7 : Int) (w : World) (hr0 : Kd.C (Kd.int .u8) w A0 l0.length l0) (hc0 : l0.length ≤ c0) (h : transeptref13_Decode.f k l0 = some (r1, r2, r3, r4, r5, r6, r7)) :
    Calls Try.prog 15 #[.slice A0 l0.length c0] w fun e w' => ∃ v0_ : Value, e = .returned (.tuple #[.agg #[.int .i64 r1, .int .i64 r2, .int .i64 r3, .int .i64 r4, v0_], .int .i64 r6, .int .i64 r7]) ∧ Kd.R k48 48 w' w.heap.size (fun _ => True) v0_ r5 ∧ Below w.heap.size w w' := by
  unfold transeptref13_Decode.f at h
  split at h
  case isFalse => cases h
  rename_i hall
  have HL : Aside0 (sc_bytes l0) := ⟨fun x hx => by have := List.all_eq_true.1 hall x hx; simpa using this⟩
  have H := Aside0.mk h
  clear h hall
  have hB0 : Below w.heap.size w ((w.alloc (.cells #[.int .i64 0, .int .i64 0, .int .i64 0, .int .i64 0, .slice none 0 0] 24)).alloc (.cells #[.slice A0 l0.length c0, .int .i64 0, .int .i64 0] 63)) := ((Below.refl _ w).alloc (Nat.le_refl _) _).alloc (by simp) _
  have hbr : rdBox ((w.alloc (.cells #[.int .i64 0, .int .i64 0, .int .i64 0, .int .i64 0, .slice none 0 0] 24)).alloc (.cells #[.slice A0 l0.length c0, .int .i64 0, .int .i64 0] 63)) (w.heap.size + 1) A0 c0 l0.length 0 0 := by
    have := World.alloc_heap_new (w.alloc (.cells #[.int .i64 0, .int .i64 0, .int .i64 0, .int .i64 0, .slice none 0 0] 24)) (.cells #[.slice A0 l0.length c0, .int .i64 0, .int .i64 0] 63)
    rw [World.size_alloc] at this
    exact this
  have hb2 : cmBox ((w.alloc (.cells #[.int .i64 0, .int .i64 0, .int .i64 0, .int .i64 0, .slice none 0 0] 24)).alloc (.cells #[.slice A0 l0.length c0, .int .i64 0, .int .i64 0] 63)) w.heap.size 0 0 0 0 (.slice none 0 0) := cmBox.kept (World.alloc_heap_new w _) (World.grownBy_alloc _ _ none) (by simp)
  have HA := Aside0.mk (⟨hB0, by omega, hbr, hr0, hc0, Nat.zero_le _⟩ : rdAt w ((w.alloc (.cells #[.int .i64 0, .int .i64 0, .int .i64 0, .int .i64 0, .slice none 0 0] 24)).alloc (.cells #[.slice A0 l0.length c0, .int .i64 0, .int .i64 0] 63)) (w.heap.size + 1) A0 c0 l0 0 0)
  have HB2 := Aside0.mk hb2
  have HLL := Aside0.mk (show l0.length ≤ 9223372036854775807 from hr0.2.1)
  clear hr0 hc0 hB0 hbr hb2
  have T := Aside0.mk (rd_num_calls w _ (w.heap.size + 1) A0 c0 l0 HL.out 0 0 1 (by decide) HA.out)
  go_enter Try.func15, Try.ntmps15
  go_wp2_with fail
  refine T.out.mono ?_
  rintro e W1 ⟨hg, hs1, rfl⟩
  have hlt := rd_num_lt HL.out 0 0 1
  have hz : (rd_num l0 0 0 1).2.2 ≠ 0 → (rd_num l0 0 0 1).1 = 0 := by
    intro h
    unfold rd_num rd_take at h ⊢
    rw [if_neg (by decide)] at h ⊢
    split at h
    · rename_i hh; rw [if_pos hh]; rfl
    · exact absurd rfl h
  have B2 := Aside0.mk (HB2.out.kept hg (by simp))
  generalize hr : rd_num l0 0 0 1 = r at hlt hs1 hz ⊢
  obtain ⟨vv, p1, e1⟩ := r
  dsimp only at hs1 hz hlt ⊢
  have HRv := Aside0.mk hr
  obtain ⟨v, rfl⟩ := Int.eq_ofNat_of_zero_le hlt.1
  have hvl : (v : Int) < 256 := by have := hlt.2; simpa using this
  have HA1 := Aside0.mk hs1
  have hcl := hs1.box.cell
  clear hg hs1 T HA HB2 hr hlt
  by_cases hE : e1 = 0
  · subst hE
    by_cases hv : ¬ (v : Int) = 1 ∧ ¬ (v : Int) = 2
    · have hv1 := hv.1
      have hv2 := hv.2
      have hv3 : ((v : Int) == 1) = false := by simpa using hv1
      have hv4 : ((v : Int) == 2) = false := by simpa using hv2
      have hv5 : ((v : Int) != 1) = true := by simpa using hv1
      have hv6 : ((v : Int) != 2) = true := by simpa using hv2
      have hv7 := eq_false hv1
      have hv8 := eq_false hv2
      have HPX := Aside0.mk (show rd_dec k l0 = some (0, 0, 0, 0, [], 0, 131) by unfold rd_dec; rw [HRv.out]; dsimp only; rw [if_pos ⟨rfl, hv⟩])
      have hz_ := B2.out.cell
      have hzf_ := B2.out.frozen
      have P2 := Aside0.mk (cm_put (b1 := 0) (b2 := 0) (b3 := 0) (b4 := 0) (v := .slice none 0 0) B2.out)
      have BB := Aside0.mk HA1.out.below
      clear B2 HA1 hv hz
      go_wp2
      obtain ⟨f2, f3⟩ := P2.out
      refine bodyPost_ret (rd_res_cell (g := w.heap.size) rfl rfl rfl f2 rfl) rfl ?_
      have hrr := H.out
      rw [HPX.out] at hrr
      cases hrr
      exact ⟨_, rfl, Kd.R_nil _ _ _ _ _, BB.out.grown f3 BB.out.size (fun k e => by cases e; exact Nat.le_refl _)⟩
    · have HD := Aside0.mk (show rd_dec k l0 = rd_rest k (v : Int) l0 p1 0 by unfold rd_dec; rw [HRv.out]; dsimp only; rw [if_neg (fun h => hv h.2)])
      have hv' : v = 1 ∨ v = 2 := by omega
      rcases hv' with rfl | rfl
      · clear hv hz
        have T := Aside0.mk (rd_num_calls w _ (w.heap.size + 1) A0 c0 l0 HL.out p1 0 1 (by decide) HA1.out)
        go_wp2_with fail
        refine T.out.mono ?_
        rintro e W2 ⟨hg, hs1, rfl⟩
        have hlt := rd_num_lt HL.out p1 0 1
        generalize hr : rd_num l0 p1 0 1 = r at hlt hs1 ⊢
        obtain ⟨kindv, kp, ke⟩ := r
        dsimp only at hs1 hlt ⊢
        have HRkind := Aside0.mk hr
        clear hr
        obtain ⟨kind, rfl⟩ := Int.eq_ofNat_of_zero_le hlt.1
        have hkind : (kind : Int) < 256 := by have := hlt.2; simpa using this
        have HS : Aside0 (dcSt w (W2.alloc (.cells #[.int .i64 (kind : Int), .int .i64 0, .int .i64 0, .int .i64 0, .slice none 0 0] 24)) (w.heap.size + 1) A0 c0 l0 w.heap.size W2.heap.size kp ke (kind : Int) 0 0 0 (.slice none 0 0) []) := by
          exact ⟨⟨hs1.grown (row := none) (World.grownBy_alloc _ _ _) (fun k e => by cases e), (B2.out.kept hg (by simp)).kept (World.grownBy_alloc _ _ none) (by simp), World.alloc_heap_new W2 _, Kd.R_nil _ _ _ _ _, Nat.le_refl _, by omega, hs1.box.lt⟩⟩
        clear hg hs1 T HA1 B2 hlt hcl
        have T := Aside0.mk (rd_num_calls w _ (w.heap.size + 1) A0 c0 l0 HL.out kp ke 8 (by decide) HS.out.rd)
        go_wp2_with fail
        refine T.out.mono ?_
        rintro e W3 ⟨hg, hs1, rfl⟩
        have HS1 := Aside0.mk (HS.out.call hg hs1)
        have hlt := rd_num_lt HL.out kp ke 8
        clear hg hs1 T HS
        generalize hr : rd_num l0 kp ke 8 = r at hlt HS1 ⊢
        obtain ⟨nv, tp, te⟩ := r
        dsimp only at HS1 hlt ⊢
        obtain ⟨n, rfl⟩ := Int.eq_ofNat_of_zero_le hlt.1
        have hn8 : (n : Int) < 18446744073709551616 := by have := hlt.2; simpa using this
        have HTX := Aside0.mk (show rd_txn 1 l0 kp ke = ((n : Int) % 4611686018427387904, decide ((n : Int) > 1099511627776), tp, te) by unfold rd_txn; rw [if_pos rfl, hr])
        have hand := rd_and (n : Int) (by omega) hn8
        obtain ⟨txn, htxn⟩ := Int.eq_ofNat_of_zero_le (show 0 ≤ (n : Int) % 4611686018427387904 by omega)
        have htl : (txn : Int) < 4611686018427387904 := by omega
        rw [htxn] at hand HTX
        obtain ⟨big, hbig⟩ : ∃ b : Bool, b = decide ((n : Int) > 1099511627776) := ⟨_, rfl⟩
        rw [← hbig] at HTX
        have hbig2 : decide (1099511627776 < (n : Int)) = big := hbig.symm
        have hbig3 : decide (1099511627776 < n) = big := by rw [hbig]; apply decide_eq_decide.2; omega
        clear hr hlt htxn hbig
        have HS := HS1
        clear HS1
        have hb_ := HS.out.box7.cell
        have hf_ := HS.out.box7.frozen 1
        have HSn := Aside0.mk (HS.out.st1 ((txn : Int)))
        clear HS
        have HS := HSn
        clear HSn
        have T := Aside0.mk (rd_num_calls w _ (w.heap.size + 1) A0 c0 l0 HL.out tp te 1 (by decide) HS.out.rd)
        go_wp2_with fail
        refine T.out.mono ?_
        rintro e W4 ⟨hg, hs1, rfl⟩
        have HS1 := Aside0.mk (HS.out.call hg hs1)
        have hlt := rd_num_lt HL.out tp te 1
        clear hg hs1 T HS
        generalize hr : rd_num l0 tp te 1 = r at hlt HS1 ⊢
        obtain ⟨homev, homep, homee⟩ := r
        have HRhome := Aside0.mk hr
        clear hr
        have HS := HS1
        clear HS1
        obtain ⟨home, rfl⟩ := Int.eq_ofNat_of_zero_le hlt.1
        have hhome : (home : Int) < 256 := by have := hlt.2; simpa using this
        clear hlt
        dsimp only at HS ⊢
        clear hb_ hf_
        have hb_ := HS.out.box7.cell
        have hf_ := HS.out.box7.frozen 2
        have HSn := Aside0.mk (HS.out.st2 ((home : Int)))
        clear HS
        have HS := HSn
        clear HSn
        have T := Aside0.mk (rd_num_calls w _ (w.heap.size + 1) A0 c0 l0 HL.out homep homee 1 (by decide) HS.out.rd)
        go_wp2_with fail
        refine T.out.mono ?_
        rintro e W5 ⟨hg, hs1, rfl⟩
        have HS1 := Aside0.mk (HS.out.call hg hs1)
        have hlt := rd_num_lt HL.out homep homee 1
        clear hg hs1 T HS
        generalize hr : rd_num l0 homep homee 1 = r at hlt HS1 ⊢
        obtain ⟨verdv, verdp, verde⟩ := r
        have HRverd := Aside0.mk hr
        clear hr
        have HS := HS1
        clear HS1
        obtain ⟨verd, rfl⟩ := Int.eq_ofNat_of_zero_le hlt.1
        have hverd : (verd : Int) < 256 := by have := hlt.2; simpa using this
        clear hlt
        dsimp only at HS ⊢
        clear hb_ hf_
        have hb_ := HS.out.box7.cell
        have hf_ := HS.out.box7.frozen 3
        have HSn := Aside0.mk (HS.out.st3 ((verd : Int)))
        clear HS
        have HS := HSn
        clear HSn
        have T := Aside0.mk (rd_num_calls w _ (w.heap.size + 1) A0 c0 l0 HL.out verdp verde 1 (by decide) HS.out.rd)
        go_wp2_with fail
        refine T.out.mono ?_
        rintro e W6 ⟨hg, hs1, rfl⟩
        have HS1 := Aside0.mk (HS.out.call hg hs1)
        have hlt := rd_num_lt HL.out verdp verde 1
        clear hg hs1 T HS
        generalize hr : rd_num l0 verdp verde 1 = r at hlt HS1 ⊢
        obtain ⟨cnv, cnp, cne⟩ := r
        have HRcn := Aside0.mk hr
        clear hr
        have HS := HS1
        clear HS1
        obtain ⟨cn, rfl⟩ := Int.eq_ofNat_of_zero_le hlt.1
        have hcn : (cn : Int) < 256 := by have := hlt.2; simpa using this
        clear hlt
        dsimp only at HS ⊢
        clear hb_ hf_
        have HD := Aside0.mk (show rd_dec k l0 = rd_rest k 1 l0 p1 0 from HD.out)
        have HDD : Aside0 (rd_dec k l0 = match rd_ops cn 1 l0 cnp cne with | (ops, p7, e7) => rd_end k (kind : Int) (if big = true then 1099511627777 else (txn : Int)) (home : Int) (verd : Int) ops 1 p7 e7 l0.length) := ⟨by rw [HD.out]; unfold rd_rest; rw [HRkind.out]; dsimp only; rw [HTX.out]; dsimp only; rw [HRhome.out]; dsimp only; rw [HRverd.out]; dsimp only; rw [HRcn.out]; dsimp only; rw [Int.toNat_natCast]⟩
        go_wp2
        go_loopw [11] (fun i wr => ∃ (j p : Nat) (e : Int) (u : Value) (os : List ScOp), i = .int .i64 j ∧ j ≤ cn ∧ Aside0 (os.length = j) ∧ Aside0 (dcSt w wr (w.heap.size + 1) A0 c0 l0 w.heap.size W2.heap.size p e (kind : Int) (txn : Int) (home : Int) (verd : Int) u os) ∧ Aside0 (rd_ops cn 1 l0 cnp cne = rd_more os (rd_ops (cn - j) 1 l0 p e))) (fun i _ => cn - (intOf i).toNat)
        case atStart =>
          exact ⟨0, cnp, cne, _, [], rfl, by omega, ⟨rfl⟩, HS, ⟨by rw [Nat.sub_zero]; rfl⟩⟩
        case round =>
          obtain ⟨j, p, e, u, os, rfl, hj, HO, HSr, HE⟩ := hrel
          clear HS
          have HS := HSr
          clear HSr
          have hbr := HS.out.rd.box.cell
          have hb_ := HS.out.box7.cell
          by_cases he : e = 0
          · subst he
            by_cases hlt : j < cn
            · obtain ⟨f, hf⟩ : ∃ f, cn - j = f + 1 := ⟨cn - j - 1, by omega⟩
              have HF := Aside0.mk hf
              clear hf
              have HLN := Aside0.mk (show (os.length + 1) * 40 ≤ 140737488355328 by rw [HO.out]; omega)
              go_wp2_with fail
              refine start_ (n := 9) (S := fun w' => w'.cell? ⟨W2.heap.size, 4, none⟩ = some u) (ds := [6, 8]) #[false, false, false, false, false, false, false, false, false] (by kernel_rfl) rfl rfl (by have := hb_.2.2.2.2; exact this) (fun hHeld => ?_)
              have HSd := Aside0.mk (HS.out.moved (W' := wr.drew) ⟨rfl, rfl, rfl, Nat.le_refl _, fun _ _ _ => rfl⟩)
              generalize wr.drew = wd at hHeld HSd ⊢
              refine pure_ (i := 0) (N := some 73) (v := ?_) (a' := ?_) #[true, false, false, false, false, false, false, false, false] rfl rfl (by kernel_rfl) (fun _ _ _ h => h) (Or.inl ⟨by rfl, ?_⟩) ?_ ?_
              rotate_left
              · intro w'
                go_simp
                with_reducible rfl
              rotate_left
              · simp only [Act.put, List.setIfInBounds_toArray, List.set_cons_zero, List.set_cons_succ, i64_w, i32_w]
                rfl
              refine pure_ (i := 2) (N := some 75) (v := ?_) (a' := ?_) #[true, false, true, false, false, false, false, false, false] rfl rfl (by kernel_rfl) (fun _ _ _ h => h) (Or.inl ⟨by rfl, ?_⟩) ?_ ?_
              rotate_left
              · intro w'
                go_simp
                with_reducible rfl
              rotate_left
              · simp only [Act.put, List.setIfInBounds_toArray, List.set_cons_zero, List.set_cons_succ, i64_w, i32_w]
                rfl
              refine pure_ (i := 3) (N := some 76) (v := ?_) (a' := ?_) #[true, false, true, true, false, false, false, false, false] rfl rfl (by kernel_rfl) (fun _ _ _ h => h) (Or.inl ⟨by rfl, ?_⟩) ?_ ?_
              rotate_left
              · intro w'
                go_simp
                with_reducible rfl
              rotate_left
              · simp only [Act.put, List.setIfInBounds_toArray, List.set_cons_zero, List.set_cons_succ, i64_w, i32_w]
                rfl
              refine take_ (i := 1) (N := some 74) (v := ?_) (a' := ?_) #[true, true, true, true, false, false, false, false, false] rfl rfl (by kernel_rfl) (fun _ _ _ h => h) (Or.inl ⟨by rfl, ?_⟩) hHeld ?_ ?_
              rotate_left
              · intro w' s0
                go_simp
                with_reducible rfl
              rotate_left
              · simp only [Act.put, List.setIfInBounds_toArray, List.set_cons_zero, List.set_cons_succ, i64_w, i32_w]
                rfl
              refine one_ (i := 4) (N := some 77) #[true, true, true, true, true, false, false, false, false] rfl rfl (by kernel_rfl) (by decide) (fun K hK => ?_)
              refine sc_goesx Try.func29 (by kernel_rfl) rfl #[.pointer (some ⟨w.heap.size + 1, 0, none⟩), .int .i64 1] (by rfl) rfl rfl (by (try simp only [List.map_toArray, List.map_cons, List.map_nil]); first | done | rfl) ?_
              refine (rd_op_calls w wd (w.heap.size + 1) A0 c0 l0 HL.out 1 p 0 HSd.out.rd).mono ?_
              rintro e Wq ⟨hg2, hs2, rfl⟩
              generalize hok : rd_op 1 l0 p 0 = rr at hs2 ⊢
              obtain ⟨o, p', e'⟩ := rr
              dsimp only at hs2 ⊢
              refine .inl ⟨_, rfl, ?_⟩
              have HS2 := Aside0.mk (HSd.out.call hg2 hs2)
              have HOK := Aside0.mk hok
              clear hg2 hs2 hok hHeld HSd
              refine hK.out _ _ HS2.out.box7.cell.2.2.2.2 (fun hHeld => ?_)
              clear hK K
              obtain ⟨g, cap, W3, _, hraw, HO3, hg3⟩ := ops_app o HS2.out.own HS2.out.size HLN.out
              have hb3_ := (HS2.out.box3 hg3).cell
              have hf3_ := (HS2.out.box3 hg3).frozen 4
              have HS3 := Aside0.mk (HS2.out.fin hg3 HO3)
              have hal : (Wq.alloc (.cells #[.int .i64 o.f0, .string o.f1, .string o.f2] 48)).cell? ⟨W2.heap.size, 4, none⟩ = some u := (cmBox.kept HS2.out.box7 (World.grownBy_alloc _ _ none) (by simp)).cell.2.2.2.2
              clear HS2 HO3 hg3
              refine one_ (i := 5) (N := some 78) #[true, true, true, true, true, true, false, false, false] rfl rfl (by kernel_rfl) (by decide) (fun K hK => ?_)
              refine value_ (w1 := Wq.alloc (.cells #[.int .i64 o.f0, .string o.f1, .string o.f2] 48)) (v := .slice (some ⟨Wq.heap.size, 0, none⟩) 1 1) (by rfl) rfl ?_ ?_
              · go_simp
              refine hK.out _ _ hal (fun hHeld2 => ?_)
              clear hK K
              refine last_ (i := 6) (N := some 79) #[true, true, true, true, true, true, true, false, false] rfl rfl (by kernel_rfl) (by decide) (fun K hK => ?_)
              refine value_ (w1 := W3) (v := .slice (some ⟨g, 0, none⟩) (os.length + 1) cap) (by rfl) rfl ?_ ?_
              · simp [execOp, resolve, invoke, builtin, Act.eval, Act.put, hraw, Result.andThen]
              refine hK.out _ _ ?_
              clear hK K
              refine pure_ (i := 7) (N := some 80) (v := ?_) (a' := ?_) #[true, true, true, true, true, true, true, true, false] rfl rfl (by kernel_rfl) (fun _ _ _ h => h) (Or.inl ⟨by rfl, ?_⟩) ?_ ?_
              rotate_left
              · intro w'
                go_simp
                with_reducible rfl
              rotate_left
              · simp only [Act.put, List.setIfInBounds_toArray, List.set_cons_zero, List.set_cons_succ, i64_w, i32_w]
                rfl
              refine last_ (i := 8) (N := none) #[true, true, true, true, true, true, true, true, true] rfl rfl (by kernel_rfl) (by decide) (fun K hK => ?_)
              refine skip_ (w1 := ?_) (by rfl) rfl ?_ ?_
              rotate_left
              · go_simp
                rfl
              refine hK.out _ _ ?_
              clear hK K
              refine done_ (by kernel_rfl) ?_
              go_wp2
              go_roundw
              case rel =>
                exact ⟨j + 1, p', e', _, os ++ [o], by go_num, by omega, ⟨by simp [HO.out]⟩, HS3, ⟨by rw [HE.out, HF.out, rd_more_step os f HOK.out, show cn - (j + 1) = f by have := HF.out; omega]⟩⟩
              case measure => simp [intOf]; omega
            · obtain rfl : j = cn := by omega
              clear hlt
              have HEE : Aside0 (rd_dec k l0 = rd_end k (kind : Int) (if big = true then 1099511627777 else (txn : Int)) (home : Int) (verd : Int) os 1 p 0 l0.length) := ⟨by rw [HDD.out, HE.out, Nat.sub_self]; simp [rd_ops, rd_more]⟩
              have hpl : p ≤ l0.length := HS.out.rd.hp
              by_cases hp : p < l0.length
              · have HPX := Aside0.mk (show rd_dec k l0 = some (0, 0, 0, 0, [], 0, 23) by rw [HEE.out]; unfold rd_end; rw [if_neg (by decide), if_pos hp])
                have hp2 : decide ((p : Int) < (l0.length : Int)) = true := decide_eq_true (by omega)
                clear hb_ hbr
                have hz_ := HS.out.box2.cell
                have hzf_ := HS.out.box2.frozen
                have hz2_ := HS.out.rd.box.cell
                have P2 := Aside0.mk (cm_put (b1 := 0) (b2 := 0) (b3 := 0) (b4 := 0) (v := .slice none 0 0) HS.out.box2)
                have BB := Aside0.mk HS.out.rd.below
                clear HS
                go_wp2
                obtain ⟨f2, f3⟩ := P2.out
                refine bodyPost_ret (rd_res_cell (g := w.heap.size) rfl rfl rfl f2 rfl) rfl ?_
                have hrr := H.out
                rw [HPX.out] at hrr
                cases hrr
                exact ⟨_, rfl, Kd.R_nil _ _ _ _ _, BB.out.grown f3 BB.out.size (fun k e => by cases e; exact Nat.le_refl _)⟩
              · have hp2 : decide ((p : Int) < (l0.length : Int)) = false := decide_eq_false (by omega)
                have HE3 := Aside0.mk (show rd_dec k l0 = (transeptref13_Check.f k (kind : Int) (if big = true then 1099511627777 else (txn : Int)) (home : Int) (verd : Int) os).bind fun ec => if ec ≠ 0 then some (0, 0, 0, 0, [], 0, ec) else
                  (transeptref13_Encode.f k (kind : Int) (if big = true then 1099511627777 else (txn : Int)) (home : Int) (verd : Int) os 1).bind fun en => if en.2 ≠ 0 then some (0, 0, 0, 0, [], 0, en.2) else some ((kind : Int), (if big = true then 1099511627777 else (txn : Int)), (home : Int), (verd : Int), os, 1, 0) by rw [HEE.out]; unfold rd_end; rw [if_neg (by decide), if_neg hp])
                clear hb_ hbr
                obtain ⟨Au, cu, eu⟩ := HS.out.slice
                subst eu
                cases big with
                | false =>
                  have HE3 := Aside0.mk (show rd_dec k l0 = (transeptref13_Check.f k (kind : Int) (txn : Int) (home : Int) (verd : Int) os).bind fun ec => if ec ≠ 0 then some (0, 0, 0, 0, [], 0, ec) else
                    (transeptref13_Encode.f k (kind : Int) (txn : Int) (home : Int) (verd : Int) os 1).bind fun en => if en.2 ≠ 0 then some (0, 0, 0, 0, [], 0, en.2) else some ((kind : Int), (txn : Int), (home : Int), (verd : Int), os, 1, 0) from HE3.out)
                  have hr3 := Kd.R_reads' HS.out.own
                  cases hec : transeptref13_Check.f k (kind : Int) (txn : Int) (home : Int) (verd : Int) os with
                  | none => exfalso; have hh := H.out; rw [HE3.out, hec] at hh; cases hh
                  | some ec =>
                    have HC := Aside0.mk (transeptref13_Check.calls k _ _ _ _ Au cu os ec _ hr3.2.2 hr3.2.1 hec)
                    have HE4 := Aside0.mk (show rd_dec k l0 = if ec ≠ 0 then some (0, 0, 0, 0, [], 0, ec) else
                      (transeptref13_Encode.f k (kind : Int) (txn : Int) (home : Int) (verd : Int) os 1).bind fun en => if en.2 ≠ 0 then some (0, 0, 0, 0, [], 0, en.2) else some ((kind : Int), (txn : Int), (home : Int), (verd : Int), os, 1, 0) by rw [HE3.out, hec]; rfl)
                    clear hr3 hec HE3
                    have hb_ := HS.out.box7.cell
                    have hbr := HS.out.rd.box.cell
                    go_wp2_with fail
                    refine HC.out.mono ?_
                    rintro e W8 ⟨rfl, hb8⟩
                    have HS8 := Aside0.mk (HS.out.under hb8)
                    clear HS hb_ hb8 HC hbr 
                    have HS := HS8
                    clear HS8
                    by_cases hq : ec = 0
                    · subst hq
                      have hr3 := Kd.R_reads' HS.out.own
                      cases hen : transeptref13_Encode.f k (kind : Int) (txn : Int) (home : Int) (verd : Int) os 1 with
                      | none => exfalso; have hh := H.out; rw [HE4.out, if_neg (by decide), hen] at hh; cases hh
                      | some en =>
                        obtain ⟨vl, en⟩ := en
                        have HC := Aside0.mk (transeptref13_Encode.calls k _ _ _ _ Au cu os _ vl en _ hr3.2.2 hr3.2.1 hen)
                        have HE5 := Aside0.mk (show rd_dec k l0 = if en ≠ 0 then some (0, 0, 0, 0, [], 0, en) else some ((kind : Int), (txn : Int), (home : Int), (verd : Int), os, 1, 0) by rw [HE4.out, if_neg (by decide), hen]; rfl)
                        have hb_ := HS.out.box7.cell
                        clear hr3 hen HE4
                        go_wp2_with fail
                        refine HC.out.mono ?_
                        rintro e W9 ⟨vb, rfl, _, hb9⟩
                        have HS8 := Aside0.mk (HS.out.under hb9)
                        clear HS hb_ hb9 HC
                        have HS := HS8
                        clear HS8
                        by_cases hq : en = 0
                        · subst hq
                          have hb_ := HS.out.box7.cell
                          have hz_ := HS.out.box2.cell
                          have hzf_ := HS.out.box2.frozen
                          have P2 := Aside0.mk (cm_put (b1 := (kind : Int)) (b2 := (txn : Int)) (b3 := (home : Int)) (b4 := (verd : Int)) (v := .slice Au os.length cu) HS.out.box2)
                          have BB := Aside0.mk HS.out.rd.below
                          have OO := Aside0.mk HS.out.own
                          have ON := Aside0.mk (cm_op HS.out.box2 HS.out.own)
                          have hrr := H.out
                          rw [HE5.out, if_neg (by decide)] at hrr
                          have HRR := Aside0.mk hrr
                          clear HS hrr HE5
                          go_wp2
                          obtain ⟨f2, f3⟩ := P2.out
                          refine bodyPost_ret (rd_res_cell (g := w.heap.size) rfl rfl rfl f2 rfl) rfl ?_
                          cases HRR.out
                          exact ⟨_, rfl, ops_grown OO.out f3 ON.out, BB.out.grown f3 BB.out.size (fun k e => by cases e; exact Nat.le_refl _)⟩
                        · have q1 : (en == 0) = false := by simpa using hq
                          have q2 : (en != 0) = true := by simpa using hq
                          have q3 := eq_false hq
                          have HPX := Aside0.mk (show rd_dec k l0 = some (0, 0, 0, 0, [], 0, en) by rw [HE5.out, if_pos hq])
                          have hz_ := HS.out.box2.cell
                          have hzf_ := HS.out.box2.frozen
                          have hz2_ := HS.out.rd.box.cell
                          have P2 := Aside0.mk (cm_put (b1 := 0) (b2 := 0) (b3 := 0) (b4 := 0) (v := .slice none 0 0) HS.out.box2)
                          have BB := Aside0.mk HS.out.rd.below
                          clear HS
                          go_wp2
                          obtain ⟨f2, f3⟩ := P2.out
                          refine bodyPost_ret (rd_res_cell (g := w.heap.size) rfl rfl rfl f2 rfl) rfl ?_
                          have hrr := H.out
                          rw [HPX.out] at hrr
                          cases hrr
                          exact ⟨_, rfl, Kd.R_nil _ _ _ _ _, BB.out.grown f3 BB.out.size (fun k e => by cases e; exact Nat.le_refl _)⟩
                    · have q1 : (ec == 0) = false := by simpa using hq
                      have q2 : (ec != 0) = true := by simpa using hq
                      have q3 := eq_false hq
                      have HPX := Aside0.mk (show rd_dec k l0 = some (0, 0, 0, 0, [], 0, ec) by rw [HE4.out, if_pos hq])
                      have hz_ := HS.out.box2.cell
                      have hzf_ := HS.out.box2.frozen
                      have hz2_ := HS.out.rd.box.cell
                      have P2 := Aside0.mk (cm_put (b1 := 0) (b2 := 0) (b3 := 0) (b4 := 0) (v := .slice none 0 0) HS.out.box2)
                      have BB := Aside0.mk HS.out.rd.below
                      clear HS
                      go_wp2
                      obtain ⟨f2, f3⟩ := P2.out
                      refine bodyPost_ret (rd_res_cell (g := w.heap.size) rfl rfl rfl f2 rfl) rfl ?_
                      have hrr := H.out
                      rw [HPX.out] at hrr
                      cases hrr
                      exact ⟨_, rfl, Kd.R_nil _ _ _ _ _, BB.out.grown f3 BB.out.size (fun k e => by cases e; exact Nat.le_refl _)⟩
                | true =>
                  have hb_ := HS.out.box7.cell
                  have hf_ := HS.out.box7.frozen 1
                  have hbr := HS.out.rd.box.cell
                  have HSn := Aside0.mk (HS.out.st1 (1099511627777))
                  clear HS
                  have HS := HSn
                  clear HSn
                  have HE3 := Aside0.mk (show rd_dec k l0 = (transeptref13_Check.f k (kind : Int) (1099511627777) (home : Int) (verd : Int) os).bind fun ec => if ec ≠ 0 then some (0, 0, 0, 0, [], 0, ec) else
                    (transeptref13_Encode.f k (kind : Int) (1099511627777) (home : Int) (verd : Int) os 1).bind fun en => if en.2 ≠ 0 then some (0, 0, 0, 0, [], 0, en.2) else some ((kind : Int), (1099511627777), (home : Int), (verd : Int), os, 1, 0) from HE3.out)
                  have hr3 := Kd.R_reads' HS.out.own
                  cases hec : transeptref13_Check.f k (kind : Int) (1099511627777) (home : Int) (verd : Int) os with
                  | none => exfalso; have hh := H.out; rw [HE3.out, hec] at hh; cases hh
                  | some ec =>
                    have HC := Aside0.mk (transeptref13_Check.calls k _ _ _ _ Au cu os ec _ hr3.2.2 hr3.2.1 hec)
                    have HE4 := Aside0.mk (show rd_dec k l0 = if ec ≠ 0 then some (0, 0, 0, 0, [], 0, ec) else
                      (transeptref13_Encode.f k (kind : Int) (1099511627777) (home : Int) (verd : Int) os 1).bind fun en => if en.2 ≠ 0 then some (0, 0, 0, 0, [], 0, en.2) else some ((kind : Int), (1099511627777), (home : Int), (verd : Int), os, 1, 0) by rw [HE3.out, hec]; rfl)
                    clear hr3 hec HE3
                    go_wp2_with fail
                    refine HC.out.mono ?_
                    rintro e W8 ⟨rfl, hb8⟩
                    have HS8 := Aside0.mk (HS.out.under hb8)
                    clear HS hb_ hb8 HC hbr hf_
                    have HS := HS8
                    clear HS8
                    by_cases hq : ec = 0
                    · subst hq
                      have hr3 := Kd.R_reads' HS.out.own
                      cases hen : transeptref13_Encode.f k (kind : Int) (1099511627777) (home : Int) (verd : Int) os 1 with
                      | none => exfalso; have hh := H.out; rw [HE4.out, if_neg (by decide), hen] at hh; cases hh
                      | some en =>
                        obtain ⟨vl, en⟩ := en
                        have HC := Aside0.mk (transeptref13_Encode.calls k _ _ _ _ Au cu os _ vl en _ hr3.2.2 hr3.2.1 hen)
                        have HE5 := Aside0.mk (show rd_dec k l0 = if en ≠ 0 then some (0, 0, 0, 0, [], 0, en) else some ((kind : Int), (1099511627777), (home : Int), (verd : Int), os, 1, 0) by rw [HE4.out, if_neg (by decide), hen]; rfl)
                        have hb_ := HS.out.box7.cell
                        clear hr3 hen HE4
                        go_wp2_with fail
                        refine HC.out.mono ?_
                        rintro e W9 ⟨vb, rfl, _, hb9⟩
                        have HS8 := Aside0.mk (HS.out.under hb9)
                        clear HS hb_ hb9 HC
                        have HS := HS8
                        clear HS8
                        by_cases hq : en = 0
                        · subst hq
                          have hb_ := HS.out.box7.cell
                          have hz_ := HS.out.box2.cell
                          have hzf_ := HS.out.box2.frozen
                          have P2 := Aside0.mk (cm_put (b1 := (kind : Int)) (b2 := (1099511627777)) (b3 := (home : Int)) (b4 := (verd : Int)) (v := .slice Au os.length cu) HS.out.box2)
                          have BB := Aside0.mk HS.out.rd.below
                          have OO := Aside0.mk HS.out.own
                          have ON := Aside0.mk (cm_op HS.out.box2 HS.out.own)
                          have hrr := H.out
                          rw [HE5.out, if_neg (by decide)] at hrr
                          have HRR := Aside0.mk hrr
                          clear HS hrr HE5
                          go_wp2
                          obtain ⟨f2, f3⟩ := P2.out
                          refine bodyPost_ret (rd_res_cell (g := w.heap.size) rfl rfl rfl f2 rfl) rfl ?_
                          cases HRR.out
                          exact ⟨_, rfl, ops_grown OO.out f3 ON.out, BB.out.grown f3 BB.out.size (fun k e => by cases e; exact Nat.le_refl _)⟩
                        · have q1 : (en == 0) = false := by simpa using hq
                          have q2 : (en != 0) = true := by simpa using hq
                          have q3 := eq_false hq
                          have HPX := Aside0.mk (show rd_dec k l0 = some (0, 0, 0, 0, [], 0, en) by rw [HE5.out, if_pos hq])
                          have hz_ := HS.out.box2.cell
                          have hzf_ := HS.out.box2.frozen
                          have hz2_ := HS.out.rd.box.cell
                          have P2 := Aside0.mk (cm_put (b1 := 0) (b2 := 0) (b3 := 0) (b4 := 0) (v := .slice none 0 0) HS.out.box2)
                          have BB := Aside0.mk HS.out.rd.below
                          clear HS
                          go_wp2
                          obtain ⟨f2, f3⟩ := P2.out
                          refine bodyPost_ret (rd_res_cell (g := w.heap.size) rfl rfl rfl f2 rfl) rfl ?_
                          have hrr := H.out
                          rw [HPX.out] at hrr
                          cases hrr
                          exact ⟨_, rfl, Kd.R_nil _ _ _ _ _, BB.out.grown f3 BB.out.size (fun k e => by cases e; exact Nat.le_refl _)⟩
                    · have q1 : (ec == 0) = false := by simpa using hq
                      have q2 : (ec != 0) = true := by simpa using hq
                      have q3 := eq_false hq
                      have HPX := Aside0.mk (show rd_dec k l0 = some (0, 0, 0, 0, [], 0, ec) by rw [HE4.out, if_pos hq])
                      have hz_ := HS.out.box2.cell
                      have hzf_ := HS.out.box2.frozen
                      have hz2_ := HS.out.rd.box.cell
                      have P2 := Aside0.mk (cm_put (b1 := 0) (b2 := 0) (b3 := 0) (b4 := 0) (v := .slice none 0 0) HS.out.box2)
                      have BB := Aside0.mk HS.out.rd.below
                      clear HS
                      go_wp2
                      obtain ⟨f2, f3⟩ := P2.out
                      refine bodyPost_ret (rd_res_cell (g := w.heap.size) rfl rfl rfl f2 rfl) rfl ?_
                      have hrr := H.out
                      rw [HPX.out] at hrr
                      cases hrr
                      exact ⟨_, rfl, Kd.R_nil _ _ _ _ _, BB.out.grown f3 BB.out.size (fun k e => by cases e; exact Nat.le_refl _)⟩
          · have h1 : (e == 0) = false := by simpa using he
            have h2 : (e != 0) = true := by simpa using he
            have h3 := eq_false he
            have hops : ∀ f, rd_ops f 1 l0 p e = ([], p, e) := by
              intro f
              cases f with
              | zero => rfl
              | succ f => simp only [rd_ops]; rw [if_pos he]
            have HPX := Aside0.mk (show rd_dec k l0 = some (0, 0, 0, 0, [], 0, e) by rw [HDD.out, HE.out, hops]; simp only [rd_more]; unfold rd_end; rw [if_pos he])
            clear hops
            by_cases hlt : j < cn
            · clear hb_ hbr
              have hz_ := HS.out.box2.cell
              have hzf_ := HS.out.box2.frozen
              have hz2_ := HS.out.rd.box.cell
              have P2 := Aside0.mk (cm_put (b1 := 0) (b2 := 0) (b3 := 0) (b4 := 0) (v := .slice none 0 0) HS.out.box2)
              have BB := Aside0.mk HS.out.rd.below
              clear HS
              go_wp2_with fail
              go_region
              go_wp2
              obtain ⟨f2, f3⟩ := P2.out
              refine bodyPost_ret (rd_res_cell (g := w.heap.size) rfl rfl rfl (cmBox.kept f2 (row := none) ⟨rfl, rfl, rfl, Nat.le_refl _, fun _ _ _ => rfl⟩ (by simp)) rfl) rfl ?_
              have hrr := H.out
              rw [HPX.out] at hrr
              cases hrr
              exact ⟨_, rfl, Kd.R_nil _ _ _ _ _, (BB.out.grown f3 BB.out.size (fun k e => by cases e; exact Nat.le_refl _)).grown (row := none) ⟨rfl, rfl, rfl, Nat.le_refl _, fun _ _ _ => rfl⟩ (BB.out.grown f3 BB.out.size (fun k e => by cases e; exact Nat.le_refl _)).size (fun k e => by cases e)⟩
            · clear hb_ hbr
              have hz_ := HS.out.box2.cell
              have hzf_ := HS.out.box2.frozen
              have hz2_ := HS.out.rd.box.cell
              have P2 := Aside0.mk (cm_put (b1 := 0) (b2 := 0) (b3 := 0) (b4 := 0) (v := .slice none 0 0) HS.out.box2)
              have BB := Aside0.mk HS.out.rd.below
              clear HS
              go_wp2_with fail
              go_region
              go_wp2
              obtain ⟨f2, f3⟩ := P2.out
              refine bodyPost_ret (rd_res_cell (g := w.heap.size) rfl rfl rfl (cmBox.kept f2 (row := none) ⟨rfl, rfl, rfl, Nat.le_refl _, fun _ _ _ => rfl⟩ (by simp)) rfl) rfl ?_
              have hrr := H.out
              rw [HPX.out] at hrr
              cases hrr
              exact ⟨_, rfl, Kd.R_nil _ _ _ _ _, (BB.out.grown f3 BB.out.size (fun k e => by cases e; exact Nat.le_refl _)).grown (row := none) ⟨rfl, rfl, rfl, Nat.le_refl _, fun _ _ _ => rfl⟩ (BB.out.grown f3 BB.out.size (fun k e => by cases e; exact Nat.le_refl _)).size (fun k e => by cases e)⟩
      · clear hv hz
        have T := Aside0.mk (rd_num_calls w _ (w.heap.size + 1) A0 c0 l0 HL.out p1 0 1 (by decide) HA1.out)
        go_wp2_with fail
        refine T.out.mono ?_
        rintro e W2 ⟨hg, hs1, rfl⟩
        have hlt := rd_num_lt HL.out p1 0 1
        generalize hr : rd_num l0 p1 0 1 = r at hlt hs1 ⊢
        obtain ⟨kindv, kp, ke⟩ := r
        dsimp only at hs1 hlt ⊢
        have HRkind := Aside0.mk hr
        clear hr
        obtain ⟨kind, rfl⟩ := Int.eq_ofNat_of_zero_le hlt.1
        have hkind : (kind : Int) < 256 := by have := hlt.2; simpa using this
        have HS : Aside0 (dcSt w (W2.alloc (.cells #[.int .i64 (kind : Int), .int .i64 0, .int .i64 0, .int .i64 0, .slice none 0 0] 24)) (w.heap.size + 1) A0 c0 l0 w.heap.size W2.heap.size kp ke (kind : Int) 0 0 0 (.slice none 0 0) []) := by
          exact ⟨⟨hs1.grown (row := none) (World.grownBy_alloc _ _ _) (fun k e => by cases e), (B2.out.kept hg (by simp)).kept (World.grownBy_alloc _ _ none) (by simp), World.alloc_heap_new W2 _, Kd.R_nil _ _ _ _ _, Nat.le_refl _, by omega, hs1.box.lt⟩⟩
        clear hg hs1 T HA1 B2 hlt hcl
        have T := Aside0.mk (rd_groups_calls w _ (w.heap.size + 1) A0 c0 l0 HL.out kp ke HS.out.rd)
        go_wp2_with fail
        refine T.out.mono ?_
        rintro e W3 ⟨hg, hs1, rfl⟩
        have HS1 := Aside0.mk (HS.out.call hg hs1)
        clear hg hs1 T HS
        generalize hr : rd_groups 6 0 0 l0 kp ke = r at HS1 ⊢
        obtain ⟨txn, tp, te⟩ := r
        dsimp only at HS1 ⊢
        have HTX := Aside0.mk (show rd_txn 2 l0 kp ke = (txn, false, tp, te) by unfold rd_txn; rw [if_neg (by decide), hr])
        clear hr
        have HS := HS1
        clear HS1
        have hb_ := HS.out.box7.cell
        have hf_ := HS.out.box7.frozen 1
        have HSn := Aside0.mk (HS.out.st1 (txn))
        clear HS
        have HS := HSn
        clear HSn
        have T := Aside0.mk (rd_num_calls w _ (w.heap.size + 1) A0 c0 l0 HL.out tp te 1 (by decide) HS.out.rd)
        go_wp2_with fail
        refine T.out.mono ?_
        rintro e W4 ⟨hg, hs1, rfl⟩
        have HS1 := Aside0.mk (HS.out.call hg hs1)
        have hlt := rd_num_lt HL.out tp te 1
        clear hg hs1 T HS
        generalize hr : rd_num l0 tp te 1 = r at hlt HS1 ⊢
        obtain ⟨homev, homep, homee⟩ := r
        have HRhome := Aside0.mk hr
        clear hr
        have HS := HS1
        clear HS1
        obtain ⟨home, rfl⟩ := Int.eq_ofNat_of_zero_le hlt.1
        have hhome : (home : Int) < 256 := by have := hlt.2; simpa using this
        clear hlt
        dsimp only at HS ⊢
        clear hb_ hf_
        have hb_ := HS.out.box7.cell
        have hf_ := HS.out.box7.frozen 2
        have HSn := Aside0.mk (HS.out.st2 ((home : Int)))
        clear HS
        have HS := HSn
        clear HSn
        have T := Aside0.mk (rd_num_calls w _ (w.heap.size + 1) A0 c0 l0 HL.out homep homee 1 (by decide) HS.out.rd)
        go_wp2_with fail
        refine T.out.mono ?_
        rintro e W5 ⟨hg, hs1, rfl⟩
        have HS1 := Aside0.mk (HS.out.call hg hs1)
        have hlt := rd_num_lt HL.out homep homee 1
        clear hg hs1 T HS
        generalize hr : rd_num l0 homep homee 1 = r at hlt HS1 ⊢
        obtain ⟨verdv, verdp, verde⟩ := r
        have HRverd := Aside0.mk hr
        clear hr
        have HS := HS1
        clear HS1
        obtain ⟨verd, rfl⟩ := Int.eq_ofNat_of_zero_le hlt.1
        have hverd : (verd : Int) < 256 := by have := hlt.2; simpa using this
        clear hlt
        dsimp only at HS ⊢
        clear hb_ hf_
        have hb_ := HS.out.box7.cell
        have hf_ := HS.out.box7.frozen 3
        have HSn := Aside0.mk (HS.out.st3 ((verd : Int)))
        clear HS
        have HS := HSn
        clear HSn
        have T := Aside0.mk (rd_num_calls w _ (w.heap.size + 1) A0 c0 l0 HL.out verdp verde 1 (by decide) HS.out.rd)
        go_wp2_with fail
        refine T.out.mono ?_
        rintro e W6 ⟨hg, hs1, rfl⟩
        have HS1 := Aside0.mk (HS.out.call hg hs1)
        have hlt := rd_num_lt HL.out verdp verde 1
        clear hg hs1 T HS
        generalize hr : rd_num l0 verdp verde 1 = r at hlt HS1 ⊢
        obtain ⟨cnv, cnp, cne⟩ := r
        have HRcn := Aside0.mk hr
        clear hr
        have HS := HS1
        clear HS1
        obtain ⟨cn, rfl⟩ := Int.eq_ofNat_of_zero_le hlt.1
        have hcn : (cn : Int) < 256 := by have := hlt.2; simpa using this
        clear hlt
        dsimp only at HS ⊢
        clear hb_ hf_
        have HD := Aside0.mk (show rd_dec k l0 = rd_rest k 2 l0 p1 0 from HD.out)
        have HDD : Aside0 (rd_dec k l0 = match rd_ops cn 2 l0 cnp cne with | (ops, p7, e7) => rd_end k (kind : Int) (if false = true then 1099511627777 else txn) (home : Int) (verd : Int) ops 2 p7 e7 l0.length) := ⟨by rw [HD.out]; unfold rd_rest; rw [HRkind.out]; dsimp only; rw [HTX.out]; dsimp only; rw [HRhome.out]; dsimp only; rw [HRverd.out]; dsimp only; rw [HRcn.out]; dsimp only; rw [Int.toNat_natCast]⟩
        go_wp2
        go_loopw [11] (fun i wr => ∃ (j p : Nat) (e : Int) (u : Value) (os : List ScOp), i = .int .i64 j ∧ j ≤ cn ∧ Aside0 (os.length = j) ∧ Aside0 (dcSt w wr (w.heap.size + 1) A0 c0 l0 w.heap.size W2.heap.size p e (kind : Int) txn (home : Int) (verd : Int) u os) ∧ Aside0 (rd_ops cn 2 l0 cnp cne = rd_more os (rd_ops (cn - j) 2 l0 p e))) (fun i _ => cn - (intOf i).toNat)
        case atStart =>
          exact ⟨0, cnp, cne, _, [], rfl, by omega, ⟨rfl⟩, HS, ⟨by rw [Nat.sub_zero]; rfl⟩⟩
        case round =>
          obtain ⟨j, p, e, u, os, rfl, hj, HO, HSr, HE⟩ := hrel
          clear HS
          have HS := HSr
          clear HSr
          have hbr := HS.out.rd.box.cell
          have hb_ := HS.out.box7.cell
          by_cases he : e = 0
          · subst he
            by_cases hlt : j < cn
            · obtain ⟨f, hf⟩ : ∃ f, cn - j = f + 1 := ⟨cn - j - 1, by omega⟩
              have HF := Aside0.mk hf
              clear hf
              have HLN := Aside0.mk (show (os.length + 1) * 40 ≤ 140737488355328 by rw [HO.out]; omega)
              go_wp2_with fail
              refine start_ (n := 9) (S := fun w' => w'.cell? ⟨W2.heap.size, 4, none⟩ = some u) (ds := [6, 8]) #[false, false, false, false, false, false, false, false, false] (by kernel_rfl) rfl rfl (by have := hb_.2.2.2.2; exact this) (fun hHeld => ?_)
              have HSd := Aside0.mk (HS.out.moved (W' := wr.drew) ⟨rfl, rfl, rfl, Nat.le_refl _, fun _ _ _ => rfl⟩)
              generalize wr.drew = wd at hHeld HSd ⊢
              refine pure_ (i := 0) (N := some 73) (v := ?_) (a' := ?_) #[true, false, false, false, false, false, false, false, false] rfl rfl (by kernel_rfl) (fun _ _ _ h => h) (Or.inl ⟨by rfl, ?_⟩) ?_ ?_
              rotate_left
              · intro w'
                go_simp
                with_reducible rfl
              rotate_left
              · simp only [Act.put, List.setIfInBounds_toArray, List.set_cons_zero, List.set_cons_succ, i64_w, i32_w]
                rfl
              refine pure_ (i := 2) (N := some 75) (v := ?_) (a' := ?_) #[true, false, true, false, false, false, false, false, false] rfl rfl (by kernel_rfl) (fun _ _ _ h => h) (Or.inl ⟨by rfl, ?_⟩) ?_ ?_
              rotate_left
              · intro w'
                go_simp
                with_reducible rfl
              rotate_left
              · simp only [Act.put, List.setIfInBounds_toArray, List.set_cons_zero, List.set_cons_succ, i64_w, i32_w]
                rfl
              refine pure_ (i := 3) (N := some 76) (v := ?_) (a' := ?_) #[true, false, true, true, false, false, false, false, false] rfl rfl (by kernel_rfl) (fun _ _ _ h => h) (Or.inl ⟨by rfl, ?_⟩) ?_ ?_
              rotate_left
              · intro w'
                go_simp
                with_reducible rfl
              rotate_left
              · simp only [Act.put, List.setIfInBounds_toArray, List.set_cons_zero, List.set_cons_succ, i64_w, i32_w]
                rfl
              refine take_ (i := 1) (N := some 74) (v := ?_) (a' := ?_) #[true, true, true, true, false, false, false, false, false] rfl rfl (by kernel_rfl) (fun _ _ _ h => h) (Or.inl ⟨by rfl, ?_⟩) hHeld ?_ ?_
              rotate_left
              · intro w' s0
                go_simp
                with_reducible rfl
              rotate_left
              · simp only [Act.put, List.setIfInBounds_toArray, List.set_cons_zero, List.set_cons_succ, i64_w, i32_w]
                rfl
              refine one_ (i := 4) (N := some 77) #[true, true, true, true, true, false, false, false, false] rfl rfl (by kernel_rfl) (by decide) (fun K hK => ?_)
              refine sc_goesx Try.func29 (by kernel_rfl) rfl #[.pointer (some ⟨w.heap.size + 1, 0, none⟩), .int .i64 2] (by rfl) rfl rfl (by (try simp only [List.map_toArray, List.map_cons, List.map_nil]); first | done | rfl) ?_
              refine (rd_op_calls w wd (w.heap.size + 1) A0 c0 l0 HL.out 2 p 0 HSd.out.rd).mono ?_
              rintro e Wq ⟨hg2, hs2, rfl⟩
              generalize hok : rd_op 2 l0 p 0 = rr at hs2 ⊢
              obtain ⟨o, p', e'⟩ := rr
              dsimp only at hs2 ⊢
              refine .inl ⟨_, rfl, ?_⟩
              have HS2 := Aside0.mk (HSd.out.call hg2 hs2)
              have HOK := Aside0.mk hok
              clear hg2 hs2 hok hHeld HSd
              refine hK.out _ _ HS2.out.box7.cell.2.2.2.2 (fun hHeld => ?_)
              clear hK K
              obtain ⟨g, cap, W3, _, hraw, HO3, hg3⟩ := ops_app o HS2.out.own HS2.out.size HLN.out
              have hb3_ := (HS2.out.box3 hg3).cell
              have hf3_ := (HS2.out.box3 hg3).frozen 4
              have HS3 := Aside0.mk (HS2.out.fin hg3 HO3)
              have hal : (Wq.alloc (.cells #[.int .i64 o.f0, .string o.f1, .string o.f2] 48)).cell? ⟨W2.heap.size, 4, none⟩ = some u := (cmBox.kept HS2.out.box7 (World.grownBy_alloc _ _ none) (by simp)).cell.2.2.2.2
              clear HS2 HO3 hg3
              refine one_ (i := 5) (N := some 78) #[true, true, true, true, true, true, false, false, false] rfl rfl (by kernel_rfl) (by decide) (fun K hK => ?_)
              refine value_ (w1 := Wq.alloc (.cells #[.int .i64 o.f0, .string o.f1, .string o.f2] 48)) (v := .slice (some ⟨Wq.heap.size, 0, none⟩) 1 1) (by rfl) rfl ?_ ?_
              · go_simp
              refine hK.out _ _ hal (fun hHeld2 => ?_)
              clear hK K
              refine last_ (i := 6) (N := some 79) #[true, true, true, true, true, true, true, false, false] rfl rfl (by kernel_rfl) (by decide) (fun K hK => ?_)
              refine value_ (w1 := W3) (v := .slice (some ⟨g, 0, none⟩) (os.length + 1) cap) (by rfl) rfl ?_ ?_
              · simp [execOp, resolve, invoke, builtin, Act.eval, Act.put, hraw, Result.andThen]
              refine hK.out _ _ ?_
              clear hK K
              refine pure_ (i := 7) (N := some 80) (v := ?_) (a' := ?_) #[true, true, true, true, true, true, true, true, false] rfl rfl (by kernel_rfl) (fun _ _ _ h => h) (Or.inl ⟨by rfl, ?_⟩) ?_ ?_
              rotate_left
              · intro w'
                go_simp
                with_reducible rfl
              rotate_left
              · simp only [Act.put, List.setIfInBounds_toArray, List.set_cons_zero, List.set_cons_succ, i64_w, i32_w]
                rfl
              refine last_ (i := 8) (N := none) #[true, true, true, true, true, true, true, true, true] rfl rfl (by kernel_rfl) (by decide) (fun K hK => ?_)
              refine skip_ (w1 := ?_) (by rfl) rfl ?_ ?_
              rotate_left
              · go_simp
                rfl
              refine hK.out _ _ ?_
              clear hK K
              refine done_ (by kernel_rfl) ?_
              go_wp2
              go_roundw
              case rel =>
                exact ⟨j + 1, p', e', _, os ++ [o], by go_num, by omega, ⟨by simp [HO.out]⟩, HS3, ⟨by rw [HE.out, HF.out, rd_more_step os f HOK.out, show cn - (j + 1) = f by have := HF.out; omega]⟩⟩
              case measure => simp [intOf]; omega
            · obtain rfl : j = cn := by omega
              clear hlt
              have HEE : Aside0 (rd_dec k l0 = rd_end k (kind : Int) (if false = true then 1099511627777 else txn) (home : Int) (verd : Int) os 2 p 0 l0.length) := ⟨by rw [HDD.out, HE.out, Nat.sub_self]; simp [rd_ops, rd_more]⟩
              have hpl : p ≤ l0.length := HS.out.rd.hp
              by_cases hp : p < l0.length
              · have HPX := Aside0.mk (show rd_dec k l0 = some (0, 0, 0, 0, [], 0, 23) by rw [HEE.out]; unfold rd_end; rw [if_neg (by decide), if_pos hp])
                have hp2 : decide ((p : Int) < (l0.length : Int)) = true := decide_eq_true (by omega)
                clear hb_ hbr
                have hz_ := HS.out.box2.cell
                have hzf_ := HS.out.box2.frozen
                have hz2_ := HS.out.rd.box.cell
                have P2 := Aside0.mk (cm_put (b1 := 0) (b2 := 0) (b3 := 0) (b4 := 0) (v := .slice none 0 0) HS.out.box2)
                have BB := Aside0.mk HS.out.rd.below
                clear HS
                go_wp2
                obtain ⟨f2, f3⟩ := P2.out
                refine bodyPost_ret (rd_res_cell (g := w.heap.size) rfl rfl rfl f2 rfl) rfl ?_
                have hrr := H.out
                rw [HPX.out] at hrr
                cases hrr
                exact ⟨_, rfl, Kd.R_nil _ _ _ _ _, BB.out.grown f3 BB.out.size (fun k e => by cases e; exact Nat.le_refl _)⟩
              · have hp2 : decide ((p : Int) < (l0.length : Int)) = false := decide_eq_false (by omega)
                have HE3 := Aside0.mk (show rd_dec k l0 = (transeptref13_Check.f k (kind : Int) (if false = true then 1099511627777 else txn) (home : Int) (verd : Int) os).bind fun ec => if ec ≠ 0 then some (0, 0, 0, 0, [], 0, ec) else
                  (transeptref13_Encode.f k (kind : Int) (if false = true then 1099511627777 else txn) (home : Int) (verd : Int) os 2).bind fun en => if en.2 ≠ 0 then some (0, 0, 0, 0, [], 0, en.2) else some ((kind : Int), (if false = true then 1099511627777 else txn), (home : Int), (verd : Int), os, 2, 0) by rw [HEE.out]; unfold rd_end; rw [if_neg (by decide), if_neg hp])
                clear hb_ hbr
                obtain ⟨Au, cu, eu⟩ := HS.out.slice
                subst eu
                have HE3 := Aside0.mk (show rd_dec k l0 = (transeptref13_Check.f k (kind : Int) txn (home : Int) (verd : Int) os).bind fun ec => if ec ≠ 0 then some (0, 0, 0, 0, [], 0, ec) else
                  (transeptref13_Encode.f k (kind : Int) txn (home : Int) (verd : Int) os 2).bind fun en => if en.2 ≠ 0 then some (0, 0, 0, 0, [], 0, en.2) else some ((kind : Int), txn, (home : Int), (verd : Int), os, 2, 0) from HE3.out)
                have hr3 := Kd.R_reads' HS.out.own
                cases hec : transeptref13_Check.f k (kind : Int) txn (home : Int) (verd : Int) os with
                | none => exfalso; have hh := H.out; rw [HE3.out, hec] at hh; cases hh
                | some ec =>
                  have HC := Aside0.mk (transeptref13_Check.calls k _ _ _ _ Au cu os ec _ hr3.2.2 hr3.2.1 hec)
                  have HE4 := Aside0.mk (show rd_dec k l0 = if ec ≠ 0 then some (0, 0, 0, 0, [], 0, ec) else
                    (transeptref13_Encode.f k (kind : Int) txn (home : Int) (verd : Int) os 2).bind fun en => if en.2 ≠ 0 then some (0, 0, 0, 0, [], 0, en.2) else some ((kind : Int), txn, (home : Int), (verd : Int), os, 2, 0) by rw [HE3.out, hec]; rfl)
                  clear hr3 hec HE3
                  have hb_ := HS.out.box7.cell
                  have hbr := HS.out.rd.box.cell
                  go_wp2_with fail
                  refine HC.out.mono ?_
                  rintro e W8 ⟨rfl, hb8⟩
                  have HS8 := Aside0.mk (HS.out.under hb8)
                  clear HS hb_ hb8 HC hbr 
                  have HS := HS8
                  clear HS8
                  by_cases hq : ec = 0
                  · subst hq
                    have hr3 := Kd.R_reads' HS.out.own
                    cases hen : transeptref13_Encode.f k (kind : Int) txn (home : Int) (verd : Int) os 2 with
                    | none => exfalso; have hh := H.out; rw [HE4.out, if_neg (by decide), hen] at hh; cases hh
                    | some en =>
                      obtain ⟨vl, en⟩ := en
                      have HC := Aside0.mk (transeptref13_Encode.calls k _ _ _ _ Au cu os _ vl en _ hr3.2.2 hr3.2.1 hen)
                      have HE5 := Aside0.mk (show rd_dec k l0 = if en ≠ 0 then some (0, 0, 0, 0, [], 0, en) else some ((kind : Int), txn, (home : Int), (verd : Int), os, 2, 0) by rw [HE4.out, if_neg (by decide), hen]; rfl)
                      have hb_ := HS.out.box7.cell
                      clear hr3 hen HE4
                      go_wp2_with fail
                      refine HC.out.mono ?_
                      rintro e W9 ⟨vb, rfl, _, hb9⟩
                      have HS8 := Aside0.mk (HS.out.under hb9)
                      clear HS hb_ hb9 HC
                      have HS := HS8
                      clear HS8
                      by_cases hq : en = 0
                      · subst hq
                        have hb_ := HS.out.box7.cell
                        have hz_ := HS.out.box2.cell
                        have hzf_ := HS.out.box2.frozen
                        have P2 := Aside0.mk (cm_put (b1 := (kind : Int)) (b2 := txn) (b3 := (home : Int)) (b4 := (verd : Int)) (v := .slice Au os.length cu) HS.out.box2)
                        have BB := Aside0.mk HS.out.rd.below
                        have OO := Aside0.mk HS.out.own
                        have ON := Aside0.mk (cm_op HS.out.box2 HS.out.own)
                        have hrr := H.out
                        rw [HE5.out, if_neg (by decide)] at hrr
                        have HRR := Aside0.mk hrr
                        clear HS hrr HE5
                        go_wp2
                        obtain ⟨f2, f3⟩ := P2.out
                        refine bodyPost_ret (rd_res_cell (g := w.heap.size) rfl rfl rfl f2 rfl) rfl ?_
                        cases HRR.out
                        exact ⟨_, rfl, ops_grown OO.out f3 ON.out, BB.out.grown f3 BB.out.size (fun k e => by cases e; exact Nat.le_refl _)⟩
                      · have q1 : (en == 0) = false := by simpa using hq
                        have q2 : (en != 0) = true := by simpa using hq
                        have q3 := eq_false hq
                        have HPX := Aside0.mk (show rd_dec k l0 = some (0, 0, 0, 0, [], 0, en) by rw [HE5.out, if_pos hq])
                        have hz_ := HS.out.box2.cell
                        have hzf_ := HS.out.box2.frozen
                        have hz2_ := HS.out.rd.box.cell
                        have P2 := Aside0.mk (cm_put (b1 := 0) (b2 := 0) (b3 := 0) (b4 := 0) (v := .slice none 0 0) HS.out.box2)
                        have BB := Aside0.mk HS.out.rd.below
                        clear HS
                        go_wp2
                        obtain ⟨f2, f3⟩ := P2.out
                        refine bodyPost_ret (rd_res_cell (g := w.heap.size) rfl rfl rfl f2 rfl) rfl ?_
                        have hrr := H.out
                        rw [HPX.out] at hrr
                        cases hrr
                        exact ⟨_, rfl, Kd.R_nil _ _ _ _ _, BB.out.grown f3 BB.out.size (fun k e => by cases e; exact Nat.le_refl _)⟩
                  · have q1 : (ec == 0) = false := by simpa using hq
                    have q2 : (ec != 0) = true := by simpa using hq
                    have q3 := eq_false hq
                    have HPX := Aside0.mk (show rd_dec k l0 = some (0, 0, 0, 0, [], 0, ec) by rw [HE4.out, if_pos hq])
                    have hz_ := HS.out.box2.cell
                    have hzf_ := HS.out.box2.frozen
                    have hz2_ := HS.out.rd.box.cell
                    have P2 := Aside0.mk (cm_put (b1 := 0) (b2 := 0) (b3 := 0) (b4 := 0) (v := .slice none 0 0) HS.out.box2)
                    have BB := Aside0.mk HS.out.rd.below
                    clear HS
                    go_wp2
                    obtain ⟨f2, f3⟩ := P2.out
                    refine bodyPost_ret (rd_res_cell (g := w.heap.size) rfl rfl rfl f2 rfl) rfl ?_
                    have hrr := H.out
                    rw [HPX.out] at hrr
                    cases hrr
                    exact ⟨_, rfl, Kd.R_nil _ _ _ _ _, BB.out.grown f3 BB.out.size (fun k e => by cases e; exact Nat.le_refl _)⟩
          · have h1 : (e == 0) = false := by simpa using he
            have h2 : (e != 0) = true := by simpa using he
            have h3 := eq_false he
            have hops : ∀ f, rd_ops f 2 l0 p e = ([], p, e) := by
              intro f
              cases f with
              | zero => rfl
              | succ f => simp only [rd_ops]; rw [if_pos he]
            have HPX := Aside0.mk (show rd_dec k l0 = some (0, 0, 0, 0, [], 0, e) by rw [HDD.out, HE.out, hops]; simp only [rd_more]; unfold rd_end; rw [if_pos he])
            clear hops
            by_cases hlt : j < cn
            · clear hb_ hbr
              have hz_ := HS.out.box2.cell
              have hzf_ := HS.out.box2.frozen
              have hz2_ := HS.out.rd.box.cell
              have P2 := Aside0.mk (cm_put (b1 := 0) (b2 := 0) (b3 := 0) (b4 := 0) (v := .slice none 0 0) HS.out.box2)
              have BB := Aside0.mk HS.out.rd.below
              clear HS
              go_wp2_with fail
              go_region
              go_wp2
              obtain ⟨f2, f3⟩ := P2.out
              refine bodyPost_ret (rd_res_cell (g := w.heap.size) rfl rfl rfl (cmBox.kept f2 (row := none) ⟨rfl, rfl, rfl, Nat.le_refl _, fun _ _ _ => rfl⟩ (by simp)) rfl) rfl ?_
              have hrr := H.out
              rw [HPX.out] at hrr
              cases hrr
              exact ⟨_, rfl, Kd.R_nil _ _ _ _ _, (BB.out.grown f3 BB.out.size (fun k e => by cases e; exact Nat.le_refl _)).grown (row := none) ⟨rfl, rfl, rfl, Nat.le_refl _, fun _ _ _ => rfl⟩ (BB.out.grown f3 BB.out.size (fun k e => by cases e; exact Nat.le_refl _)).size (fun k e => by cases e)⟩
            · clear hb_ hbr
              have hz_ := HS.out.box2.cell
              have hzf_ := HS.out.box2.frozen
              have hz2_ := HS.out.rd.box.cell
              have P2 := Aside0.mk (cm_put (b1 := 0) (b2 := 0) (b3 := 0) (b4 := 0) (v := .slice none 0 0) HS.out.box2)
              have BB := Aside0.mk HS.out.rd.below
              clear HS
              go_wp2_with fail
              go_region
              go_wp2
              obtain ⟨f2, f3⟩ := P2.out
              refine bodyPost_ret (rd_res_cell (g := w.heap.size) rfl rfl rfl (cmBox.kept f2 (row := none) ⟨rfl, rfl, rfl, Nat.le_refl _, fun _ _ _ => rfl⟩ (by simp)) rfl) rfl ?_
              have hrr := H.out
              rw [HPX.out] at hrr
              cases hrr
              exact ⟨_, rfl, Kd.R_nil _ _ _ _ _, (BB.out.grown f3 BB.out.size (fun k e => by cases e; exact Nat.le_refl _)).grown (row := none) ⟨rfl, rfl, rfl, Nat.le_refl _, fun _ _ _ => rfl⟩ (BB.out.grown f3 BB.out.size (fun k e => by cases e; exact Nat.le_refl _)).size (fun k e => by cases e)⟩
  · obtain rfl : v = 0 := by have := hz hE; omega
    have HD := Aside0.mk (show rd_dec k l0 = rd_rest k 0 l0 p1 e1 by unfold rd_dec; rw [HRv.out]; dsimp only; rw [if_neg (fun h => hE h.1)]; rfl)
    have hE1 : (e1 == 0) = false := by simpa using hE
    have hE2 := eq_false hE
    clear hz
    have T := Aside0.mk (rd_num_calls w _ (w.heap.size + 1) A0 c0 l0 HL.out p1 e1 1 (by decide) HA1.out)
    go_wp2_with fail
    refine T.out.mono ?_
    rintro e W2 ⟨hg, hs1, rfl⟩
    have hlt := rd_num_lt HL.out p1 e1 1
    generalize hr : rd_num l0 p1 e1 1 = r at hlt hs1 ⊢
    obtain ⟨kindv, kp, ke⟩ := r
    dsimp only at hs1 hlt ⊢
    have HRkind := Aside0.mk hr
    clear hr
    obtain ⟨kind, rfl⟩ := Int.eq_ofNat_of_zero_le hlt.1
    have hkind : (kind : Int) < 256 := by have := hlt.2; simpa using this
    have HS : Aside0 (dcSt w (W2.alloc (.cells #[.int .i64 (kind : Int), .int .i64 0, .int .i64 0, .int .i64 0, .slice none 0 0] 24)) (w.heap.size + 1) A0 c0 l0 w.heap.size W2.heap.size kp ke (kind : Int) 0 0 0 (.slice none 0 0) []) := by
      exact ⟨⟨hs1.grown (row := none) (World.grownBy_alloc _ _ _) (fun k e => by cases e), (B2.out.kept hg (by simp)).kept (World.grownBy_alloc _ _ none) (by simp), World.alloc_heap_new W2 _, Kd.R_nil _ _ _ _ _, Nat.le_refl _, by omega, hs1.box.lt⟩⟩
    clear hg hs1 T HA1 B2 hlt hcl
    have T := Aside0.mk (rd_groups_calls w _ (w.heap.size + 1) A0 c0 l0 HL.out kp ke HS.out.rd)
    go_wp2_with fail
    refine T.out.mono ?_
    rintro e W3 ⟨hg, hs1, rfl⟩
    have HS1 := Aside0.mk (HS.out.call hg hs1)
    clear hg hs1 T HS
    generalize hr : rd_groups 6 0 0 l0 kp ke = r at HS1 ⊢
    obtain ⟨txn, tp, te⟩ := r
    dsimp only at HS1 ⊢
    have HTX := Aside0.mk (show rd_txn 0 l0 kp ke = (txn, false, tp, te) by unfold rd_txn; rw [if_neg (by decide), hr])
    clear hr
    have HS := HS1
    clear HS1
    have hb_ := HS.out.box7.cell
    have hf_ := HS.out.box7.frozen 1
    have HSn := Aside0.mk (HS.out.st1 (txn))
    clear HS
    have HS := HSn
    clear HSn
    have T := Aside0.mk (rd_num_calls w _ (w.heap.size + 1) A0 c0 l0 HL.out tp te 1 (by decide) HS.out.rd)
    go_wp2_with fail
    refine T.out.mono ?_
    rintro e W4 ⟨hg, hs1, rfl⟩
    have HS1 := Aside0.mk (HS.out.call hg hs1)
    have hlt := rd_num_lt HL.out tp te 1
    clear hg hs1 T HS
    generalize hr : rd_num l0 tp te 1 = r at hlt HS1 ⊢
    obtain ⟨homev, homep, homee⟩ := r
    have HRhome := Aside0.mk hr
    clear hr
    have HS := HS1
    clear HS1
    obtain ⟨home, rfl⟩ := Int.eq_ofNat_of_zero_le hlt.1
    have hhome : (home : Int) < 256 := by have := hlt.2; simpa using this
    clear hlt
    dsimp only at HS ⊢
    clear hb_ hf_
    have hb_ := HS.out.box7.cell
    have hf_ := HS.out.box7.frozen 2
    have HSn := Aside0.mk (HS.out.st2 ((home : Int)))
    clear HS
    have HS := HSn
    clear HSn
    have T := Aside0.mk (rd_num_calls w _ (w.heap.size + 1) A0 c0 l0 HL.out homep homee 1 (by decide) HS.out.rd)
    go_wp2_with fail
    refine T.out.mono ?_
    rintro e W5 ⟨hg, hs1, rfl⟩
    have HS1 := Aside0.mk (HS.out.call hg hs1)
    have hlt := rd_num_lt HL.out homep homee 1
    clear hg hs1 T HS
    generalize hr : rd_num l0 homep homee 1 = r at hlt HS1 ⊢
    obtain ⟨verdv, verdp, verde⟩ := r
    have HRverd := Aside0.mk hr
    clear hr
    have HS := HS1
    clear HS1
    obtain ⟨verd, rfl⟩ := Int.eq_ofNat_of_zero_le hlt.1
    have hverd : (verd : Int) < 256 := by have := hlt.2; simpa using this
    clear hlt
    dsimp only at HS ⊢
    clear hb_ hf_
    have hb_ := HS.out.box7.cell
    have hf_ := HS.out.box7.frozen 3
    have HSn := Aside0.mk (HS.out.st3 ((verd : Int)))
    clear HS
    have HS := HSn
    clear HSn
    have T := Aside0.mk (rd_num_calls w _ (w.heap.size + 1) A0 c0 l0 HL.out verdp verde 1 (by decide) HS.out.rd)
    go_wp2_with fail
    refine T.out.mono ?_
    rintro e W6 ⟨hg, hs1, rfl⟩
    have HS1 := Aside0.mk (HS.out.call hg hs1)
    have hlt := rd_num_lt HL.out verdp verde 1
    clear hg hs1 T HS
    generalize hr : rd_num l0 verdp verde 1 = r at hlt HS1 ⊢
    obtain ⟨cnv, cnp, cne⟩ := r
    have HRcn := Aside0.mk hr
    clear hr
    have HS := HS1
    clear HS1
    obtain ⟨cn, rfl⟩ := Int.eq_ofNat_of_zero_le hlt.1
    have hcn : (cn : Int) < 256 := by have := hlt.2; simpa using this
    clear hlt
    dsimp only at HS ⊢
    clear hb_ hf_
    have HD := Aside0.mk (show rd_dec k l0 = rd_rest k 0 l0 p1 e1 from HD.out)
    have HDD : Aside0 (rd_dec k l0 = match rd_ops cn 0 l0 cnp cne with | (ops, p7, e7) => rd_end k (kind : Int) (if false = true then 1099511627777 else txn) (home : Int) (verd : Int) ops 0 p7 e7 l0.length) := ⟨by rw [HD.out]; unfold rd_rest; rw [HRkind.out]; dsimp only; rw [HTX.out]; dsimp only; rw [HRhome.out]; dsimp only; rw [HRverd.out]; dsimp only; rw [HRcn.out]; dsimp only; rw [Int.toNat_natCast]⟩
    go_wp2
    go_loopw [11] (fun i wr => ∃ (j p : Nat) (e : Int) (u : Value) (os : List ScOp), i = .int .i64 j ∧ j ≤ cn ∧ Aside0 (os.length = j) ∧ Aside0 (dcSt w wr (w.heap.size + 1) A0 c0 l0 w.heap.size W2.heap.size p e (kind : Int) txn (home : Int) (verd : Int) u os) ∧ Aside0 (rd_ops cn 0 l0 cnp cne = rd_more os (rd_ops (cn - j) 0 l0 p e))) (fun i _ => cn - (intOf i).toNat)
    case atStart =>
      exact ⟨0, cnp, cne, _, [], rfl, by omega, ⟨rfl⟩, HS, ⟨by rw [Nat.sub_zero]; rfl⟩⟩
    case round =>
      obtain ⟨j, p, e, u, os, rfl, hj, HO, HSr, HE⟩ := hrel
      clear HS
      have HS := HSr
      clear HSr
      have hbr := HS.out.rd.box.cell
      have hb_ := HS.out.box7.cell
      by_cases he : e = 0
      · subst he
        by_cases hlt : j < cn
        · obtain ⟨f, hf⟩ : ∃ f, cn - j = f + 1 := ⟨cn - j - 1, by omega⟩
          have HF := Aside0.mk hf
          clear hf
          have HLN := Aside0.mk (show (os.length + 1) * 40 ≤ 140737488355328 by rw [HO.out]; omega)
          go_wp2_with fail
          refine start_ (n := 9) (S := fun w' => w'.cell? ⟨W2.heap.size, 4, none⟩ = some u) (ds := [6, 8]) #[false, false, false, false, false, false, false, false, false] (by kernel_rfl) rfl rfl (by have := hb_.2.2.2.2; exact this) (fun hHeld => ?_)
          have HSd := Aside0.mk (HS.out.moved (W' := wr.drew) ⟨rfl, rfl, rfl, Nat.le_refl _, fun _ _ _ => rfl⟩)
          generalize wr.drew = wd at hHeld HSd ⊢
          refine pure_ (i := 0) (N := some 73) (v := ?_) (a' := ?_) #[true, false, false, false, false, false, false, false, false] rfl rfl (by kernel_rfl) (fun _ _ _ h => h) (Or.inl ⟨by rfl, ?_⟩) ?_ ?_
          rotate_left
          · intro w'
            go_simp
            with_reducible rfl
          rotate_left
          · simp only [Act.put, List.setIfInBounds_toArray, List.set_cons_zero, List.set_cons_succ, i64_w, i32_w]
            rfl
          refine pure_ (i := 2) (N := some 75) (v := ?_) (a' := ?_) #[true, false, true, false, false, false, false, false, false] rfl rfl (by kernel_rfl) (fun _ _ _ h => h) (Or.inl ⟨by rfl, ?_⟩) ?_ ?_
          rotate_left
          · intro w'
            go_simp
            with_reducible rfl
          rotate_left
          · simp only [Act.put, List.setIfInBounds_toArray, List.set_cons_zero, List.set_cons_succ, i64_w, i32_w]
            rfl
          refine pure_ (i := 3) (N := some 76) (v := ?_) (a' := ?_) #[true, false, true, true, false, false, false, false, false] rfl rfl (by kernel_rfl) (fun _ _ _ h => h) (Or.inl ⟨by rfl, ?_⟩) ?_ ?_
          rotate_left
          · intro w'
            go_simp
            with_reducible rfl
          rotate_left
          · simp only [Act.put, List.setIfInBounds_toArray, List.set_cons_zero, List.set_cons_succ, i64_w, i32_w]
            rfl
          refine take_ (i := 1) (N := some 74) (v := ?_) (a' := ?_) #[true, true, true, true, false, false, false, false, false] rfl rfl (by kernel_rfl) (fun _ _ _ h => h) (Or.inl ⟨by rfl, ?_⟩) hHeld ?_ ?_
          rotate_left
          · intro w' s0
            go_simp
            with_reducible rfl
          rotate_left
          · simp only [Act.put, List.setIfInBounds_toArray, List.set_cons_zero, List.set_cons_succ, i64_w, i32_w]
            rfl
          refine one_ (i := 4) (N := some 77) #[true, true, true, true, true, false, false, false, false] rfl rfl (by kernel_rfl) (by decide) (fun K hK => ?_)
          refine sc_goesx Try.func29 (by kernel_rfl) rfl #[.pointer (some ⟨w.heap.size + 1, 0, none⟩), .int .i64 0] (by rfl) rfl rfl (by (try simp only [List.map_toArray, List.map_cons, List.map_nil]); first | done | rfl) ?_
          refine (rd_op_calls w wd (w.heap.size + 1) A0 c0 l0 HL.out 0 p 0 HSd.out.rd).mono ?_
          rintro e Wq ⟨hg2, hs2, rfl⟩
          generalize hok : rd_op 0 l0 p 0 = rr at hs2 ⊢
          obtain ⟨o, p', e'⟩ := rr
          dsimp only at hs2 ⊢
          refine .inl ⟨_, rfl, ?_⟩
          have HS2 := Aside0.mk (HSd.out.call hg2 hs2)
          have HOK := Aside0.mk hok
          clear hg2 hs2 hok hHeld HSd
          refine hK.out _ _ HS2.out.box7.cell.2.2.2.2 (fun hHeld => ?_)
          clear hK K
          obtain ⟨g, cap, W3, _, hraw, HO3, hg3⟩ := ops_app o HS2.out.own HS2.out.size HLN.out
          have hb3_ := (HS2.out.box3 hg3).cell
          have hf3_ := (HS2.out.box3 hg3).frozen 4
          have HS3 := Aside0.mk (HS2.out.fin hg3 HO3)
          have hal : (Wq.alloc (.cells #[.int .i64 o.f0, .string o.f1, .string o.f2] 48)).cell? ⟨W2.heap.size, 4, none⟩ = some u := (cmBox.kept HS2.out.box7 (World.grownBy_alloc _ _ none) (by simp)).cell.2.2.2.2
          clear HS2 HO3 hg3
          refine one_ (i := 5) (N := some 78) #[true, true, true, true, true, true, false, false, false] rfl rfl (by kernel_rfl) (by decide) (fun K hK => ?_)
          refine value_ (w1 := Wq.alloc (.cells #[.int .i64 o.f0, .string o.f1, .string o.f2] 48)) (v := .slice (some ⟨Wq.heap.size, 0, none⟩) 1 1) (by rfl) rfl ?_ ?_
          · go_simp
          refine hK.out _ _ hal (fun hHeld2 => ?_)
          clear hK K
          refine last_ (i := 6) (N := some 79) #[true, true, true, true, true, true, true, false, false] rfl rfl (by kernel_rfl) (by decide) (fun K hK => ?_)
          refine value_ (w1 := W3) (v := .slice (some ⟨g, 0, none⟩) (os.length + 1) cap) (by rfl) rfl ?_ ?_
          · simp [execOp, resolve, invoke, builtin, Act.eval, Act.put, hraw, Result.andThen]
          refine hK.out _ _ ?_
          clear hK K
          refine pure_ (i := 7) (N := some 80) (v := ?_) (a' := ?_) #[true, true, true, true, true, true, true, true, false] rfl rfl (by kernel_rfl) (fun _ _ _ h => h) (Or.inl ⟨by rfl, ?_⟩) ?_ ?_
          rotate_left
          · intro w'
            go_simp
            with_reducible rfl
          rotate_left
          · simp only [Act.put, List.setIfInBounds_toArray, List.set_cons_zero, List.set_cons_succ, i64_w, i32_w]
            rfl
          refine last_ (i := 8) (N := none) #[true, true, true, true, true, true, true, true, true] rfl rfl (by kernel_rfl) (by decide) (fun K hK => ?_)
          refine skip_ (w1 := ?_) (by rfl) rfl ?_ ?_
          rotate_left
          · go_simp
            rfl
          refine hK.out _ _ ?_
          clear hK K
          refine done_ (by kernel_rfl) ?_
          go_wp2
          go_roundw
          case rel =>
            exact ⟨j + 1, p', e', _, os ++ [o], by go_num, by omega, ⟨by simp [HO.out]⟩, HS3, ⟨by rw [HE.out, HF.out, rd_more_step os f HOK.out, show cn - (j + 1) = f by have := HF.out; omega]⟩⟩
          case measure => simp [intOf]; omega
        · obtain rfl : j = cn := by omega
          clear hlt
          have HEE : Aside0 (rd_dec k l0 = rd_end k (kind : Int) (if false = true then 1099511627777 else txn) (home : Int) (verd : Int) os 0 p 0 l0.length) := ⟨by rw [HDD.out, HE.out, Nat.sub_self]; simp [rd_ops, rd_more]⟩
          have hpl : p ≤ l0.length := HS.out.rd.hp
          by_cases hp : p < l0.length
          · have HPX := Aside0.mk (show rd_dec k l0 = some (0, 0, 0, 0, [], 0, 23) by rw [HEE.out]; unfold rd_end; rw [if_neg (by decide), if_pos hp])
            have hp2 : decide ((p : Int) < (l0.length : Int)) = true := decide_eq_true (by omega)
            clear hb_ hbr
            have hz_ := HS.out.box2.cell
            have hzf_ := HS.out.box2.frozen
            have hz2_ := HS.out.rd.box.cell
            have P2 := Aside0.mk (cm_put (b1 := 0) (b2 := 0) (b3 := 0) (b4 := 0) (v := .slice none 0 0) HS.out.box2)
            have BB := Aside0.mk HS.out.rd.below
            clear HS
            go_wp2
            obtain ⟨f2, f3⟩ := P2.out
            refine bodyPost_ret (rd_res_cell (g := w.heap.size) rfl rfl rfl f2 rfl) rfl ?_
            have hrr := H.out
            rw [HPX.out] at hrr
            cases hrr
            exact ⟨_, rfl, Kd.R_nil _ _ _ _ _, BB.out.grown f3 BB.out.size (fun k e => by cases e; exact Nat.le_refl _)⟩
          · have hp2 : decide ((p : Int) < (l0.length : Int)) = false := decide_eq_false (by omega)
            have HE3 := Aside0.mk (show rd_dec k l0 = (transeptref13_Check.f k (kind : Int) (if false = true then 1099511627777 else txn) (home : Int) (verd : Int) os).bind fun ec => if ec ≠ 0 then some (0, 0, 0, 0, [], 0, ec) else
              (transeptref13_Encode.f k (kind : Int) (if false = true then 1099511627777 else txn) (home : Int) (verd : Int) os 0).bind fun en => if en.2 ≠ 0 then some (0, 0, 0, 0, [], 0, en.2) else some ((kind : Int), (if false = true then 1099511627777 else txn), (home : Int), (verd : Int), os, 0, 0) by rw [HEE.out]; unfold rd_end; rw [if_neg (by decide), if_neg hp])
            clear hb_ hbr
            obtain ⟨Au, cu, eu⟩ := HS.out.slice
            subst eu
            have HE3 := Aside0.mk (show rd_dec k l0 = (transeptref13_Check.f k (kind : Int) txn (home : Int) (verd : Int) os).bind fun ec => if ec ≠ 0 then some (0, 0, 0, 0, [], 0, ec) else
              (transeptref13_Encode.f k (kind : Int) txn (home : Int) (verd : Int) os 0).bind fun en => if en.2 ≠ 0 then some (0, 0, 0, 0, [], 0, en.2) else some ((kind : Int), txn, (home : Int), (verd : Int), os, 0, 0) from HE3.out)
            have hr3 := Kd.R_reads' HS.out.own
            cases hec : transeptref13_Check.f k (kind : Int) txn (home : Int) (verd : Int) os with
            | none => exfalso; have hh := H.out; rw [HE3.out, hec] at hh; cases hh
            | some ec =>
              have HC := Aside0.mk (transeptref13_Check.calls k _ _ _ _ Au cu os ec _ hr3.2.2 hr3.2.1 hec)
              have HE4 := Aside0.mk (show rd_dec k l0 = if ec ≠ 0 then some (0, 0, 0, 0, [], 0, ec) else
                (transeptref13_Encode.f k (kind : Int) txn (home : Int) (verd : Int) os 0).bind fun en => if en.2 ≠ 0 then some (0, 0, 0, 0, [], 0, en.2) else some ((kind : Int), txn, (home : Int), (verd : Int), os, 0, 0) by rw [HE3.out, hec]; rfl)
              clear hr3 hec HE3
              have hb_ := HS.out.box7.cell
              have hbr := HS.out.rd.box.cell
              go_wp2_with fail
              refine HC.out.mono ?_
              rintro e W8 ⟨rfl, hb8⟩
              have HS8 := Aside0.mk (HS.out.under hb8)
              clear HS hb_ hb8 HC hbr 
              have HS := HS8
              clear HS8
              by_cases hq : ec = 0
              · subst hq
                have hr3 := Kd.R_reads' HS.out.own
                cases hen : transeptref13_Encode.f k (kind : Int) txn (home : Int) (verd : Int) os 0 with
                | none => exfalso; have hh := H.out; rw [HE4.out, if_neg (by decide), hen] at hh; cases hh
                | some en =>
                  obtain ⟨vl, en⟩ := en
                  have HC := Aside0.mk (transeptref13_Encode.calls k _ _ _ _ Au cu os _ vl en _ hr3.2.2 hr3.2.1 hen)
                  have HE5 := Aside0.mk (show rd_dec k l0 = if en ≠ 0 then some (0, 0, 0, 0, [], 0, en) else some ((kind : Int), txn, (home : Int), (verd : Int), os, 0, 0) by rw [HE4.out, if_neg (by decide), hen]; rfl)
                  have hb_ := HS.out.box7.cell
                  clear hr3 hen HE4
                  go_wp2_with fail
                  refine HC.out.mono ?_
                  rintro e W9 ⟨vb, rfl, _, hb9⟩
                  have HS8 := Aside0.mk (HS.out.under hb9)
                  clear HS hb_ hb9 HC
                  have HS := HS8
                  clear HS8
                  by_cases hq : en = 0
                  · subst hq
                    have hb_ := HS.out.box7.cell
                    have hz_ := HS.out.box2.cell
                    have hzf_ := HS.out.box2.frozen
                    have P2 := Aside0.mk (cm_put (b1 := (kind : Int)) (b2 := txn) (b3 := (home : Int)) (b4 := (verd : Int)) (v := .slice Au os.length cu) HS.out.box2)
                    have BB := Aside0.mk HS.out.rd.below
                    have OO := Aside0.mk HS.out.own
                    have ON := Aside0.mk (cm_op HS.out.box2 HS.out.own)
                    have hrr := H.out
                    rw [HE5.out, if_neg (by decide)] at hrr
                    have HRR := Aside0.mk hrr
                    clear HS hrr HE5
                    go_wp2
                    obtain ⟨f2, f3⟩ := P2.out
                    refine bodyPost_ret (rd_res_cell (g := w.heap.size) rfl rfl rfl f2 rfl) rfl ?_
                    cases HRR.out
                    exact ⟨_, rfl, ops_grown OO.out f3 ON.out, BB.out.grown f3 BB.out.size (fun k e => by cases e; exact Nat.le_refl _)⟩
                  · have q1 : (en == 0) = false := by simpa using hq
                    have q2 : (en != 0) = true := by simpa using hq
                    have q3 := eq_false hq
                    have HPX := Aside0.mk (show rd_dec k l0 = some (0, 0, 0, 0, [], 0, en) by rw [HE5.out, if_pos hq])
                    have hz_ := HS.out.box2.cell
                    have hzf_ := HS.out.box2.frozen
                    have hz2_ := HS.out.rd.box.cell
                    have P2 := Aside0.mk (cm_put (b1 := 0) (b2 := 0) (b3 := 0) (b4 := 0) (v := .slice none 0 0) HS.out.box2)
                    have BB := Aside0.mk HS.out.rd.below
                    clear HS
                    go_wp2
                    obtain ⟨f2, f3⟩ := P2.out
                    refine bodyPost_ret (rd_res_cell (g := w.heap.size) rfl rfl rfl f2 rfl) rfl ?_
                    have hrr := H.out
                    rw [HPX.out] at hrr
                    cases hrr
                    exact ⟨_, rfl, Kd.R_nil _ _ _ _ _, BB.out.grown f3 BB.out.size (fun k e => by cases e; exact Nat.le_refl _)⟩
              · have q1 : (ec == 0) = false := by simpa using hq
                have q2 : (ec != 0) = true := by simpa using hq
                have q3 := eq_false hq
                have HPX := Aside0.mk (show rd_dec k l0 = some (0, 0, 0, 0, [], 0, ec) by rw [HE4.out, if_pos hq])
                have hz_ := HS.out.box2.cell
                have hzf_ := HS.out.box2.frozen
                have hz2_ := HS.out.rd.box.cell
                have P2 := Aside0.mk (cm_put (b1 := 0) (b2 := 0) (b3 := 0) (b4 := 0) (v := .slice none 0 0) HS.out.box2)
                have BB := Aside0.mk HS.out.rd.below
                clear HS
                go_wp2
                obtain ⟨f2, f3⟩ := P2.out
                refine bodyPost_ret (rd_res_cell (g := w.heap.size) rfl rfl rfl f2 rfl) rfl ?_
                have hrr := H.out
                rw [HPX.out] at hrr
                cases hrr
                exact ⟨_, rfl, Kd.R_nil _ _ _ _ _, BB.out.grown f3 BB.out.size (fun k e => by cases e; exact Nat.le_refl _)⟩
      · have h1 : (e == 0) = false := by simpa using he
        have h2 : (e != 0) = true := by simpa using he
        have h3 := eq_false he
        have hops : ∀ f, rd_ops f 0 l0 p e = ([], p, e) := by
          intro f
          cases f with
          | zero => rfl
          | succ f => simp only [rd_ops]; rw [if_pos he]
        have HPX := Aside0.mk (show rd_dec k l0 = some (0, 0, 0, 0, [], 0, e) by rw [HDD.out, HE.out, hops]; simp only [rd_more]; unfold rd_end; rw [if_pos he])
        clear hops
        by_cases hlt : j < cn
        · clear hb_ hbr
          have hz_ := HS.out.box2.cell
          have hzf_ := HS.out.box2.frozen
          have hz2_ := HS.out.rd.box.cell
          have P2 := Aside0.mk (cm_put (b1 := 0) (b2 := 0) (b3 := 0) (b4 := 0) (v := .slice none 0 0) HS.out.box2)
          have BB := Aside0.mk HS.out.rd.below
          clear HS
          go_wp2_with fail
          go_region
          go_wp2
          obtain ⟨f2, f3⟩ := P2.out
          refine bodyPost_ret (rd_res_cell (g := w.heap.size) rfl rfl rfl (cmBox.kept f2 (row := none) ⟨rfl, rfl, rfl, Nat.le_refl _, fun _ _ _ => rfl⟩ (by simp)) rfl) rfl ?_
          have hrr := H.out
          rw [HPX.out] at hrr
          cases hrr
          exact ⟨_, rfl, Kd.R_nil _ _ _ _ _, (BB.out.grown f3 BB.out.size (fun k e => by cases e; exact Nat.le_refl _)).grown (row := none) ⟨rfl, rfl, rfl, Nat.le_refl _, fun _ _ _ => rfl⟩ (BB.out.grown f3 BB.out.size (fun k e => by cases e; exact Nat.le_refl _)).size (fun k e => by cases e)⟩
        · clear hb_ hbr
          have hz_ := HS.out.box2.cell
          have hzf_ := HS.out.box2.frozen
          have hz2_ := HS.out.rd.box.cell
          have P2 := Aside0.mk (cm_put (b1 := 0) (b2 := 0) (b3 := 0) (b4 := 0) (v := .slice none 0 0) HS.out.box2)
          have BB := Aside0.mk HS.out.rd.below
          clear HS
          go_wp2_with fail
          go_region
          go_wp2
          obtain ⟨f2, f3⟩ := P2.out
          refine bodyPost_ret (rd_res_cell (g := w.heap.size) rfl rfl rfl (cmBox.kept f2 (row := none) ⟨rfl, rfl, rfl, Nat.le_refl _, fun _ _ _ => rfl⟩ (by simp)) rfl) rfl ?_
          have hrr := H.out
          rw [HPX.out] at hrr
          cases hrr
          exact ⟨_, rfl, Kd.R_nil _ _ _ _ _, (BB.out.grown f3 BB.out.size (fun k e => by cases e; exact Nat.le_refl _)).grown (row := none) ⟨rfl, rfl, rfl, Nat.le_refl _, fun _ _ _ => rfl⟩ (BB.out.grown f3 BB.out.size (fun k e => by cases e; exact Nat.le_refl _)).size (fun k e => by cases e)⟩
end


end Go.Proofs.Ytpjaebbgbmhneaa.Print
