/- Written by pp.py, a program of this project that runs the kit's print over the translation, with functions proved by hand put in. Lean checks it. -/
import Derived.Test.YtpjaebbgbmhneaaPrint0
import Derived.Test.YtpjaebbgbmhneaaPrint9
import Derived.Test.YtpjaebbgbmhneaaPrint10
import Derived.Test.YtpjaebbgbmhneaaPrint11
namespace Go.Proofs.Ytpjaebbgbmhneaa.Print
open Go.RowKit Go.Proofs.YtpjaebbgbmhneaaW.PrintWords Go.Proofs.YtpjaebbgbmhneaaW.PrintLast Go.Proofs.YtpjaebbgbmhneaaW.PrintMore
attribute [local go_sem] max2_int min2_int max_two min_two max_three min_three max_four min_four   -- for this text's walks alone
set_option linter.unusedVariables false
set_option linter.unusedSimpArgs false

/-! ### transeptref13_reader_op: function 29, by hand -/
def rd_op (v : Int) (l : List Int) (p : Nat) (e : Int) : ScOp × Nat × Int :=
  match rd_num l p e 1 with
  | (a, p1, e1) => match rd_num l p1 e1 1 with
    | (k, p2, e2) =>
      if v = 1 then
        match rd_take l p2 e2 k.toNat with
        | (key, p3, e3) => match rd_num l p3 e3 2 with
          | (n, p4, e4) => match rd_take l p4 e4 n.toNat with
            | (val, p5, e5) => (⟨a, strOfNums key, strOfNums val⟩, p5, e5)
      else
        match rd_num l p2 e2 1 with
        | (n, p3, e3) => match rd_take l p3 e3 k.toNat with
          | (key, p4, e4) => match rd_take l p4 e4 n.toNat with
            | (val, p5, e5) => (⟨a, strOfNums key, strOfNums val⟩, p5, e5)
def rdOp (W0 W : World) (B : Nat) (A : Option Addr) (c : Nat) (l : List Int) (r : ScOp × Nat × Int) (e : Ending) (W' : World) : Prop :=
  W.grownBy W' (some B) ∧ rdAt W0 W' B A c l r.2.1 r.2.2 ∧ e = .returned (.agg #[.int .i64 r.1.f0, .string r.1.f1, .string r.1.f2])
structure roSt (W0 W Wc : World) (B : Nat) (A : Option Addr) (c : Nat) (l : List Int) (b4 b5 : Nat) (p : Nat) (e : Int) (x y z : Value) : Prop where
  grown : W.grownBy Wc (some B)
  rd : rdAt W0 Wc B A c l p e
  box4 : opBox Wc b4 (.int .i64 0) (.string ⟨#[]⟩) (.string ⟨#[]⟩)
  box5 : opBox Wc b5 x y z
  w0 : W0.heap.size ≤ W.heap.size
  bw : B < W.heap.size
  n4 : W.heap.size ≤ b4
  n5 : W.heap.size ≤ b5
  ne : b4 ≠ b5
theorem roSt.call {W0 W Wc W' : World} {B : Nat} {A : Option Addr} {c : Nat} {l : List Int} {b4 b5 : Nat} {p p' : Nat} {e e' : Int} {x y z : Value} (h : roSt W0 W Wc B A c l b4 b5 p e x y z) (hg : Wc.grownBy W' (some B)) (hs : rdAt W0 W' B A c l p' e') : roSt W0 W W' B A c l b4 b5 p' e' x y z :=
  ⟨h.grown.trans hg, hs, h.box4.kept hg (by have := h.bw; have := h.n4; simp; omega), h.box5.kept hg (by have := h.bw; have := h.n5; simp; omega), h.w0, h.bw, h.n4, h.n5, h.ne⟩
theorem roSt.ok {W0 W Wc : World} {B : Nat} {A : Option Addr} {c : Nat} {l : List Int} {b4 b5 : Nat} {p : Nat} {e : Int} {x y z : Value} (h : roSt W0 W Wc B A c l b4 b5 p e x y z) {b : Nat} (hb : W.heap.size ≤ b) (i : Nat) (v : Value) : rdAt W0 (Wc.setCell ⟨b, i, none⟩ v) B A c l p e :=
  h.rd.grown (sc_grown_setCell _ _ _ _) (fun k e => by cases e; exact ⟨Nat.le_trans h.w0 hb, by have := h.bw; omega⟩)
theorem roSt.store1 {W0 W Wc : World} {B : Nat} {A : Option Addr} {c : Nat} {l : List Int} {b4 b5 : Nat} {p : Nat} {e : Int} {x y z : Value} (h : roSt W0 W Wc B A c l b4 b5 p e x y z) (v : Value) : roSt W0 W (Wc.setCell ⟨b5, 1, none⟩ v) B A c l b4 b5 p e x v z :=
  ⟨sc_grown_new h.grown h.n5 (sc_grown_setCell _ _ _ _), h.ok h.n5 1 v, h.box4.kept (sc_grown_setCell _ _ _ _) (by have := h.ne; simpa using this), h.box5.set1 v, h.w0, h.bw, h.n4, h.n5, h.ne⟩
theorem roSt.store2 {W0 W Wc : World} {B : Nat} {A : Option Addr} {c : Nat} {l : List Int} {b4 b5 : Nat} {p : Nat} {e : Int} {x y z : Value} (h : roSt W0 W Wc B A c l b4 b5 p e x y z) (v : Value) : roSt W0 W (Wc.setCell ⟨b5, 2, none⟩ v) B A c l b4 b5 p e x y v :=
  ⟨sc_grown_new h.grown h.n5 (sc_grown_setCell _ _ _ _), h.ok h.n5 2 v, h.box4.kept (sc_grown_setCell _ _ _ _) (by have := h.ne; simpa using this), h.box5.set2 v, h.w0, h.bw, h.n4, h.n5, h.ne⟩
theorem roSt.fin {W0 W Wc : World} {B : Nat} {A : Option Addr} {c : Nat} {l : List Int} {b4 b5 : Nat} {p : Nat} {e : Int} {x y z : Value} (h : roSt W0 W Wc B A c l b4 b5 p e x y z) :
    W.grownBy (((Wc.setCell ⟨b4, 0, none⟩ x).setCell ⟨b4, 1, none⟩ y).setCell ⟨b4, 2, none⟩ z) (some B) ∧ rdAt W0 (((Wc.setCell ⟨b4, 0, none⟩ x).setCell ⟨b4, 1, none⟩ y).setCell ⟨b4, 2, none⟩ z) B A c l p e ∧ opBox (((Wc.setCell ⟨b4, 0, none⟩ x).setCell ⟨b4, 1, none⟩ y).setCell ⟨b4, 2, none⟩ z) b4 x y z := by
  have ok : ∀ k, some b4 = some k → W0.heap.size ≤ k ∧ k ≠ B := fun k e => by cases e; exact ⟨Nat.le_trans h.w0 h.n4, by have := h.bw; have := h.n4; omega⟩
  exact ⟨sc_grown_new (sc_grown_new (sc_grown_new h.grown h.n4 (sc_grown_setCell _ _ _ _)) h.n4 (sc_grown_setCell _ _ _ _)) h.n4 (sc_grown_setCell _ _ _ _),
    ((h.rd.grown (sc_grown_setCell _ _ _ _) ok).grown (sc_grown_setCell _ _ _ _) ok).grown (sc_grown_setCell _ _ _ _) ok, ((h.box4.set0 x).set1 y).set2 z⟩
set_option maxHeartbeats 4000000 in
set_option maxRecDepth 100000 in
theorem rd_op_calls (W0 W : World) (B : Nat) (A : Option Addr) (c : Nat) (l : List Int) (hl : sc_bytes l) (v : Int) (p : Nat) (x : Int) (hs : rdAt W0 W B A c l p x) :
    Calls Try.prog 29 #[.pointer (some ⟨B, 0, none⟩), .int .i64 v] W fun e W' => rdOp W0 W B A c l (rd_op v l p x) e W' := by
  have HL := Aside0.mk hl
  have HA := Aside0.mk (hs.grown (row := none) (World.grownBy_alloc W (.cells #[.int .i64 0, .string ⟨#[]⟩, .string ⟨#[]⟩] 48) none) (fun k e => by cases e))
  have HBlt := Aside0.mk hs.box.lt
  have HW0 := Aside0.mk (show W0.heap.size ≤ W.heap.size from hs.below.size)
  clear hs hl
  have T := Aside0.mk (rd_num_calls W0 _ B A c l HL.out p x 1 (by decide) HA.out)
  go_enter Try.func29, Try.ntmps29
  go_wp2_with fail
  refine T.out.mono ?_
  rintro e W1 ⟨hg, hs1, rfl⟩
  have hlt := rd_num_lt HL.out p x 1
  generalize hr : rd_num l p x 1 = r at hlt hs1 ⊢
  obtain ⟨av, ap, ae⟩ := r
  have HRa := Aside0.mk hr
  clear hr
  obtain ⟨a, rfl⟩ := Int.eq_ofNat_of_zero_le hlt.1
  have ha : (a : Int) < 256 := by have := hlt.2; simpa using this
  have HS : Aside0 (roSt W0 W (W1.alloc (.cells #[.int .i64 (a : Int), .string ⟨#[]⟩, .string ⟨#[]⟩] 48)) B A c l W.heap.size W1.heap.size ap ae (.int .i64 (a : Int)) (.string ⟨#[]⟩) (.string ⟨#[]⟩)) := by
    have hgr := (World.grownBy_alloc W (.cells #[.int .i64 0, .string ⟨#[]⟩, .string ⟨#[]⟩] 48) (some B)).trans hg
    have hb4 : opBox W1 W.heap.size (.int .i64 0) (.string ⟨#[]⟩) (.string ⟨#[]⟩) := opBox.kept (W := W.alloc (.cells #[.int .i64 0, .string ⟨#[]⟩, .string ⟨#[]⟩] 48)) (b := W.heap.size) (World.alloc_heap_new W _) hg (by have := HBlt.out; simp; omega)
    exact ⟨⟨hgr.trans (World.grownBy_alloc _ _ _), hs1.grown (row := none) (World.grownBy_alloc _ _ _) (fun k e => by cases e), hb4.kept (World.grownBy_alloc _ _ none) (by simp), World.alloc_heap_new W1 _, HW0.out, HBlt.out, Nat.le_refl _, hgr.size, by have := hb4.lt; omega⟩⟩
  have hb45 : (W.heap.size = W1.heap.size) = False := eq_false HS.out.ne
  have hb54 : (W1.heap.size = W.heap.size) = False := eq_false (Ne.symm HS.out.ne)
  clear hg hs1 HA hlt T
  have T := Aside0.mk (rd_num_calls W0 _ B A c l HL.out ap ae 1 (by decide) HS.out.rd)
  go_wp2_with fail
  refine T.out.mono ?_
  rintro e W2 ⟨hg, hs1, rfl⟩
  have HS1 := Aside0.mk (HS.out.call hg hs1)
  have hlt := rd_num_lt HL.out ap ae 1
  clear hg hs1 T HS
  generalize hr : rd_num l ap ae 1 = r at hlt HS1 ⊢
  obtain ⟨kv, kp, ke⟩ := r
  have HRk := Aside0.mk hr
  clear hr
  have HS := HS1
  clear HS1
  obtain ⟨k, rfl⟩ := Int.eq_ofNat_of_zero_le hlt.1
  have hk : (k : Int) < 256 := by have := hlt.2; simpa using this
  clear hlt
  dsimp only at HS ⊢
  by_cases hv : v = 1
  · subst hv
    have T := Aside0.mk (rd_take_calls W0 _ B A c l kp ke k (by omega) HS.out.rd)
    go_wp2_with fail
    refine T.out.mono ?_
    rintro e W3 ⟨hg, hs1, Akey, ckey, rfl, hC, hcap⟩
    have HS1 := Aside0.mk (HS.out.call hg hs1)
    have hconv := sc_string (A := Akey) (c := ckey) hs1.below hC
    clear hg hs1 T HS hC hcap
    generalize hr : rd_take l kp ke k = r at hconv HS1 ⊢
    obtain ⟨keyv, keyp, keye⟩ := r
    have HRkey := Aside0.mk hr
    clear hr
    have HS := HS1
    clear HS1
    dsimp only at HS hconv ⊢
    have hc_ := HS.out.box5.cell1
    have hf_ := HS.out.box5.frozen 1
    go_wp2_with fail
    have HSn := Aside0.mk (HS.out.store1 (.string (strOfNums keyv)))
    clear HS hc_ hf_
    have HS := HSn
    clear HSn hconv
    have T := Aside0.mk (rd_num_calls W0 _ B A c l HL.out keyp keye 2 (by decide) HS.out.rd)
    go_wp2_with fail
    refine T.out.mono ?_
    rintro e W4 ⟨hg, hs1, rfl⟩
    have HS1 := Aside0.mk (HS.out.call hg hs1)
    have hlt := rd_num_lt HL.out keyp keye 2
    clear hg hs1 T HS
    generalize hr : rd_num l keyp keye 2 = r at hlt HS1 ⊢
    obtain ⟨nv, np, ne⟩ := r
    have HRn := Aside0.mk hr
    clear hr
    have HS := HS1
    clear HS1
    obtain ⟨n, rfl⟩ := Int.eq_ofNat_of_zero_le hlt.1
    have hn : (n : Int) < 65536 := by have := hlt.2; simpa using this
    clear hlt
    dsimp only at HS ⊢
    have T := Aside0.mk (rd_take_calls W0 _ B A c l np ne n (by omega) HS.out.rd)
    go_wp2_with fail
    refine T.out.mono ?_
    rintro e W5 ⟨hg, hs1, Aval, cval, rfl, hC, hcap⟩
    have HS1 := Aside0.mk (HS.out.call hg hs1)
    have hconv := sc_string (A := Aval) (c := cval) hs1.below hC
    clear hg hs1 T HS hC hcap
    generalize hr : rd_take l np ne n = r at hconv HS1 ⊢
    obtain ⟨valv, valp, vale⟩ := r
    have HRval := Aside0.mk hr
    clear hr
    have HS := HS1
    clear HS1
    dsimp only at HS hconv ⊢
    have hc0_ := HS.out.box5.cell0
    have hc1_ := HS.out.box5.cell1
    have hc2_ := HS.out.box5.cell2
    have hf_ := HS.out.box5.frozen 2
    have hd0_ := HS.out.box4.cell0
    have hd1_ := HS.out.box4.cell1
    have hd2_ := HS.out.box4.cell2
    have hg0_ := HS.out.box4.frozen 0
    have hg1_ := HS.out.box4.frozen 1
    have hg2_ := HS.out.box4.frozen 2
    have F := Aside0.mk (HS.out.store2 (.string (strOfNums valv))).fin
    clear HS
    go_wp2
    obtain ⟨f1, f2, f3⟩ := F.out
    refine bodyPost_ret (results_cell_row rfl _ _ W.heap.size 48 _ (0, 0) _ rfl f3 Try.underlying48 rfl (by kernel_rfl)) rfl ?_
    have hrr : rd_op 1 l p x = (⟨(a : Int), strOfNums keyv, strOfNums valv⟩, valp, vale) := by simp only [rd_op, HRa.out, HRk.out, Int.toNat_natCast, HRkey.out, HRn.out, HRval.out]; rfl
    rw [hrr]
    exact show rdOp W0 W B A c l _ _ _ from ⟨f1, f2, rfl⟩
  · have hv1 : (v == 1) = false := by simpa using hv
    have HV := Aside0.mk hv
    clear hv
    have T := Aside0.mk (rd_num_calls W0 _ B A c l HL.out kp ke 1 (by decide) HS.out.rd)
    go_wp2_with fail
    refine T.out.mono ?_
    rintro e W3 ⟨hg, hs1, rfl⟩
    have HS1 := Aside0.mk (HS.out.call hg hs1)
    have hlt := rd_num_lt HL.out kp ke 1
    clear hg hs1 T HS
    generalize hr : rd_num l kp ke 1 = r at hlt HS1 ⊢
    obtain ⟨nv, np, ne⟩ := r
    have HRn := Aside0.mk hr
    clear hr
    have HS := HS1
    clear HS1
    obtain ⟨n, rfl⟩ := Int.eq_ofNat_of_zero_le hlt.1
    have hn : (n : Int) < 256 := by have := hlt.2; simpa using this
    clear hlt
    dsimp only at HS ⊢
    have T := Aside0.mk (rd_take_calls W0 _ B A c l np ne k (by omega) HS.out.rd)
    go_wp2_with fail
    refine T.out.mono ?_
    rintro e W4 ⟨hg, hs1, Akey, ckey, rfl, hC, hcap⟩
    have HS1 := Aside0.mk (HS.out.call hg hs1)
    have hconv := sc_string (A := Akey) (c := ckey) hs1.below hC
    clear hg hs1 T HS hC hcap
    generalize hr : rd_take l np ne k = r at hconv HS1 ⊢
    obtain ⟨keyv, keyp, keye⟩ := r
    have HRkey := Aside0.mk hr
    clear hr
    have HS := HS1
    clear HS1
    dsimp only at HS hconv ⊢
    have hc_ := HS.out.box5.cell1
    have hf_ := HS.out.box5.frozen 1
    go_wp2_with fail
    have HSn := Aside0.mk (HS.out.store1 (.string (strOfNums keyv)))
    clear HS hc_ hf_
    have HS := HSn
    clear HSn hconv
    have T := Aside0.mk (rd_take_calls W0 _ B A c l keyp keye n (by omega) HS.out.rd)
    go_wp2_with fail
    refine T.out.mono ?_
    rintro e W5 ⟨hg, hs1, Aval, cval, rfl, hC, hcap⟩
    have HS1 := Aside0.mk (HS.out.call hg hs1)
    have hconv := sc_string (A := Aval) (c := cval) hs1.below hC
    clear hg hs1 T HS hC hcap
    generalize hr : rd_take l keyp keye n = r at hconv HS1 ⊢
    obtain ⟨valv, valp, vale⟩ := r
    have HRval := Aside0.mk hr
    clear hr
    have HS := HS1
    clear HS1
    dsimp only at HS hconv ⊢
    have hc0_ := HS.out.box5.cell0
    have hc1_ := HS.out.box5.cell1
    have hc2_ := HS.out.box5.cell2
    have hf_ := HS.out.box5.frozen 2
    have hd0_ := HS.out.box4.cell0
    have hd1_ := HS.out.box4.cell1
    have hd2_ := HS.out.box4.cell2
    have hg0_ := HS.out.box4.frozen 0
    have hg1_ := HS.out.box4.frozen 1
    have hg2_ := HS.out.box4.frozen 2
    have F := Aside0.mk (HS.out.store2 (.string (strOfNums valv))).fin
    clear HS
    go_wp2
    obtain ⟨f1, f2, f3⟩ := F.out
    refine bodyPost_ret (results_cell_row rfl _ _ W.heap.size 48 _ (0, 0) _ rfl f3 Try.underlying48 rfl (by kernel_rfl)) rfl ?_
    have hrr : rd_op v l p x = (⟨(a : Int), strOfNums keyv, strOfNums valv⟩, valp, vale) := by simp only [rd_op, HRa.out, HRk.out, Int.toNat_natCast, if_neg HV.out, HRkey.out, HRn.out, HRval.out]
    rw [hrr]
    exact show rdOp W0 W B A c l _ _ _ from ⟨f1, f2, rfl⟩

end Go.Proofs.Ytpjaebbgbmhneaa.Print
