/- Written by pp.py, a program of this project that runs the kit's print over the translation, with functions proved by hand put in. Lean checks it. -/
import Derived.Test.YtgbdajlfbmijgaaPrint0
import Derived.Test.YtgbdajlfbmijgaaPrint3
namespace Go.Proofs.Ytgbdajlfbmijgaa.Print
open Go.RowKit Go.Proofs.YtgbdajlfbmijgaaW.PrintWords Go.Proofs.YtgbdajlfbmijgaaW.PrintLast Go.Proofs.YtgbdajlfbmijgaaW.PrintMore
attribute [local go_sem] max2_int min2_int max_two min_two max_three min_three max_four min_four   -- for this text's walks alone
set_option linter.unusedVariables false
set_option linter.unusedSimpArgs false

/-! ### locks_Hold_22: function 22, by hand -/
def lk_cells (x : LkH) : List Value := [.string x.f0, .int .i64 x.f1, .bool x.f2]
theorem lk_reps {R : LkH → List Value → Prop} (hR : ∀ x cs, R x cs → cs = lk_cells x) : ∀ (xs : List LkH) (inner : List Value), Reps R 3 xs inner → inner = xs.flatMap lk_cells
  | [], inner, h => List.eq_nil_of_length_eq_zero (by have := h.1; simpa using this)
  | x :: xs, inner, h => by
    have hl : inner.length = (xs.length + 1) * 3 := h.1
    have h0 := hR _ _ (h.2 0 x rfl)
    rw [Nat.zero_mul, List.drop_zero] at h0
    have ht : Reps R 3 xs (inner.drop 3) := by
      refine ⟨by rw [List.length_drop, hl]; omega, fun j p hj => ?_⟩
      have := h.2 (j + 1) p hj
      rwa [show (j + 1) * 3 = 3 + j * 3 by omega, ← List.drop_drop] at this
    have ih := lk_reps hR xs _ ht
    rw [List.flatMap_cons, ← ih, ← h0, List.take_append_drop]
theorem lk_mk {R : LkH → List Value → Prop} (hR : ∀ x, R x (lk_cells x)) : ∀ (xs : List LkH), Reps R 3 xs (xs.flatMap lk_cells)
  | [] => Reps.none _ _
  | x :: xs => Reps.front (hR x) rfl (lk_mk hR xs) rfl
theorem lk_own {e base : Nat} {w : World} {ok : Nat → Prop} {v : Value} {xs : List LkH} (h : Kd.R k34 e w base ok v xs) : w.ownsRow base e 3 v xs.length (xs.flatMap lk_cells) := by
  obtain ⟨_, inner, ho, hr⟩ := h
  obtain rfl := lk_reps (fun x cs hx => k34_openM hx) xs inner hr
  exact ho
theorem lk_back {e base n : Nat} {w : World} {v : Value} {xs : List LkH} (h : w.ownsRow base e 3 v n (xs.flatMap lk_cells)) (hn : n = xs.length) : Kd.R k34 e w base (fun _ => True) v xs := by
  subst hn
  have hr : Reps (k34.M w base (fun k => (fun _ => True) k ∧ some k ≠ v.ownBlock)) 3 xs (xs.flatMap lk_cells) := lk_mk (fun x => k34_mkM _ _ _ x) xs
  exact ⟨fun _ _ => trivial, _, h, hr⟩
theorem lk_row {e base size n : Nat} {w : World} {v : Value} {xs : List Value} (h : w.ownsRow base e size v n xs) (hn : 0 < n) : ∃ (g cap : Nat) (cur : Array Value), v = .slice (some ⟨g, 0, none⟩) n cap ∧ base ≤ g ∧ w.heap[g]? = some (.cells cur e (0, 0)) ∧ n ≤ cap ∧ cap ≤ maxLen ∧ cur.size = cap * size ∧ cur.toList.take (n * size) = xs := by
  rcases h.2 with ⟨_, h0⟩ | ⟨g, cap, cur, rfl, hb, hh, hl, hm, hs, ht⟩
  · omega
  · exact ⟨g, cap, cur, rfl, hb, hh, hl, hm, hs, ht⟩
theorem lk_len (xs : List LkH) : (xs.flatMap lk_cells).length = xs.length * 3 := (lk_mk (R := fun x cs => cs = lk_cells x) (fun _ => rfl) xs).1
theorem lk_one {xs : List LkH} : ∀ v ∈ xs.flatMap lk_cells, v.oneCell' = true := by
  intro v hv
  obtain ⟨x, _, hx⟩ := List.mem_flatMap.1 hv
  simp only [lk_cells, List.mem_cons, List.not_mem_nil, or_false] at hx
  rcases hx with rfl | rfl | rfl <;> rfl
theorem lk_own_of {e base g cap n : Nat} {w : World} {cur : Array Value} {xs : List LkH} (hb : base ≤ g) (hh : w.heap[g]? = some (.cells cur e (0, 0))) (hn : n = xs.length) (hl : n ≤ cap) (hm : cap ≤ maxLen) (hs : cur.size = cap * 3) (ht : cur.toList.take (n * 3) = xs.flatMap lk_cells) :
    Kd.R k34 e w base (fun _ => True) (.slice (some ⟨g, 0, none⟩) n cap) xs :=
  lk_back ⟨by rw [lk_len, hn], .inr ⟨g, cap, cur, rfl, hb, hh, hl, hm, hs, ht⟩⟩ hn
theorem lk_clear (W : World) (g off m c : Nat) (cur : Array Value) (hg : W.heap[g]? = some (.cells cur 34 (0, 0))) (hm : 0 < m) (hfit : off + m * 3 ≤ cur.size) :
    ∃ cur' : Array Value, (∀ ty, (Builtin.clear_ #[25] ty #[.slice (some ⟨g, off, none⟩) m c]).run Try.prog W = .ok (.tuple #[]) (W.setRow g cur')) ∧ cur'.size = cur.size ∧ cur'.toList.take off = cur.toList.take off := by
  obtain ⟨k, rfl⟩ : ∃ k, m = k + 1 := ⟨m - 1, by omega⟩
  have hz : (Builtin.zeroCells (Value.agg #[.string ⟨#[]⟩, .int .i64 0, .bool false]).cells (k + 1)).toList = (List.replicate (k + 1) (⟨⟨#[]⟩, 0, false⟩ : LkH)).flatMap lk_cells :=
    by
    have h := Kd.reps_made (R := fun x cs => cs = lk_cells x) (z := Value.agg #[.string ⟨#[]⟩, .int .i64 0, .bool false]) (size := 3) (z0 := (⟨⟨#[]⟩, 0, false⟩ : LkH)) rfl (by omega) rfl (k + 1)
    rw [show Builtin.zeroCells (Value.agg #[.string ⟨#[]⟩, .int .i64 0, .bool false]).cells (k + 1) = madeCells (Value.agg #[.string ⟨#[]⟩, .int .i64 0, .bool false]).cells ((k + 1) * 3) from rfl]
    exact lk_reps (fun _ _ h => h) _ _ h
  have hzl := congrArg List.length hz
  rw [lk_len, List.length_replicate] at hzl
  have hst := run_storeCells_at Try.prog g off 34 _ 0 cur W hg (by rw [hzl]; simpa using hfit) (by rw [hz]; exact lk_one)
  refine ⟨(cur.toList.take (off + 0) ++ (Builtin.zeroCells (Value.agg #[.string ⟨#[]⟩, .int .i64 0, .bool false]).cells (k + 1)).toList ++ cur.toList.drop (off + 0 + (Builtin.zeroCells (Value.agg #[.string ⟨#[]⟩, .int .i64 0, .bool false]).cells (k + 1)).toList.length)).toArray, ?_, ?_, ?_⟩
  rotate_left
  · rw [List.size_toArray, List.length_append, List.length_append, List.length_take, List.length_drop, hzl, Array.length_toList]; omega
  · rw [List.toList_toArray, Nat.add_zero, List.append_assoc, List.take_append_of_le_length (by rw [List.length_take, Array.length_toList]; omega), List.take_take, Nat.min_self]
  · intro ty
    simp [Builtin.clear_, run_underlying Try.underlying25, Try.zeroValue34, hst]
theorem lk_take_filter (p : LkH → Bool) (l : List LkH) (j : Nat) (h : j < l.length) : (l.take (j + 1)).filter p = (l.take j).filter p ++ (if p (rd_T34 l j) = true then [rd_T34 l j] else []) := by
  rw [List.take_succ_eq_append_getElem h, List.filter_append]
  simp only [rd_T34, Int.toNat_natCast, List.getD_eq_getElem?_getD, List.getElem?_eq_getElem h, Option.getD_some, List.filter_cons, List.filter_nil]
/-- The row in the middle of DeleteFunc: what is kept of the first j, then what stood from there on. -/
def lk_mid (p : LkH → Bool) (l : List LkH) (j : Nat) : List LkH := (l.take j).filter p ++ l.drop ((l.take j).filter p).length
theorem lk_kept_le (p : LkH → Bool) (l : List LkH) (j : Nat) : ((l.take j).filter p).length ≤ j := Nat.le_trans (List.length_filter_le _ _) (by rw [List.length_take]; omega)
theorem lk_mid_len (p : LkH → Bool) (l : List LkH) (j : Nat) (h : j ≤ l.length) : (lk_mid p l j).length = l.length := by
  have := lk_kept_le p l j
  unfold lk_mid
  rw [List.length_append, List.length_drop]
  omega
theorem lk_mid_at (p : LkH → Bool) (l : List LkH) (j : Nat) (h : j < l.length) : rd_T34 (lk_mid p l j) j = rd_T34 l j := by
  have := lk_kept_le p l j
  unfold lk_mid rd_T34
  rw [Int.toNat_natCast, List.getD_eq_getElem?_getD, List.getD_eq_getElem?_getD, List.getElem?_append_right this, List.getElem?_drop, Nat.add_sub_cancel' this]
theorem lk_mid_keep (p : LkH → Bool) (l : List LkH) (j : Nat) (h : j < l.length) (hp : p (rd_T34 l j) = true) : (lk_mid p l j).set ((l.take j).filter p).length (rd_T34 l j) = lk_mid p l (j + 1) ∧ ((l.take (j + 1)).filter p).length = ((l.take j).filter p).length + 1 := by
  have h1 := lk_take_filter p l j h
  rw [if_pos hp] at h1
  have hl := lk_kept_le p l j
  refine ⟨?_, by rw [h1, List.length_append]; rfl⟩
  unfold lk_mid
  rw [h1, List.set_append, if_neg (by omega), Nat.sub_self, List.append_assoc, List.length_append, List.length_singleton]
  congr 1
  rw [List.drop_eq_getElem_cons (show ((l.take j).filter p).length < l.length by omega)]
  rfl
theorem lk_mid_drop (p : LkH → Bool) (l : List LkH) (j : Nat) (h : j < l.length) (hp : p (rd_T34 l j) = false) : lk_mid p l (j + 1) = lk_mid p l j ∧ ((l.take (j + 1)).filter p).length = ((l.take j).filter p).length := by
  have h1 := lk_take_filter p l j h
  rw [if_neg (by rw [hp]; simp), List.append_nil] at h1
  unfold lk_mid
  rw [h1]
  exact ⟨rfl, rfl⟩
set_option maxHeartbeats 4000000 in
set_option maxRecDepth 100000 in
theorem DeleteFunc_lk (g : Nat) (lb : Array Value) (p : LkH → Bool) (u : Value) (l : List LkH) (w0 w : World) (eg : ∀ (args : Array Value) (w : World), (callFunc g args).run Try.prog w = .ok (.enter g args) w)
    (hB : Below w0.heap.size w0 w) (ho : Kd.R k34 34 w w0.heap.size (fun _ => True) u l)
    (hp : ∀ (W : World) (x : LkH), Below w0.heap.size w0 W → Calls Try.prog g (#[.agg #[.string x.f0, .int .i64 x.f1, .bool x.f2]] ++ lb) W fun e w' => e = .returned (.bool (p x)) ∧ Below W.heap.size W w') :
    Calls Try.prog 22 #[u, .func (.func g) #[] lb] w fun e w' => ∃ v, e = .returned v ∧ Kd.R k34 34 w' w0.heap.size (fun _ => True) v (l.filter fun x => !p x) ∧ Below w0.heap.size w0 w' := by
  obtain ⟨A, c, rfl⟩ := Kd.R_slice ho
  have hc := IndexFunc_34 g lb p A c l w eg (Kd.R_reads' ho).2.2 (fun W x hW => hp W x (below_step hB hW))
  have hcap := (Kd.R_reads' ho).2.1
  have hmax := (Kd.R_reads' ho).2.2.2.1
  have HO := Aside0.mk ho
  have HB := Aside0.mk hB
  rcases idxf_34_spec p l with ⟨e1, hall⟩ | ⟨h0, h1, h2, x, hx, hpx⟩
  · rw [e1] at hc
    have HF : Aside0 (l.filter (fun x => !p x) = l) := ⟨List.filter_eq_self.2 (fun x hx => by rw [hall x hx]; rfl)⟩
    clear hall e1 hp ho hB
    go_enter Try.func22, Try.ntmps22
    go_wp2_with (go_at_call 34; refine hc.mono ?_; rintro e w' ⟨rfl, hb⟩; have HB' := Aside0.mk (hb); clear hb)
    go_ret
    exact ⟨_, rfl, by rw [HF.out]; exact Kd.R_below HO.out HB'.out, below_step HB.out HB'.out⟩
  · obtain ⟨i0, hi0⟩ := Int.eq_ofNat_of_zero_le h0
    rw [hi0] at hc h1 h2 hx
    rw [Int.toNat_natCast] at h2 hx
    have hil : i0 < l.length := by omega
    obtain ⟨gb, cap, ev, hgb, _⟩ := Kd.R_form ho (by omega)
    injection ev with ea eb ec
    subst ea ec
    clear eb
    obtain ⟨q, hq⟩ : ∃ q : LkH → Bool, q = fun x => !p x := ⟨_, rfl⟩
    have hrd : rd_T34 l (i0 : Int) = x := by unfold rd_T34; rw [Int.toNat_natCast, List.getD_eq_getElem?_getD, hx]; rfl
    have hf0 : (l.take i0).filter q = l.take i0 := by
      rw [hq]
      refine List.filter_eq_self.2 (fun y hy => ?_)
      have : p y = false := by
        cases hpy : p y with
        | false => rfl
        | true => rw [List.any_eq_true.2 ⟨y, hy, hpy⟩] at h2; cases h2
      rw [this]; rfl
    have hf1 : (l.take (i0 + 1)).filter q = l.take i0 := by
      rw [lk_take_filter q l i0 hil, hrd, hf0, if_neg (by rw [hq]; simp [hpx]), List.append_nil]
    have hl1 : ((l.take (i0 + 1)).filter q).length = i0 := by rw [hf1, List.length_take]; omega
    have hm1 : lk_mid q l (i0 + 1) = l := by unfold lk_mid; rw [hl1, hf1, List.take_append_drop]
    have HL1 := Aside0.mk hl1
    have HM1 := Aside0.mk hm1
    have HQ := Aside0.mk hq
    have hne : ((i0 : Int) == -1) = false := by simp
    have hne2 : ((i0 : Int) = -1) = False := by simp
    clear hf0 hf1 hl1 hm1 hq hrd hx hpx h2 h1 h0 hi0 ho hB
    go_enter Try.func22, Try.ntmps22
    go_wp2_with (go_at_call 34; refine hc.mono ?_; rintro e w' ⟨rfl, hb⟩; have HB' := Aside0.mk (hb); clear hb)
    go_loopw [5, 6] (fun ti tj wr => ∃ j m : Nat, ti = .int .i64 m ∧ tj = .int .i64 j ∧ j ≤ l.length ∧ m < j ∧ Aside0 (((l.take j).filter q).length = m) ∧ Aside0 (Kd.R k34 34 wr w0.heap.size (fun _ => True) (.slice (some ⟨gb, 0, none⟩) l.length c) (lk_mid q l j)) ∧ Aside0 (Below w0.heap.size w0 wr)) (fun _ tj _ => l.length - (intOf tj).toNat)
    case atStart =>
      exact ⟨i0 + 1, i0, rfl, by go_num, by omega, by omega, HL1, ⟨by rw [HM1.out]; exact Kd.R_below HO.out HB'.out⟩, ⟨below_step HB.out HB'.out⟩⟩
    case round =>
      obtain ⟨j, m, rfl, rfl, hj, hmj, HM, HR, HB2⟩ := hrel
      by_cases hlt : j < l.length
      · obtain ⟨ce, hcl, hM, hcc, hfr⟩ := Kd.R_elem HR.out z34 (j : Int) (by omega) (by omega)
        obtain rfl := k34_openM hM
        have hat : (lk_mid q l j).getD (j : Int).toNat z34 = rd_T34 l j := lk_mid_at q l j hlt
        rw [hat] at hcc
        generalize hv : rd_T34 l j = v at hcc
        have HV := Aside0.mk hv
        have x0 : wr.cell? ⟨gb, j * 3, none⟩ = some (.string v.f0) := hcc 0 _ rfl
        have x1 : wr.cell? ⟨gb, j * 3 + 1, none⟩ = some (.int .i64 v.f1) := hcc 1 _ rfl
        have x2 : wr.cell? ⟨gb, j * 3 + 2, none⟩ = some (.bool v.f2) := hcc 2 _ rfl
        have K0 := blk_new wr (.cells #[.string v.f0, .int .i64 v.f1, .bool v.f2] 34)
        have HW := Aside0.mk (below_alloc HB2.out (.cells #[.string v.f0, .int .i64 v.f1, .bool v.f2] 34))
        have HW2 := Aside0.mk (below_alloc (Below.refl wr.heap.size wr) (.cells #[.string v.f0, .int .i64 v.f1, .bool v.f2] 34))
        have HK0 := Aside0.mk K0
        have cS := hp _ v HW.out
        clear hp hM hcc hfr hat hv hcl K0 hc
        go_wp2_with fail
        go_at_fn g
        refine cS.mono ?_
        rintro e W' ⟨rfl, hb'⟩
        have HKb := blk_below HK0.out hb'
        have hz0 : W'.cell? ⟨wr.heap.size, 0, none⟩ = some (.string v.f0) := (blk_cell HKb 0).trans rfl
        have hz1 : W'.cell? ⟨wr.heap.size, 1, none⟩ = some (.int .i64 v.f1) := (blk_cell HKb 1).trans rfl
        have hz2 : W'.cell? ⟨wr.heap.size, 2, none⟩ = some (.bool v.f2) := (blk_cell HKb 2).trans rfl
        have HBW := Aside0.mk (below_step HB2.out (below_step HW2.out hb'))
        have HRW := Aside0.mk (Kd.R_below HR.out (below_step HW2.out hb'))
        clear HKb HK0 hb' cS x0 x1 x2 HR HB2 HW HW2
        cases hpv : p v
        · obtain ⟨ce, hcl, hM, hcc, hfr⟩ := Kd.R_elem HRW.out z34 (m : Int) (by omega) (by omega)
          obtain rfl := k34_openM hM
          have hlm : ((l.length : Nat) : Int) = l.length := rfl
          have y0 : W'.cell? ⟨gb, m * 3, none⟩ = some (.string _) := hcc 0 _ rfl
          have y1 : W'.cell? ⟨gb, m * 3 + 1, none⟩ = some (.int .i64 _) := hcc 1 _ rfl
          have y2 : W'.cell? ⟨gb, m * 3 + 2, none⟩ = some (.bool _) := hcc 2 _ rfl
          have f0 : W'.frozen? ⟨gb, m * 3, none⟩ = false := hfr 0
          have f1 : W'.frozen? ⟨gb, m * 3 + 1, none⟩ = false := hfr 1
          have f2 : W'.frozen? ⟨gb, m * 3 + 2, none⟩ = false := hfr 2
          have HS := Aside0.mk (Kd.R_seg HRW.out (m : Int) (by omega) (by omega) (seg := [.string v.f0, .int .i64 v.f1, .bool v.f2]) (j := 0) hcl hcc (show 3 ≤ 3 from Nat.le_refl 3) (x' := v) (k34_mkM _ _ _ v) (fun _ hk => hk))
          have HKP := Aside0.mk (lk_mid_keep q l j hlt (by rw [HV.out, HQ.out]; simp [hpv]))
          clear hcc hfr hM hcl hlm
          generalize rd_T34 (lk_mid q l j) (m : Int) = old at y0 y1 y2
          go_wp2
          go_roundw
          case rel =>
            refine ⟨j + 1, m + 1, by go_num, by go_num, by omega, by omega, ⟨by rw [HKP.out.2, HM.out]⟩, ⟨?_⟩, ⟨?_⟩⟩
            · have h1 := HS.out.1
              have h2 := HKP.out.1
              rw [HM.out, HV.out] at h2
              rw [Int.toNat_natCast, h2] at h1
              exact h1
            · exact HBW.out.trans ⟨HS.out.2.os, HS.out.2.tape, HS.out.2.output, HS.out.2.size, fun k hk => HS.out.2.block k (Nat.lt_of_lt_of_le hk HBW.out.size) (by intro h; injection h with h; omega)⟩
          case measure => simp [intOf]; omega
        · have HKP := Aside0.mk (lk_mid_drop q l j hlt (by rw [HV.out, HQ.out]; simp [hpv]))
          go_wp2
          go_roundw
          case rel =>
            exact ⟨j + 1, m, rfl, by go_num, by omega, by omega, ⟨by rw [HKP.out.2, HM.out]⟩, ⟨by rw [HKP.out.1]; exact HRW.out⟩, HBW⟩
          case measure => simp [intOf]; omega
      · obtain rfl : j = l.length := by omega
        obtain ⟨gx, cx, cur, ex, _, hh, hnc, hcm, hcs, htk⟩ := lk_row (lk_own HR.out) (by rw [lk_mid_len q l _ (Nat.le_refl _)]; omega)
        injection ex with ex1 ex3 ex2
        injection ex1 with ex1
        injection ex1 with ex1
        clear ex3 hlt
        subst ex1 ex2
        rw [lk_mid_len q l _ (Nat.le_refl _)] at htk hnc
        obtain ⟨cur', hrun, hsz, htk'⟩ := lk_clear wr gb (m * 3) (l.length - m) (c - m) cur hh (by omega) (by rw [hcs]; omega)
        have hrc : ¬ (c = m) := by omega
        have HH := Aside0.mk hh
        have HT := Aside0.mk htk
        have HT' := Aside0.mk htk'
        have HS' := Aside0.mk (hsz.trans hcs)
        clear hh htk htk' hsz hcs hp hc
        go_wp2
        go_ret
        refine ⟨_, rfl, ?_, ?_⟩
        · have hm := HM.out
          rw [List.take_length] at hm
          have hf : (l.filter fun x => !p x) = l.filter q := by rw [HQ.out]
          rw [hf]
          refine lk_own_of hgb (setRow_heap wr gb cur _ _ _ HH.out) hm.symm (by omega) hcm HS'.out ?_
          have h1 := congrArg (List.take (m * 3)) HT.out
          rw [List.take_take, Nat.min_eq_left (Nat.mul_le_mul_right 3 (by omega))] at h1
          rw [HT'.out, h1]
          unfold lk_mid
          rw [List.take_length, List.flatMap_append, List.take_append_of_le_length (by rw [lk_len, hm]; exact Nat.le_refl _), List.take_of_length_le (by rw [lk_len, hm]; exact Nat.le_refl _)]
        · exact below_setRow HB2.out hgb _

/-! ### locks_Hold_23: function 23, by gens.py -/
def locks_Hold_23.f (l0 : List (S34)) : Option (List (S34)) := if l0.length < 4398046511104 then some l0 else none
set_option maxHeartbeats 1000000 in
set_option maxRecDepth 100000 in
theorem locks_Hold_23.calls (A0 : Option Addr) (c0 : Nat) (l0 : List (S34)) (r : List (S34)) (w : World) (hr0 : Kd.C k34 w A0 l0.length l0) (hc0 : l0.length ≤ c0) (h : locks_Hold_23.f l0 = some r) :
    Calls Try.prog 23 #[.slice A0 l0.length c0] w fun e w' => ∃ v0_ : Value, e = .returned (v0_) ∧ Kd.R k34 34 w' w.heap.size (fun _ => True) v0_ r ∧ Below w.heap.size w w' := by
  have hl : l0.length < 4398046511104 := by unfold locks_Hold_23.f at h; split at h; assumption; cases h
  obtain rfl : l0 = r := by unfold locks_Hold_23.f at h; rw [if_pos hl] at h; exact Option.some.inj h
  clear h
  have HR := Aside0.mk hr0
  clear hr0
  have hnil := fun (w : World) (a : Option Addr) (n c : Nat) => Lib.run_eql_slice_nil (P := Try.prog) w 25 34 a n c 0 0 Try.underlying25
  cases A0 with
  | none =>
    have h0 : l0 = [] := by
      rcases Nat.eq_zero_or_pos l0.length with h0 | h0
      · exact List.eq_nil_of_length_eq_zero h0
      · obtain ⟨ad, e, _⟩ := HR.out.2.2 h0; cases e
    subst h0
    clear HR hl
    go_enter Try.func23, Try.ntmps23
    go_wp2
    go_ret
    exact ⟨_, rfl, Kd.R_nil _ _ _ _ _, Below.refl _ _⟩
  | some ad =>
    have HL := Aside0.mk hl
    clear hl
    have HB := Aside0.mk (below_alloc (Below.refl w.heap.size w) (.cells #[] 34))
    have HO := Aside0.mk (show Kd.R k34 34 (w.alloc (.cells #[] 34)) w.heap.size (fun _ => True) (.slice (some ⟨w.heap.size, 0, none⟩) 0 0) [] from ⟨fun _ _ => trivial, [], World.ownsRow_made w #[] 0 (Nat.le_refl _) (by decide) (by simp), Reps.none _ _⟩)
    go_enter Try.func23, Try.ntmps23
    go_wp2_with (at_builtin; refine Kd.R_append_rows k34 (w0 := w) (Rr := (k34).K w) w.heap.size rfl (.tmp 5) (.tmp 6) 25 34 (.agg #[(.string ⟨#[]⟩), (.int .i64 0), (.bool false)]) 32 rfl Try.underlying25 info34 rfl (by decide) (by omega) _ [] l0 (some ad) l0.length c0 (fun _ => True) (fun _ => False) rfl rfl HO.out (ReadsRow.imp_ HR.out (below_alloc (Below.refl _ _) _) (fun _ _ h => h)) (fun _ _ h => h) (fun _ h => h.elim) (fun _ _ => trivial) HB.out (by simp) (by have := HL.out; simp; omega) ?_; intro v1 w1 hO1 hB1 _ _; have HO1 := Aside0.mk hO1; have HB1 := Aside0.mk hB1; clear hO1 hB1)
    go_ret
    exact ⟨_, rfl, by simpa using HO1.out, HB1.out⟩

/-! ### locks_Release_1: function 24, by hand -/
theorem lk_rel_closure (b : Nat) (t : Int) (x : LkH) (W : World) (hb : W.cell? ⟨b, 0, none⟩ = some (.int .i64 t)) : Calls Try.prog 24 (#[.agg #[.string x.f0, .int .i64 x.f1, .bool x.f2]] ++ #[.pointer (some ⟨b, 0, none⟩)]) W fun e w' => e = .returned (.bool (x.f1 == t)) ∧ Below W.heap.size W w' := by
  have hlt := World.block_lt_of_cell? W _ hb
  have hz : b < W.heap.size := hlt
  go_enter Try.func24, Try.ntmps24
  go_wp2
  go_ret
  exact ⟨rfl, (Below.refl _ _).alloc (Nat.le_refl _) _⟩

/-! ### locks_Release: function 10, by hand -/
theorem lk_check_len {l : List LkH} (h : lk_check l = 0) : l.length ≤ 4096 := by
  unfold lk_check at h
  split at h
  · rename_i h2
    unfold lk_upto at h2
    rw [Bool.and_eq_true] at h2
    exact of_decide_eq_true h2.1
  · cases h
def lk_release (l : List LkH) (t : Int) : List LkH × Int × Int := if lk_check l ≠ 0 then ([], 0, lk_check l) else if lk_txn t = false then ([], 0, 4) else (l.filter (fun x => !(x.f1 == t)), (l.length : Int) - ((l.filter (fun x => !(x.f1 == t))).length : Int), 0)
def locks_Release.f (l : List LkH) (t : Int) : Option (List LkH × Int × Int) := some (lk_release l t)
set_option maxHeartbeats 4000000 in
set_option maxRecDepth 100000 in
theorem locks_Release.calls (A0 : Option Addr) (c0 : Nat) (l0 : List LkH) (a1 : Int) (r1 : List LkH) (r2 r3 : Int) (w : World) (hr0 : Kd.C k34 w A0 l0.length l0) (hc0 : l0.length ≤ c0) (h : locks_Release.f l0 a1 = some (r1, r2, r3)) :
    Calls Try.prog 10 #[.slice A0 l0.length c0, .int .i64 a1] w fun e w' => ∃ v0_ : Value, e = .returned (.tuple #[v0_, .int .i64 r2, .int .i64 r3]) ∧ Kd.R k34 34 w' w.heap.size (fun _ => True) v0_ r1 ∧ Below w.heap.size w w' := by
  have h2 := Option.some.inj h
  unfold lk_release at h2
  have H := Aside0.mk h2
  have K1 := Aside0.mk (blk_new w (.cells #[.int .i64 a1] 3))
  have B1 := Aside0.mk (below_alloc (Below.refl w.heap.size w) (.cells #[.int .i64 a1] 3))
  have C := Aside0.mk (locks_Check.calls A0 c0 l0 (lk_check l0) (w.alloc (.cells #[.int .i64 a1] 3)) (Kd.C_below hr0 B1.out) hc0 rfl)
  have HR := Aside0.mk hr0
  have hmax := hr0.2.1
  have HLE := Aside0.mk (fun h => lk_check_len (l := l0) h)
  generalize lk_check l0 = ec at H C HLE
  clear h h2 hr0
  go_enter Try.func10, Try.ntmps10
  go_wp2_with fail
  refine C.out.mono ?_
  rintro e W1 ⟨rfl, hb1⟩
  have K2 := Aside0.mk (blk_below K1.out hb1)
  have B2 := Aside0.mk (below_step B1.out hb1)
  clear hb1 K1 B1 C
  have z1 : W1.cell? ⟨w.heap.size, 0, none⟩ = some (.int .i64 a1) := (blk_cell K2.out 0).trans rfl
  by_cases he : ec = 0
  · subst he
    have hle := HLE.out rfl
    have h := H.out
    rw [if_neg (by decide)] at h
    have H2 := Aside0.mk h
    clear h H HLE
    have T := Aside0.mk (locks_mayTxn.calls a1 _ W1 (lk_txn_f a1))
    go_wp2_with fail
    refine T.out.mono ?_
    rintro e W2 ⟨rfl, hd2⟩
    have hb2 := hd2.below
    have K3 := Aside0.mk (blk_below K2.out hb2)
    have B3 := Aside0.mk (below_step B2.out hb2)
    have z2 : W2.cell? ⟨w.heap.size, 0, none⟩ = some (.int .i64 a1) := (blk_cell K3.out 0).trans rfl
    clear hb2 hd2 K2 B2 T z1
    have h := H2.out
    cases ht : lk_txn a1 with
    | false =>
      rw [ht, if_pos rfl] at h
      cases h
      clear H2
      go_wp2
      go_ret3
      exact ⟨_, rfl, Kd.R_nil _ _ _ _ _, B3.out⟩
    | true =>
      rw [ht, if_neg (by simp)] at h
      have H3 := Aside0.mk h
      clear h H2 ht
      have CL := Aside0.mk (locks_Hold_23.calls A0 c0 l0 l0 W2 (Kd.C_below HR.out B3.out) hc0 (by unfold locks_Hold_23.f; rw [if_pos (by omega)]))
      go_wp2_with fail
      refine CL.out.mono ?_
      rintro e W3 ⟨v, rfl, hv, hb3⟩
      have D := Aside0.mk (DeleteFunc_lk 24 #[.pointer (some ⟨w.heap.size, 0, none⟩)] (fun x => x.f1 == a1) v l0 W2 W3 (enters_of Try.func24 (by kernel_rfl) rfl) hb3 hv (fun W x hW => lk_rel_closure w.heap.size a1 x W ((blk_cell (blk_below K3.out hW) 0).trans rfl)))
      clear hv hb3 CL
      go_wp2_with fail
      refine D.out.mono ?_
      rintro e W4 ⟨u, rfl, hu, hb4⟩
      obtain ⟨A, c, rfl⟩ := Kd.R_slice hu
      have HU := Aside0.mk hu
      have HB4 := Aside0.mk (below_step B3.out hb4)
      have HSZ := Aside0.mk B3.out.size
      have hfl := List.length_filter_le (fun x : LkH => !(x.f1 == a1)) l0
      have HF := Aside0.mk (⟨_, rfl⟩ : ∃ fl, fl = (l0.filter fun x => !(x.f1 == a1)))
      obtain ⟨fl, hfe⟩ := HF.out
      rw [← hfe] at HU hfl
      have HFE := Aside0.mk hfe
      clear hu hb4 D HF z2
      rw [← HFE.out] at H3 ⊢
      clear hfe
      have hsub : (0 : Int) ≤ (l0.length : Int) - (fl.length : Int) := by omega
      go_wp2
      go_ret3
      have h := H3.out
      cases h
      refine ⟨_, ?_, Kd.R_lower HU.out HSZ.out, HB4.out⟩
      first | rfl | (congr 3; go_num)
  · have h := H.out
    rw [if_pos he] at h
    have q1 : (ec == 0) = false := by simpa using he
    have q2 : (ec != 0) = true := by simpa using he
    have q3 := eq_false he
    clear H HLE he
    cases h
    go_wp2
    go_ret3
    exact ⟨_, rfl, Kd.R_nil _ _ _ _ _, B2.out⟩

/-! ### transeptlaw19_num: function 11 -/
def transeptlaw19_num.f (a0 : Int) : Option (Int) := some a0
set_option maxHeartbeats 8000000 in
set_option maxRecDepth 100000 in
theorem transeptlaw19_num.calls (a0 : Int) (r : Int) (w : World) (h : transeptlaw19_num.f a0 = some r) :
    Calls Try.prog 11 #[.int .i64 a0] w fun e w' => e = .returned (.int .i64 r) ∧ Drawn0 w w' := by
  have H : (some a0) = some r := h
  clear h
  obtain rfl := Option.some.inj H
  go_enter Try.func11, Try.ntmps11
  go_wp2
  go_ret
  exact ⟨by first | rfl | (simp; done) | (simp [*]; done), by repeat (first | exact Drawn0.refl _ | apply Drawn0.step)⟩

/-! ### locks_Hold_27: function 27, by gens.py -/
set_option maxHeartbeats 1000000 in
theorem ContainsFunc_34 (g : Nat) (lb : Array Value) (p : S34 → Bool) (A : Option Addr) (c : Nat) (l : List (S34)) (w : World) (eg : ∀ (args : Array Value) (w : World), (callFunc g args).run Try.prog w = .ok (.enter g args) w) (hr : Kd.C k34 w A l.length l)
    (hp : ∀ (W : World) (x : S34), Below w.heap.size w W → Calls Try.prog g (#[(.agg #[.string x.f0, .int .i64 x.f1, .bool x.f2])] ++ lb) W fun e w' => e = .returned (.bool (p x)) ∧ Below W.heap.size W w') :
    Calls Try.prog 27 #[.slice A l.length c, .func (.func g) #[] lb] w fun e w' => e = .returned (.bool (l.any p)) ∧ Below w.heap.size w w' := by
  have hc := IndexFunc_34 g lb p A c l w eg hr hp
  have HA := Aside0.mk (idxf_34_any p l)
  clear eg hr hp
  go_enter Try.func27, Try.ntmps27
  go_wp2_with (go_at_call 34; refine hc.mono ?_; rintro e w' ⟨rfl, hb⟩; have HB := Aside0.mk hb; clear hb)
  go_ret
  exact ⟨by rw [← HA.out]; rfl, HB.out⟩

/-! ### locks_Hold_28: function 28, by hand -/
def lk_bs (c : LkH → Int) (l : List LkH) : Nat → Nat → Nat → Nat
  | 0, i, _ => i
  | f + 1, i, j => if i < j then (if c (rd_T34 l (((i + j) / 2 : Nat) : Int)) < 0 then lk_bs c l f ((i + j) / 2 + 1) j else lk_bs c l f i ((i + j) / 2)) else i
theorem lk_bs_fuel (c : LkH → Int) (l : List LkH) : ∀ (f f' i j : Nat), j - i < f → j - i < f' → lk_bs c l f i j = lk_bs c l f' i j
  | 0, _, _, _, h, _ => absurd h (Nat.not_lt_zero _)
  | _ + 1, 0, _, _, _, h => absurd h (Nat.not_lt_zero _)
  | f + 1, f' + 1, i, j, h, h' => by
    simp only [lk_bs]
    by_cases hij : i < j
    · rw [if_pos hij, if_pos hij, lk_bs_fuel c l f f' ((i + j) / 2 + 1) j (by omega) (by omega), lk_bs_fuel c l f f' i ((i + j) / 2) (by omega) (by omega)]
    · rw [if_neg hij, if_neg hij]
def lk_find (c : LkH → Int) (l : List LkH) : Nat := lk_bs c l (l.length + 1) 0 l.length
set_option maxHeartbeats 4000000 in
set_option maxRecDepth 100000 in
theorem BinarySearchFunc_lk (g : Nat) (cf : LkH → Int) (y : LkH) (A : Option Addr) (c : Nat) (l : List LkH) (w : World) (eg : ∀ (args : Array Value) (w : World), (callFunc g args).run Try.prog w = .ok (.enter g args) w)
    (hr : Kd.C k34 w A l.length l) (hl : l.length ≤ 4096)
    (hp : ∀ (W : World) (x : LkH), Calls Try.prog g #[.agg #[.string x.f0, .int .i64 x.f1, .bool x.f2], .agg #[.string y.f0, .int .i64 y.f1, .bool y.f2]] W fun e w' => e = .returned (.int .i64 (cf x)) ∧ Below W.heap.size W w') :
    Calls Try.prog 28 #[.slice A l.length c, .agg #[.string y.f0, .int .i64 y.f1, .bool y.f2], .func (.func g) #[] #[]] w fun e w' => e = .returned (.tuple #[.int .i64 (lk_find cf l : Nat), .bool (decide (lk_find cf l < l.length) && decide (cf (rd_T34 l (lk_find cf l : Nat)) = 0))]) ∧ Below w.heap.size w w' := by
  have HR := Aside0.mk hr
  clear hr
  have K0 := Aside0.mk (blk_new w (.cells #[.string y.f0, .int .i64 y.f1, .bool y.f2] 34))
  have B0 := Aside0.mk (below_alloc (Below.refl w.heap.size w) (.cells #[.string y.f0, .int .i64 y.f1, .bool y.f2] 34))
  obtain ⟨R, hR⟩ : ∃ R, R = lk_find cf l := ⟨_, rfl⟩
  rw [← hR]
  have HRR := Aside0.mk hR
  clear hR
  go_enter Try.func28, Try.ntmps28
  go_wp2
  go_loopw [9, 10] (fun tl th wr => ∃ lo hi : Nat, tl = .int .i64 lo ∧ th = .int .i64 hi ∧ lo ≤ hi ∧ hi ≤ l.length ∧ Aside0 (lk_bs cf l (hi - lo + 1) lo hi = R) ∧ Aside0 (Below w.heap.size w wr) ∧ Aside0 (wr.heap[w.heap.size]? = some (.cells #[.string y.f0, .int .i64 y.f1, .bool y.f2] 34 (0, 0)))) (fun tl th _ => (intOf th).toNat - (intOf tl).toNat)
  case atStart => exact ⟨0, l.length, rfl, rfl, Nat.zero_le _, Nat.le_refl _, ⟨by rw [HRR.out]; rfl⟩, B0, K0⟩
  case round =>
    obtain ⟨lo, hi, rfl, rfl, hlh, hhn, HBS, HB, HK⟩ := hrel
    by_cases hlt : lo < hi
    · obtain ⟨ad, rfl, x0, x1, x2⟩ := at_T34 HR.out (((lo + hi) / 2 : Nat) : Int) (by omega) (by omega)
      rw [Int.toNat_natCast] at x0 x1 x2
      have hst : lk_bs cf l (hi - lo + 1) lo hi = if cf (rd_T34 l (((lo + hi) / 2 : Nat) : Int)) < 0 then lk_bs cf l (hi - lo) ((lo + hi) / 2 + 1) hi else lk_bs cf l (hi - lo) lo ((lo + hi) / 2) := by
        conv => lhs; unfold lk_bs
        rw [if_pos hlt]
      rw [lk_bs_fuel cf l (hi - lo) (hi - ((lo + hi) / 2 + 1) + 1) _ _ (by omega) (by omega), lk_bs_fuel cf l (hi - lo) ((lo + hi) / 2 - lo + 1) _ _ (by omega) (by omega)] at hst
      generalize rd_T34 l (((lo + hi) / 2 : Nat) : Int) = v at x0 x1 x2 hst
      have HST := Aside0.mk (HBS.out.symm.trans hst)
      clear hst
      replace x0 := (HB.out.cell (World.block_lt_of_cell? w _ x0)).trans x0
      replace x1 := (HB.out.cell (World.block_lt_of_cell? w _ x1)).trans x1
      replace x2 := (HB.out.cell (World.block_lt_of_cell? w _ x2)).trans x2
      have y0 : wr.cell? ⟨w.heap.size, 0, none⟩ = some (.string y.f0) := (blk_cell HK.out 0).trans rfl
      have y1 : wr.cell? ⟨w.heap.size, 1, none⟩ = some (.int .i64 y.f1) := (blk_cell HK.out 1).trans rfl
      have y2 : wr.cell? ⟨w.heap.size, 2, none⟩ = some (.bool y.f2) := (blk_cell HK.out 2).trans rfl
      have cS := Aside0.mk (fun W => hp W v)
      clear hp
      by_cases hn : cf v < 0
      · rw [if_pos hn] at HST
        have hd : decide (cf v < 0) = true := decide_eq_true hn
        have hb1 : ((0 : Int) ≤ ((lo : Int) + (hi : Int)) / 2) = True := eq_true (by omega)
        have hb2 : (((lo : Int) + (hi : Int)) / 2 < (l.length : Int)) = True := eq_true (by omega)
        have hb3 : (((lo : Int) + (hi : Int)) / 2).toNat = (lo + hi) / 2 := by omega
        go_wp2_with fail
        refine start_ (n := 8) (S := fun w' => w'.cell? (ad.add (((lo + hi) / 2) * 3)) = some (.string v.f0) ∧ w'.cell? ⟨(ad.add (((lo + hi) / 2) * 3)).block, (ad.add (((lo + hi) / 2) * 3)).off + 1, none⟩ = some (.int .i64 v.f1) ∧ w'.cell? ⟨(ad.add (((lo + hi) / 2) * 3)).block, (ad.add (((lo + hi) / 2) * 3)).off + 2, none⟩ = some (.bool v.f2) ∧ w'.cell? ⟨w.heap.size, 0, none⟩ = some (.string y.f0) ∧ w'.cell? ⟨w.heap.size, 1, none⟩ = some (.int .i64 y.f1) ∧ w'.cell? ⟨w.heap.size, 2, none⟩ = some (.bool y.f2)) (ds := [6]) #[false, false, false, false, false, false, false, false] (by kernel_rfl) rfl rfl ⟨x0, x1, x2, y0, y1, y2⟩ (fun hHeld => ?_)
        refine pure_ (i := 0) (N := some 24) (v := ?_) (a' := ?_) #[true, false, false, false, false, false, false, false] rfl rfl (by kernel_rfl) (fun _ _ _ h => h) (Or.inl ⟨by rfl, ?_⟩) ?_ ?_
        rotate_left
        · intro w'
          go_simp
          with_reducible rfl
        rotate_left
        · simp only [Act.put, List.setIfInBounds_toArray, List.set_cons_zero, List.set_cons_succ, i64_w, i32_w]
          rfl
        refine pure_ (i := 1) (N := some 25) (v := ?_) (a' := ?_) #[true, true, false, false, false, false, false, false] rfl rfl (by kernel_rfl) (fun _ _ _ h => h) (Or.inl ⟨by rfl, ?_⟩) ?_ ?_
        rotate_left
        · intro w'
          go_simp
          with_reducible rfl
        rotate_left
        · simp only [Act.put, List.setIfInBounds_toArray, List.set_cons_zero, List.set_cons_succ, i64_w, i32_w]
          rfl
        refine pure_ (i := 2) (N := some 26) (v := ?_) (a' := ?_) #[true, true, true, false, false, false, false, false] rfl rfl (by kernel_rfl) (fun _ _ _ h => h) (Or.inl ⟨by rfl, ?_⟩) ?_ ?_
        rotate_left
        · intro w'
          go_simp
          with_reducible rfl
        rotate_left
        · simp only [Act.put, List.setIfInBounds_toArray, List.set_cons_zero, List.set_cons_succ, i64_w, i32_w]
          rfl
        refine pure_ (i := 3) (N := some 27) (v := ?_) (a' := ?_) #[true, true, true, true, false, false, false, false] rfl rfl (by kernel_rfl) (fun _ _ _ h => h) (Or.inl ⟨by rfl, ?_⟩) ?_ ?_
        rotate_left
        · intro w'
          go_simp
          with_reducible rfl
        rotate_left
        · simp only [Act.put, List.setIfInBounds_toArray, List.set_cons_zero, List.set_cons_succ, i64_w, i32_w]
          rfl
        refine take_ (i := 4) (N := some 28) (v := ?_) (a' := ?_) #[true, true, true, true, true, false, false, false] rfl rfl (by kernel_rfl) (fun _ _ _ h => h) (Or.inl ⟨by rfl, ?_⟩) hHeld ?_ ?_
        rotate_left
        · rintro w' ⟨s0, s1, s2, s3, s4, s5⟩
          go_simp
          with_reducible rfl
        rotate_left
        · simp only [Act.put, List.setIfInBounds_toArray, List.set_cons_zero, List.set_cons_succ, i64_w, i32_w]
          rfl
        refine take_ (i := 5) (N := some 29) (v := ?_) (a' := ?_) #[true, true, true, true, true, true, false, false] rfl rfl (by kernel_rfl) (fun _ _ _ h => h) (Or.inl ⟨by rfl, ?_⟩) hHeld ?_ ?_
        rotate_left
        · rintro w' ⟨s0, s1, s2, s3, s4, s5⟩
          go_simp
          with_reducible rfl
        rotate_left
        · simp only [Act.put, List.setIfInBounds_toArray, List.set_cons_zero, List.set_cons_succ, i64_w, i32_w]
          rfl
        refine last_ (i := 6) (N := some 30) #[true, true, true, true, true, true, true, false] rfl rfl (by kernel_rfl) (by decide) (fun K hK => ?_)
        refine call_ g #[.agg #[.string v.f0, .int .i64 v.f1, .bool v.f2], .agg #[.string y.f0, .int .i64 y.f1, .bool y.f2]] (by rfl) rfl (by first | (go_simp; done) | (go_simp; exact eg _ _)) ?_
        refine (cS.out _).mono ?_
        rintro e W' ⟨rfl, hb'⟩
        refine ⟨_, rfl, ?_⟩
        have HB2 := Aside0.mk (below_step (by repeat (first | exact HB.out | apply below_drew1 | apply pw_below_drewN)) hb')
        have HK2 := Aside0.mk (blk_below (by exact HK.out) hb')
        clear hb' hHeld x0 x1 x2 y0 y1 y2
        refine hK.out _ _ ?_
        clear hK K
        refine pure_ (i := 7) (N := some 31) (v := ?_) (a' := ?_) #[true, true, true, true, true, true, true, true] rfl rfl (by kernel_rfl) (fun _ _ _ h => h) (Or.inl ⟨by rfl, ?_⟩) ?_ ?_
        rotate_left
        · intro w'
          go_simp
          with_reducible rfl
        rotate_left
        · simp only [Act.put, List.setIfInBounds_toArray, List.set_cons_zero, List.set_cons_succ, i64_w, i32_w]
          rfl
        refine done_ (by kernel_rfl) ?_
        go_wp2
        go_roundw
        case rel => exact ⟨(lo + hi) / 2 + 1, hi, by go_num, rfl, by omega, hhn, ⟨HST.out.symm⟩, HB2, HK2⟩
        case measure => simp [intOf]; omega
      · rw [if_neg hn] at HST
        have hd : decide (cf v < 0) = false := decide_eq_false hn
        have hb1 : ((0 : Int) ≤ ((lo : Int) + (hi : Int)) / 2) = True := eq_true (by omega)
        have hb2 : (((lo : Int) + (hi : Int)) / 2 < (l.length : Int)) = True := eq_true (by omega)
        have hb3 : (((lo : Int) + (hi : Int)) / 2).toNat = (lo + hi) / 2 := by omega
        go_wp2_with fail
        refine start_ (n := 8) (S := fun w' => w'.cell? (ad.add (((lo + hi) / 2) * 3)) = some (.string v.f0) ∧ w'.cell? ⟨(ad.add (((lo + hi) / 2) * 3)).block, (ad.add (((lo + hi) / 2) * 3)).off + 1, none⟩ = some (.int .i64 v.f1) ∧ w'.cell? ⟨(ad.add (((lo + hi) / 2) * 3)).block, (ad.add (((lo + hi) / 2) * 3)).off + 2, none⟩ = some (.bool v.f2) ∧ w'.cell? ⟨w.heap.size, 0, none⟩ = some (.string y.f0) ∧ w'.cell? ⟨w.heap.size, 1, none⟩ = some (.int .i64 y.f1) ∧ w'.cell? ⟨w.heap.size, 2, none⟩ = some (.bool y.f2)) (ds := [6]) #[false, false, false, false, false, false, false, false] (by kernel_rfl) rfl rfl ⟨x0, x1, x2, y0, y1, y2⟩ (fun hHeld => ?_)
        refine pure_ (i := 0) (N := some 24) (v := ?_) (a' := ?_) #[true, false, false, false, false, false, false, false] rfl rfl (by kernel_rfl) (fun _ _ _ h => h) (Or.inl ⟨by rfl, ?_⟩) ?_ ?_
        rotate_left
        · intro w'
          go_simp
          with_reducible rfl
        rotate_left
        · simp only [Act.put, List.setIfInBounds_toArray, List.set_cons_zero, List.set_cons_succ, i64_w, i32_w]
          rfl
        refine pure_ (i := 1) (N := some 25) (v := ?_) (a' := ?_) #[true, true, false, false, false, false, false, false] rfl rfl (by kernel_rfl) (fun _ _ _ h => h) (Or.inl ⟨by rfl, ?_⟩) ?_ ?_
        rotate_left
        · intro w'
          go_simp
          with_reducible rfl
        rotate_left
        · simp only [Act.put, List.setIfInBounds_toArray, List.set_cons_zero, List.set_cons_succ, i64_w, i32_w]
          rfl
        refine pure_ (i := 2) (N := some 26) (v := ?_) (a' := ?_) #[true, true, true, false, false, false, false, false] rfl rfl (by kernel_rfl) (fun _ _ _ h => h) (Or.inl ⟨by rfl, ?_⟩) ?_ ?_
        rotate_left
        · intro w'
          go_simp
          with_reducible rfl
        rotate_left
        · simp only [Act.put, List.setIfInBounds_toArray, List.set_cons_zero, List.set_cons_succ, i64_w, i32_w]
          rfl
        refine pure_ (i := 3) (N := some 27) (v := ?_) (a' := ?_) #[true, true, true, true, false, false, false, false] rfl rfl (by kernel_rfl) (fun _ _ _ h => h) (Or.inl ⟨by rfl, ?_⟩) ?_ ?_
        rotate_left
        · intro w'
          go_simp
          with_reducible rfl
        rotate_left
        · simp only [Act.put, List.setIfInBounds_toArray, List.set_cons_zero, List.set_cons_succ, i64_w, i32_w]
          rfl
        refine take_ (i := 4) (N := some 28) (v := ?_) (a' := ?_) #[true, true, true, true, true, false, false, false] rfl rfl (by kernel_rfl) (fun _ _ _ h => h) (Or.inl ⟨by rfl, ?_⟩) hHeld ?_ ?_
        rotate_left
        · rintro w' ⟨s0, s1, s2, s3, s4, s5⟩
          go_simp
          with_reducible rfl
        rotate_left
        · simp only [Act.put, List.setIfInBounds_toArray, List.set_cons_zero, List.set_cons_succ, i64_w, i32_w]
          rfl
        refine take_ (i := 5) (N := some 29) (v := ?_) (a' := ?_) #[true, true, true, true, true, true, false, false] rfl rfl (by kernel_rfl) (fun _ _ _ h => h) (Or.inl ⟨by rfl, ?_⟩) hHeld ?_ ?_
        rotate_left
        · rintro w' ⟨s0, s1, s2, s3, s4, s5⟩
          go_simp
          with_reducible rfl
        rotate_left
        · simp only [Act.put, List.setIfInBounds_toArray, List.set_cons_zero, List.set_cons_succ, i64_w, i32_w]
          rfl
        refine last_ (i := 6) (N := some 30) #[true, true, true, true, true, true, true, false] rfl rfl (by kernel_rfl) (by decide) (fun K hK => ?_)
        refine call_ g #[.agg #[.string v.f0, .int .i64 v.f1, .bool v.f2], .agg #[.string y.f0, .int .i64 y.f1, .bool y.f2]] (by rfl) rfl (by first | (go_simp; done) | (go_simp; exact eg _ _)) ?_
        refine (cS.out _).mono ?_
        rintro e W' ⟨rfl, hb'⟩
        refine ⟨_, rfl, ?_⟩
        have HB2 := Aside0.mk (below_step (by repeat (first | exact HB.out | apply below_drew1 | apply pw_below_drewN)) hb')
        have HK2 := Aside0.mk (blk_below (by exact HK.out) hb')
        clear hb' hHeld x0 x1 x2 y0 y1 y2
        refine hK.out _ _ ?_
        clear hK K
        refine pure_ (i := 7) (N := some 31) (v := ?_) (a' := ?_) #[true, true, true, true, true, true, true, true] rfl rfl (by kernel_rfl) (fun _ _ _ h => h) (Or.inl ⟨by rfl, ?_⟩) ?_ ?_
        rotate_left
        · intro w'
          go_simp
          with_reducible rfl
        rotate_left
        · simp only [Act.put, List.setIfInBounds_toArray, List.set_cons_zero, List.set_cons_succ, i64_w, i32_w]
          rfl
        refine done_ (by kernel_rfl) ?_
        go_wp2
        go_roundw
        case rel => exact ⟨lo, (lo + hi) / 2, rfl, by go_num, by omega, by omega, ⟨HST.out.symm⟩, HB2, HK2⟩
        case measure => simp [intOf]; omega
    · obtain rfl : lo = hi := by omega
      have hlo : R = lo := by
        have := HBS.out
        rw [Nat.sub_self] at this
        simp only [lk_bs] at this
        rw [if_neg (Nat.lt_irrefl lo)] at this
        exact this.symm
      subst hlo
      clear hlt
      have y0 : wr.cell? ⟨w.heap.size, 0, none⟩ = some (.string y.f0) := (blk_cell HK.out 0).trans rfl
      have y1 : wr.cell? ⟨w.heap.size, 1, none⟩ = some (.int .i64 y.f1) := (blk_cell HK.out 1).trans rfl
      have y2 : wr.cell? ⟨w.heap.size, 2, none⟩ = some (.bool y.f2) := (blk_cell HK.out 2).trans rfl
      by_cases hln : R < l.length
      · obtain ⟨ad, rfl, x0, x1, x2⟩ := at_T34 HR.out (R : Int) (by omega) (by omega)
        rw [Int.toNat_natCast] at x0 x1 x2
        generalize hv : rd_T34 l (R : Int) = v at x0 x1 x2
        have HV := Aside0.mk hv
        clear hv
        replace x0 := (HB.out.cell (World.block_lt_of_cell? w _ x0)).trans x0
        replace x1 := (HB.out.cell (World.block_lt_of_cell? w _ x1)).trans x1
        replace x2 := (HB.out.cell (World.block_lt_of_cell? w _ x2)).trans x2
        have cS := Aside0.mk (fun W => hp W v)
        clear hp
        go_wp2_with fail
        refine start_ (n := 16) (S := fun w' => w'.cell? (ad.add (R * 3)) = some (.string v.f0) ∧ w'.cell? ⟨(ad.add (R * 3)).block, (ad.add (R * 3)).off + 1, none⟩ = some (.int .i64 v.f1) ∧ w'.cell? ⟨(ad.add (R * 3)).block, (ad.add (R * 3)).off + 2, none⟩ = some (.bool v.f2) ∧ w'.cell? ⟨w.heap.size, 0, none⟩ = some (.string y.f0) ∧ w'.cell? ⟨w.heap.size, 1, none⟩ = some (.int .i64 y.f1) ∧ w'.cell? ⟨w.heap.size, 2, none⟩ = some (.bool y.f2)) (ds := [11]) #[false, false, false, false, false, false, false, false, false, false, false, false, false, false, false, false] (by kernel_rfl) rfl rfl ⟨x0, x1, x2, y0, y1, y2⟩ (fun hHeld => ?_)
        refine pure_ (i := 0) (N := some 35) (v := ?_) (a' := ?_) #[true, false, false, false, false, false, false, false, false, false, false, false, false, false, false, false] rfl rfl (by kernel_rfl) (fun _ _ _ h => h) (Or.inl ⟨by rfl, ?_⟩) ?_ ?_
        rotate_left
        · intro w'
          go_simp
          with_reducible rfl
        rotate_left
        · simp only [Act.put, List.setIfInBounds_toArray, List.set_cons_zero, List.set_cons_succ, i64_w, i32_w]
          rfl
        refine pure_ (i := 1) (N := some 36) (v := ?_) (a' := ?_) #[true, true, false, false, false, false, false, false, false, false, false, false, false, false, false, false] rfl rfl (by kernel_rfl) (fun _ _ _ h => h) (Or.inl ⟨by rfl, ?_⟩) ?_ ?_
        rotate_left
        · intro w'
          go_simp
          with_reducible rfl
        rotate_left
        · simp only [Act.put, List.setIfInBounds_toArray, List.set_cons_zero, List.set_cons_succ, i64_w, i32_w]
          rfl
        refine pure_ (i := 2) (N := some 37) (v := ?_) (a' := ?_) #[true, true, true, false, false, false, false, false, false, false, false, false, false, false, false, false] rfl rfl (by kernel_rfl) (fun _ _ _ h => h) (Or.inl ⟨by rfl, ?_⟩) ?_ ?_
        rotate_left
        · intro w'
          go_simp
          with_reducible rfl
        rotate_left
        · simp only [Act.put, List.setIfInBounds_toArray, List.set_cons_zero, List.set_cons_succ, i64_w, i32_w]
          rfl
        refine pure_ (i := 3) (N := some 38) (v := ?_) (a' := ?_) #[true, true, true, true, false, false, false, false, false, false, false, false, false, false, false, false] rfl rfl (by kernel_rfl) (fun _ _ _ h => h) (Or.inl ⟨by rfl, ?_⟩) ?_ ?_
        rotate_left
        · intro w'
          go_simp
          with_reducible rfl
        rotate_left
        · simp only [Act.put, List.setIfInBounds_toArray, List.set_cons_zero, List.set_cons_succ, i64_w, i32_w]
          rfl
        refine pure_ (i := 4) (N := some 39) (v := ?_) (a' := ?_) #[true, true, true, true, true, false, false, false, false, false, false, false, false, false, false, false] rfl rfl (by kernel_rfl) (fun _ _ _ h => h) (Or.inl ⟨by rfl, ?_⟩) ?_ ?_
        rotate_left
        · intro w'
          go_simp
          with_reducible rfl
        rotate_left
        · simp only [Act.put, List.setIfInBounds_toArray, List.set_cons_zero, List.set_cons_succ, i64_w, i32_w]
          rfl
        refine pure_ (i := 5) (N := some 40) (v := ?_) (a' := ?_) #[true, true, true, true, true, true, false, false, false, false, false, false, false, false, false, false] rfl rfl (by kernel_rfl) (fun _ _ _ h => h) (Or.inl ⟨by rfl, ?_⟩) ?_ ?_
        rotate_left
        · intro w'
          go_simp
          with_reducible rfl
        rotate_left
        · simp only [Act.put, List.setIfInBounds_toArray, List.set_cons_zero, List.set_cons_succ, i64_w, i32_w]
          rfl
        refine pure_ (i := 6) (N := some 41) (v := ?_) (a' := ?_) #[true, true, true, true, true, true, true, false, false, false, false, false, false, false, false, false] rfl rfl (by kernel_rfl) (fun _ _ _ h => h) (Or.inl ⟨by rfl, ?_⟩) ?_ ?_
        rotate_left
        · intro w'
          go_simp
          with_reducible rfl
        rotate_left
        · simp only [Act.put, List.setIfInBounds_toArray, List.set_cons_zero, List.set_cons_succ, i64_w, i32_w]
          rfl
        refine pure_ (i := 7) (N := some 42) (v := ?_) (a' := ?_) #[true, true, true, true, true, true, true, true, false, false, false, false, false, false, false, false] rfl rfl (by kernel_rfl) (fun _ _ _ h => h) (Or.inl ⟨by rfl, ?_⟩) ?_ ?_
        rotate_left
        · intro w'
          go_simp
          with_reducible rfl
        rotate_left
        · simp only [Act.put, List.setIfInBounds_toArray, List.set_cons_zero, List.set_cons_succ, i64_w, i32_w]
          rfl
        refine pure_ (i := 8) (N := some 43) (v := ?_) (a' := ?_) #[true, true, true, true, true, true, true, true, true, false, false, false, false, false, false, false] rfl rfl (by kernel_rfl) (fun _ _ _ h => h) (Or.inl ⟨by rfl, ?_⟩) ?_ ?_
        rotate_left
        · intro w'
          go_simp
          with_reducible rfl
        rotate_left
        · simp only [Act.put, List.setIfInBounds_toArray, List.set_cons_zero, List.set_cons_succ, i64_w, i32_w]
          rfl
        refine take_ (i := 9) (N := some 44) (v := ?_) (a' := ?_) #[true, true, true, true, true, true, true, true, true, true, false, false, false, false, false, false] rfl rfl (by kernel_rfl) (fun _ _ _ h => h) (Or.inl ⟨by rfl, ?_⟩) hHeld ?_ ?_
        rotate_left
        · rintro w' ⟨s0, s1, s2, s3, s4, s5⟩
          go_simp
          with_reducible rfl
        rotate_left
        · simp only [Act.put, List.setIfInBounds_toArray, List.set_cons_zero, List.set_cons_succ, i64_w, i32_w]
          rfl
        refine take_ (i := 10) (N := some 45) (v := ?_) (a' := ?_) #[true, true, true, true, true, true, true, true, true, true, true, false, false, false, false, false] rfl rfl (by kernel_rfl) (fun _ _ _ h => h) (Or.inl ⟨by rfl, ?_⟩) hHeld ?_ ?_
        rotate_left
        · rintro w' ⟨s0, s1, s2, s3, s4, s5⟩
          go_simp
          with_reducible rfl
        rotate_left
        · simp only [Act.put, List.setIfInBounds_toArray, List.set_cons_zero, List.set_cons_succ, i64_w, i32_w]
          rfl
        refine last_ (i := 11) (N := some 46) #[true, true, true, true, true, true, true, true, true, true, true, true, false, false, false, false] rfl rfl (by kernel_rfl) (by decide) (fun K hK => ?_)
        refine call_ g #[.agg #[.string v.f0, .int .i64 v.f1, .bool v.f2], .agg #[.string y.f0, .int .i64 y.f1, .bool y.f2]] (by rfl) rfl (by first | (go_simp; done) | (go_simp; exact eg _ _)) ?_
        refine (cS.out _).mono ?_
        rintro e W' ⟨rfl, hb'⟩
        refine ⟨_, rfl, ?_⟩
        have HB2 := Aside0.mk (below_step (by repeat (first | exact HB.out | apply below_drew1 | apply pw_below_drewN)) hb')
        have HK2 := Aside0.mk (blk_below (by exact HK.out) hb')
        clear hb' hHeld x0 x1 x2 y0 y1 y2
        refine hK.out _ _ ?_
        clear hK K
        refine pure_ (i := 12) (N := some 47) (v := ?_) (a' := ?_) #[true, true, true, true, true, true, true, true, true, true, true, true, true, false, false, false] rfl rfl (by kernel_rfl) (fun _ _ _ h => h) (Or.inl ⟨by rfl, ?_⟩) ?_ ?_
        rotate_left
        · intro w'
          go_simp
          with_reducible rfl
        rotate_left
        · simp only [Act.put, List.setIfInBounds_toArray, List.set_cons_zero, List.set_cons_succ, i64_w, i32_w]
          rfl
        refine pure_ (i := 13) (N := some 48) (v := ?_) (a' := ?_) #[true, true, true, true, true, true, true, true, true, true, true, true, true, true, false, false] rfl rfl (by kernel_rfl) (fun _ _ _ h => h) (Or.inl ⟨by rfl, ?_⟩) ?_ ?_
        rotate_left
        · intro w'
          go_simp
          with_reducible rfl
        rotate_left
        · simp only [Act.put, List.setIfInBounds_toArray, List.set_cons_zero, List.set_cons_succ, i64_w, i32_w]
          rfl
        refine pure_ (i := 14) (N := some 6) (v := ?_) (a' := ?_) #[true, true, true, true, true, true, true, true, true, true, true, true, true, true, true, false] rfl rfl (by kernel_rfl) (fun _ _ _ h => h) (Or.inl ⟨by rfl, ?_⟩) ?_ ?_
        rotate_left
        · intro w'
          go_simp
          with_reducible rfl
        rotate_left
        · simp only [Act.put, List.setIfInBounds_toArray, List.set_cons_zero, List.set_cons_succ, i64_w, i32_w]
          rfl
        refine pure_ (i := 15) (N := some 7) (v := ?_) (a' := ?_) #[true, true, true, true, true, true, true, true, true, true, true, true, true, true, true, true] rfl rfl (by kernel_rfl) (fun _ _ _ h => h) (Or.inl ⟨by rfl, ?_⟩) ?_ ?_
        rotate_left
        · intro w'
          go_simp
          with_reducible rfl
        rotate_left
        · simp only [Act.put, List.setIfInBounds_toArray, List.set_cons_zero, List.set_cons_succ, i64_w, i32_w]
          rfl
        refine done_ (by kernel_rfl) ?_
        go_wp2
        go_ret2
        exact ⟨by rw [HV.out]; simp [hln, Bool.beq_eq_decide_eq], HB2.out⟩
      · clear hp
        go_wp2_with fail
        refine start_ (n := 16) (S := fun w' => True) (ds := []) #[false, false, false, false, false, false, false, false, false, false, false, false, false, false, false, false] (by kernel_rfl) rfl rfl trivial (fun hHeld => ?_)
        refine pure_ (i := 0) (N := some 35) (v := ?_) (a' := ?_) #[true, false, false, false, false, false, false, false, false, false, false, false, false, false, false, false] rfl rfl (by kernel_rfl) (fun _ _ _ h => h) (Or.inl ⟨by rfl, ?_⟩) ?_ ?_
        rotate_left
        · intro w'
          go_simp
          with_reducible rfl
        rotate_left
        · simp only [Act.put, List.setIfInBounds_toArray, List.set_cons_zero, List.set_cons_succ, i64_w, i32_w]
          rfl
        refine pure_ (i := 1) (N := some 36) (v := ?_) (a' := ?_) #[true, true, false, false, false, false, false, false, false, false, false, false, false, false, false, false] rfl rfl (by kernel_rfl) (fun _ _ _ h => h) (Or.inl ⟨by rfl, ?_⟩) ?_ ?_
        rotate_left
        · intro w'
          go_simp
          with_reducible rfl
        rotate_left
        · simp only [Act.put, List.setIfInBounds_toArray, List.set_cons_zero, List.set_cons_succ, i64_w, i32_w]
          rfl
        refine pure_ (i := 2) (N := some 37) (v := ?_) (a' := ?_) #[true, true, true, false, false, false, false, false, false, false, false, false, false, false, false, false] rfl rfl (by kernel_rfl) (fun _ _ _ h => h) (Or.inl ⟨by rfl, ?_⟩) ?_ ?_
        rotate_left
        · intro w'
          go_simp
          with_reducible rfl
        rotate_left
        · simp only [Act.put, List.setIfInBounds_toArray, List.set_cons_zero, List.set_cons_succ, i64_w, i32_w]
          rfl
        refine pure_ (i := 3) (N := some 38) (v := ?_) (a' := ?_) #[true, true, true, true, false, false, false, false, false, false, false, false, false, false, false, false] rfl rfl (by kernel_rfl) (fun _ _ _ h => h) (Or.inl ⟨by rfl, ?_⟩) ?_ ?_
        rotate_left
        · intro w'
          go_simp
          with_reducible rfl
        rotate_left
        · simp only [Act.put, List.setIfInBounds_toArray, List.set_cons_zero, List.set_cons_succ, i64_w, i32_w]
          rfl
        refine pure_ (i := 4) (N := some 39) (v := ?_) (a' := ?_) #[true, true, true, true, true, false, false, false, false, false, false, false, false, false, false, false] rfl rfl (by kernel_rfl) (fun _ _ _ h => h) (Or.inl ⟨by rfl, ?_⟩) ?_ ?_
        rotate_left
        · intro w'
          go_simp
          with_reducible rfl
        rotate_left
        · simp only [Act.put, List.setIfInBounds_toArray, List.set_cons_zero, List.set_cons_succ, i64_w, i32_w]
          rfl
        refine pure_ (i := 5) (N := some 40) (v := undef) (a' := ?_) #[true, true, true, true, true, true, false, false, false, false, false, false, false, false, false, false] rfl rfl (by kernel_rfl) (fun _ _ _ h => h) (Or.inr ⟨by rfl, rfl⟩) ?_ ?_
        rotate_left
        · simp only [Act.put, List.setIfInBounds_toArray, List.set_cons_zero, List.set_cons_succ, i64_w, i32_w]
          rfl
        refine pure_ (i := 6) (N := some 41) (v := undef) (a' := ?_) #[true, true, true, true, true, true, true, false, false, false, false, false, false, false, false, false] rfl rfl (by kernel_rfl) (fun _ _ _ h => h) (Or.inr ⟨by rfl, rfl⟩) ?_ ?_
        rotate_left
        · simp only [Act.put, List.setIfInBounds_toArray, List.set_cons_zero, List.set_cons_succ, i64_w, i32_w]
          rfl
        refine pure_ (i := 7) (N := some 42) (v := undef) (a' := ?_) #[true, true, true, true, true, true, true, true, false, false, false, false, false, false, false, false] rfl rfl (by kernel_rfl) (fun _ _ _ h => h) (Or.inr ⟨by rfl, rfl⟩) ?_ ?_
        rotate_left
        · simp only [Act.put, List.setIfInBounds_toArray, List.set_cons_zero, List.set_cons_succ, i64_w, i32_w]
          rfl
        refine pure_ (i := 8) (N := some 43) (v := undef) (a' := ?_) #[true, true, true, true, true, true, true, true, true, false, false, false, false, false, false, false] rfl rfl (by kernel_rfl) (fun _ _ _ h => h) (Or.inr ⟨by rfl, rfl⟩) ?_ ?_
        rotate_left
        · simp only [Act.put, List.setIfInBounds_toArray, List.set_cons_zero, List.set_cons_succ, i64_w, i32_w]
          rfl
        refine pure_ (i := 9) (N := some 44) (v := undef) (a' := ?_) #[true, true, true, true, true, true, true, true, true, true, false, false, false, false, false, false] rfl rfl (by kernel_rfl) (fun _ _ _ h => h) (Or.inr ⟨by rfl, rfl⟩) ?_ ?_
        rotate_left
        · simp only [Act.put, List.setIfInBounds_toArray, List.set_cons_zero, List.set_cons_succ, i64_w, i32_w]
          rfl
        refine pure_ (i := 10) (N := some 45) (v := undef) (a' := ?_) #[true, true, true, true, true, true, true, true, true, true, true, false, false, false, false, false] rfl rfl (by kernel_rfl) (fun _ _ _ h => h) (Or.inr ⟨by rfl, rfl⟩) ?_ ?_
        rotate_left
        · simp only [Act.put, List.setIfInBounds_toArray, List.set_cons_zero, List.set_cons_succ, i64_w, i32_w]
          rfl
        refine pure_ (i := 11) (N := some 46) (v := undef) (a' := ?_) #[true, true, true, true, true, true, true, true, true, true, true, true, false, false, false, false] rfl rfl (by kernel_rfl) (fun _ _ _ h => h) (Or.inr ⟨by rfl, rfl⟩) ?_ ?_
        rotate_left
        · simp only [Act.put, List.setIfInBounds_toArray, List.set_cons_zero, List.set_cons_succ, i64_w, i32_w]
          rfl
        refine pure_ (i := 12) (N := some 47) (v := undef) (a' := ?_) #[true, true, true, true, true, true, true, true, true, true, true, true, true, false, false, false] rfl rfl (by kernel_rfl) (fun _ _ _ h => h) (Or.inr ⟨by rfl, rfl⟩) ?_ ?_
        rotate_left
        · simp only [Act.put, List.setIfInBounds_toArray, List.set_cons_zero, List.set_cons_succ, i64_w, i32_w]
          rfl
        refine pure_ (i := 13) (N := some 48) (v := ?_) (a' := ?_) #[true, true, true, true, true, true, true, true, true, true, true, true, true, true, false, false] rfl rfl (by kernel_rfl) (fun _ _ _ h => h) (Or.inl ⟨by rfl, ?_⟩) ?_ ?_
        rotate_left
        · intro w'
          go_simp
          with_reducible rfl
        rotate_left
        · simp only [Act.put, List.setIfInBounds_toArray, List.set_cons_zero, List.set_cons_succ, i64_w, i32_w]
          rfl
        refine pure_ (i := 14) (N := some 6) (v := ?_) (a' := ?_) #[true, true, true, true, true, true, true, true, true, true, true, true, true, true, true, false] rfl rfl (by kernel_rfl) (fun _ _ _ h => h) (Or.inl ⟨by rfl, ?_⟩) ?_ ?_
        rotate_left
        · intro w'
          go_simp
          with_reducible rfl
        rotate_left
        · simp only [Act.put, List.setIfInBounds_toArray, List.set_cons_zero, List.set_cons_succ, i64_w, i32_w]
          rfl
        refine pure_ (i := 15) (N := some 7) (v := ?_) (a' := ?_) #[true, true, true, true, true, true, true, true, true, true, true, true, true, true, true, true] rfl rfl (by kernel_rfl) (fun _ _ _ h => h) (Or.inl ⟨by rfl, ?_⟩) ?_ ?_
        rotate_left
        · intro w'
          go_simp
          with_reducible rfl
        rotate_left
        · simp only [Act.put, List.setIfInBounds_toArray, List.set_cons_zero, List.set_cons_succ, i64_w, i32_w]
          rfl
        refine done_ (by kernel_rfl) ?_
        go_wp2
        go_ret2
        exact ⟨by simp [hln], by repeat (first | exact HB.out | apply below_drew1 | apply pw_below_drewN)⟩

-- NOT PRINTED: function 38 (locks_Hold_38)

end Go.Proofs.Ytgbdajlfbmijgaa.Print
