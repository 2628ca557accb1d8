/- Written by pp.py, a program of this project that runs the kit's print over the translation, with functions proved by hand put in. Lean checks it. -/
import Derived.Test.YtgbdajlfbmijgaaPrint0
import Derived.Test.YtgbdajlfbmijgaaPrint3
import Derived.Test.YtgbdajlfbmijgaaPrint4
namespace Go.Proofs.Ytgbdajlfbmijgaa.Print
open Go.RowKit Go.Proofs.YtgbdajlfbmijgaaW.PrintWords Go.Proofs.YtgbdajlfbmijgaaW.PrintLast Go.Proofs.YtgbdajlfbmijgaaW.PrintMore
attribute [local go_sem] max2_int min2_int max_two min_two max_three min_three max_four min_four   -- for this text's walks alone
set_option linter.unusedVariables false
set_option linter.unusedSimpArgs false

/-! ### locks_Hold_30: function 30, by hand -/
theorem lk_copy (W : World) (g o dLen dCap : Nat) (a : Addr) (sLen sCap : Nat) (cur : Array Value) (xs : List LkH) (hg : W.heap[g]? = some (.cells cur 34 (0, 0))) (hn : xs.length = Nat.min sLen dLen)
    (hsrc : ∀ j v, (xs.flatMap lk_cells)[j]? = some v → W.cell? (a.add j) = some v) (hfit : o + xs.length * 3 ≤ cur.size) :
    ∀ ty, (Builtin.copy_ #[25, 25] ty #[.slice (some ⟨g, o, none⟩) dLen dCap, .slice (some a) sLen sCap]).run Try.prog W = .ok (goInt xs.length) (W.setRow g (cur.toList.take o ++ xs.flatMap lk_cells ++ cur.toList.drop (o + xs.length * 3)).toArray) := by
  intro ty
  have hl := run_loadCells_list (P := Try.prog) W a (xs.flatMap lk_cells) hsrc
  have hst := run_storeCells_at Try.prog g o 34 (xs.flatMap lk_cells) 0 cur W hg (by rw [lk_len]; simpa using hfit) lk_one
  rw [lk_len] at hl hst
  rw [Nat.add_zero] at hst
  obtain ⟨i0, hi, hzz⟩ := Option.map_eq_some_iff.1 info34
  simp only [Prod.mk.injEq] at hzz
  simp [Builtin.copy_, run_underlying Try.underlying25, Builtin.lenOf, Builtin.firstCells, sizeOf, typeInfo, hi, hzz.2.1, ← hn, hl, hst]
theorem lk_grow (W : World) (g i n c : Nat) (cur : Array Value) (l : List LkH) (hg : W.heap[g]? = some (.cells cur 34 (0, 0))) (hi : i < n) (hn : n = l.length) (hc : c < n + 1) (hb : n ≤ 4096) (ht : cur.toList.take (n * 3) = l.flatMap lk_cells) :
    ∃ (G : Nat) (ROW : Array Value) (W1 : World), (∀ ty, (Builtin.append_ #[25, 3] ty #[.slice (some ⟨g, 0, none⟩) i c, .int .i64 ((n : Int) + 1 - (i : Int))]).run Try.prog W = .ok (.slice (some ⟨W.heap.size, 0, none⟩) (n + 1) G) W1) ∧
      W1.heap[W.heap.size]? = some (.cells ROW 34 (0, 0)) ∧ n + 1 ≤ G ∧ G ≤ maxLen ∧ ROW.size = G * 3 ∧ ROW.toList.take (i * 3) = (l.take i).flatMap lk_cells ∧ Below W.heap.size W W1 := by
  obtain ⟨i0, hi0, hzz⟩ := Option.map_eq_some_iff.1 info34
  simp only [Prod.mk.injEq] at hzz
  have hti : cur.toList.take (i * 3) = (l.take i).flatMap lk_cells := by
    have h1 := congrArg (List.take (i * 3)) ht
    rw [List.take_take, Nat.min_eq_left (Nat.mul_le_mul_right 3 (by omega))] at h1
    rw [h1]
    conv => lhs; rw [← List.take_append_drop i l, List.flatMap_append]
    rw [List.take_append_of_le_length (by rw [lk_len, List.length_take]; omega), List.take_of_length_le (by rw [lk_len, List.length_take]; omega)]
  have hcl : ((l.take i).flatMap lk_cells).length = i * 3 := by rw [lk_len, List.length_take]; omega
  have hold : (Builtin.firstCells i0.size i (.slice (some ⟨g, 0, none⟩) i c)).run Try.prog W.drew = .ok ((l.take i).flatMap lk_cells).toArray W.drew := by
    rw [hzz.2.1]
    refine run_firstCells_some W.drew 3 i ⟨g, 0, none⟩ i c _ hcl (fun j v hj => ?_)
    rw [add_plain]
    rw [← hti, List.getElem?_take] at hj
    split at hj
    · show W.cell? ⟨g, j, none⟩ = some v
      rw [blk_cell hg j]
      simpa using hj
    · cases hj
  have h := fun ty => Lib.run_append_grow_zeros W 25 3 ty 34 i0 _ .i64 .i64 Try.underlying25 Try.underlying3 hi0 hzz.1 (some ⟨g, 0, none⟩) i c _ hold (n + 1 - i) (by omega) (by rw [hzz.2.1]; omega) (by omega) (by omega) (by rw [hzz.2.2]; omega) (by rw [hzz.2.2]; exact growslice_fits (by omega) (by omega))
  have hin : i + (n + 1 - i) = n + 1 := by omega
  rw [hin] at h
  have hkk : (n : Int) + 1 - (i : Int) = ((n + 1 - i : Nat) : Int) := by omega
  have hge := grownCap_ge W (n + 1) c 34
  refine ⟨grownCap W (n + 1) c 34, _, _, fun ty => by rw [hkk]; exact h ty, heap_alloc_new W.drew _, hge, grownCap_le_maxLen W (n + 1) c 34 (by simp only [maxLen]; omega), ?_, ?_, below_alloc (below_drew1 (Below.refl _ _)) _⟩
  · rw [Array.size_append, Array.size_append, size_zeroCells, size_zeroCells, List.size_toArray, hcl]
    show i * 3 + (n + 1 - i) * 3 + (grownCap W (n + 1) c 34 - (n + 1)) * 3 = _
    omega
  · rw [Array.toList_append, Array.toList_append, List.append_assoc, List.take_append_of_le_length (by rw [hcl]; exact Nat.le_refl _), List.take_of_length_le (by rw [hcl]; exact Nat.le_refl _)]
theorem lk_shift (cur D X : List Value) (o : Nat) (hX : X.length = 3) (ho : o + 3 ≤ cur.length) :
    (((cur.take (o + 3) ++ D ++ cur.drop (o + 3 + D.length)).take o ++ X ++ (cur.take (o + 3) ++ D ++ cur.drop (o + 3 + D.length)).drop (o + 3))).take (o + 3 + D.length) = cur.take o ++ X ++ D := by
  have h1 : (cur.take (o + 3)).length = o + 3 := by rw [List.length_take]; omega
  have h2 : (cur.take (o + 3) ++ D ++ cur.drop (o + 3 + D.length)).take o = cur.take o := by
    rw [List.append_assoc, List.take_append_of_le_length (by omega), List.take_take, Nat.min_eq_left (by omega)]
  have h3 : (cur.take (o + 3) ++ D ++ cur.drop (o + 3 + D.length)).drop (o + 3) = D ++ cur.drop (o + 3 + D.length) := by
    rw [List.append_assoc, List.drop_left' h1]
  rw [h2, h3, ← List.append_assoc, List.take_left']
  rw [List.length_append, List.length_append, List.length_take, hX]
  omega
theorem lk_fill (row D X : List Value) (o : Nat) (hX : X.length = 3) (ho : o + 3 + D.length ≤ row.length) :
    ((row.take o ++ X ++ row.drop (o + 3)).take (o + 3) ++ D ++ (row.take o ++ X ++ row.drop (o + 3)).drop (o + 3 + D.length)).take (o + 3 + D.length) = row.take o ++ X ++ D := by
  have h1 : (row.take o ++ X).length = o + 3 := by rw [List.length_append, List.length_take, hX]; omega
  rw [List.take_left' h1, List.take_left' (by rw [List.length_append, h1])]
theorem lk_at_cells (l : List LkH) (i : Nat) (hi : i ≤ l.length) (cur : Array Value) (n : Nat) (hn : n = l.length) (ht : cur.toList.take (n * 3) = l.flatMap lk_cells) : ∀ j v, ((l.drop i).flatMap lk_cells)[j]? = some v → cur[i * 3 + j]? = some v := by
  intro j v hj
  have hlen : (l.take i).length = i := by rw [List.length_take]; omega
  have h1 : (l.flatMap lk_cells)[i * 3 + j]? = some v := by
    conv => lhs; rw [← List.take_append_drop i l, List.flatMap_append]
    rw [List.getElem?_append_right (by rw [lk_len, hlen]; omega), lk_len, hlen, Nat.add_sub_cancel_left]
    exact hj
  rw [← ht, List.getElem?_take] at h1
  split at h1
  · simpa using h1
  · cases h1
theorem lk_overlap (W : World) (g vb : Nat) (cur : Array Value) (x : LkH) (o lb cb : Nat) (hg : W.heap[g]? = some (.cells cur 34 (0, 0))) (hs : cur.size ≠ 0) (hv : W.heap[vb]? = some (.cells #[.string x.f0, .int .i64 x.f1, .bool x.f2] 34 (0, 0))) (hne : vb ≠ g) :
    (callFunc 38 #[.slice (some ⟨vb, 0, none⟩) 1 1, .slice (some ⟨g, o, none⟩) lb cb]).run Try.prog W = .ok (.value (.bool false)) W := by
  rw [run_callFunc_extern Try.func38 (by kernel_rfl) (by kernel_rfl) (by kernel_rfl) (e := Extern.SlicesOverlaps.overlaps #[25, 25] #[4]) (by kernel_rfl),
    Lib.run_overlaps_apart W 25 4 34 Try.underlying25 3 (fun w => by obtain ⟨i0, hi, hzz⟩ := Option.map_eq_some_iff.1 info34; simp only [Prod.mk.injEq] at hzz; simp [sizeOf, typeInfo, hi, hzz.2.1]) ⟨vb, 0, none⟩ ⟨g, o, none⟩ 1 1 lb cb hne 34 34 3 cur.size (by simp [World.shape?, hv]) (by simp [World.shape?, hg]) hs (blk_frozen hv 0) (blk_frozen hv 3)]
  rfl
set_option maxHeartbeats 4000000 in
set_option maxRecDepth 100000 in
theorem Insert_lk (u : Value) (i : Nat) (x : LkH) (vb : Nat) (l : List LkH) (w0 w : World) (hB : Below w0.heap.size w0 w) (ho : Kd.R k34 34 w w0.heap.size (fun _ => True) u l) (hi : i ≤ l.length) (hl : l.length ≤ 4096)
    (hvb : w.heap[vb]? = some (.cells #[.string x.f0, .int .i64 x.f1, .bool x.f2] 34 (0, 0))) (hvo : u.ownBlock ≠ some vb) :
    Calls Try.prog 30 #[u, .int .i64 i, .slice (some ⟨vb, 0, none⟩) 1 1] w fun e w' => ∃ v, e = .returned v ∧ Kd.R k34 34 w' w0.heap.size (fun _ => True) v (l.take i ++ x :: l.drop i) ∧ Below w0.heap.size w0 w' := by
  obtain ⟨A, c, rfl⟩ := Kd.R_slice ho
  have hcap := (Kd.R_reads' ho).2.1
  have HO := Aside0.mk ho
  have HB := Aside0.mk hB
  have HV := Aside0.mk hvb
  by_cases hin : i = l.length
  · subst hin
    have HX : Aside0 (ReadsRow (k34.K w) 3 w (some ⟨vb, 0, none⟩) 1 [x]) := by
      refine ⟨rfl, by omega, fun _ => ⟨⟨vb, 0, none⟩, rfl, fun j p hj => ?_⟩⟩
      cases j with
      | zero =>
        obtain rfl : x = p := by simpa using hj
        refine ⟨_, rfl, k34_mkM w 0 (fun _ => False) x, fun q z hq => ?_⟩
        rw [add_plain, Nat.zero_mul, Nat.zero_add, blk_cell HV.out q]
        simpa using hq
      | succ j => simp at hj
    clear ho hB hvb hvo hi
    go_enter Try.func30, Try.ntmps30
    go_wp2_with (at_builtin; refine Kd.R_append_rows k34 (w0 := w0) (Rr := (k34).K w) w0.heap.size rfl (.tmp 23) (.tmp 24) 25 34 (.agg #[(.string ⟨#[]⟩), (.int .i64 0), (.bool false)]) 32 rfl Try.underlying25 info34 rfl (by decide) (by omega) _ l [x] (some ⟨vb, 0, none⟩) 1 1 (fun _ => True) (fun _ => False) rfl rfl HO.out HX.out (fun _ _ h => h) (fun _ h => h.elim) (fun _ _ => trivial) HB.out HB.out.size (by omega) ?_; intro v1 w1 hO1 hB1 _ _; have HO1 := Aside0.mk hO1; have HB1 := Aside0.mk hB1; clear hO1 hB1)
    all_goals
      go_ret
      exact ⟨_, rfl, by first | exact HO1.out | (rw [List.take_length, List.drop_length]; exact HO1.out) | (simp only [List.take_length, List.drop_length]; exact HO1.out), HB1.out⟩
  · obtain ⟨g, cap, cur, ev, hgb, hg, hnc, hcm, hcs, ht⟩ := lk_row (lk_own ho) (by omega)
    injection ev with ea eb ec
    subst ea ec
    clear eb
    have hvg : vb ≠ g := by intro h; subst h; simp [Value.ownBlock] at hvo
    have hlt : i < l.length := by omega
    have hz1 : ¬ ((i : Int) = (l.length : Int)) := by omega
    have hz2 : ((i : Int) == (l.length : Int)) = false := by simpa using hz1
    have hcx : (l.take i).flatMap lk_cells = cur.toList.take (i * 3) := by
      symm
      have h1 := congrArg (List.take (i * 3)) ht
      rw [List.take_take, Nat.min_eq_left (Nat.mul_le_mul_right 3 (by omega))] at h1
      rw [h1]
      conv => lhs; rw [← List.take_append_drop i l, List.flatMap_append]
      rw [List.take_append_of_le_length (by rw [lk_len, List.length_take]; omega), List.take_of_length_le (by rw [lk_len, List.length_take]; omega)]
    have HCX := Aside0.mk hcx
    have HDC := Aside0.mk (lk_at_cells l i hi cur l.length rfl ht)
    have hdl : (l.drop i).length = l.length - i := List.length_drop
    have HG := Aside0.mk hg
    have HT := Aside0.mk ht
    have HCS := Aside0.mk hcs
    have hfin : l.take i ++ x :: l.drop i = l.take i ++ [x] ++ l.drop i := by simp
    have HFIN := Aside0.mk hfin
    have hfl : (l.take i ++ x :: l.drop i).length = l.length + 1 := by simp; omega
    have HFL := Aside0.mk hfl
    have hff : (l.take i ++ x :: l.drop i).flatMap lk_cells = cur.toList.take (i * 3) ++ lk_cells x ++ (l.drop i).flatMap lk_cells := by rw [hfin, List.flatMap_append, List.flatMap_append, hcx]; simp
    have HFF := Aside0.mk hff
    have hmax : maxLen = 9223372036854775807 := rfl
    clear hfin hfl hff hcx ho hB hvo hin
    by_cases hc : c < l.length + 1
    · obtain rfl : c = l.length := by omega
      obtain ⟨G, ROW, W1, hrun, hrow, hG, hGm, hRs, hRt, hBl⟩ := lk_grow w g i l.length l.length cur l hg hlt rfl (by omega) hl ht
      have hgw : g < w.heap.size := (Array.getElem?_eq_some_iff.1 hg).1
      have hv1 : W1.heap[vb]? = some (.cells #[.string x.f0, .int .i64 x.f1, .bool x.f2] 34 (0, 0)) := blk_below hvb hBl
      have hg1 : W1.heap[g]? = some (.cells cur 34 (0, 0)) := blk_below hg hBl
      have hc1 := lk_copy W1 w.heap.size (i * 3) (l.length + 1 - i) (G - i) ⟨vb, 0, none⟩ 1 1 ROW [x] hrow (by simp only [Nat.min_def, List.length_singleton]; split <;> omega) (fun j v hj => by rw [add_plain, blk_cell hv1 j]; simpa [lk_cells] using hj) (by rw [hRs, List.length_singleton]; omega)
      obtain ⟨row1, hrow1⟩ : ∃ row1 : Array Value, row1 = (ROW.toList.take (i * 3) ++ [x].flatMap lk_cells ++ ROW.toList.drop (i * 3 + [x].length * 3)).toArray := ⟨_, rfl⟩
      rw [← hrow1] at hc1
      have hs1 : row1.size = G * 3 := by rw [hrow1, List.size_toArray, List.length_append, List.length_append, List.length_take, List.length_drop, lk_len, Array.length_toList, hRs, List.length_singleton]; omega
      obtain ⟨W2, hW2⟩ : ∃ W2, W2 = W1.setRow w.heap.size row1 := ⟨_, rfl⟩
      have hg2 : W2.heap[w.heap.size]? = some (.cells row1 34 (0, 0)) := by rw [hW2]; exact setRow_heap W1 w.heap.size ROW _ _ _ hrow
      have hgg : W2.heap[g]? = some (.cells cur 34 (0, 0)) := by rw [hW2, setRow_other _ _ _ _ (by omega)]; exact hg1
      have hb2 : Below w0.heap.size w0 W2 := by rw [hW2]; exact below_setRow (below_step HB.out hBl) HB.out.size _
      rw [← hW2] at hc1
      have hc2 := lk_copy W2.drew w.heap.size ((i + 1) * 3) (l.length - i) (G - (i + 1)) ⟨g, i * 3, none⟩ (l.length - i) (l.length - i) row1 (l.drop i) hg2 (by rw [List.length_drop]; simp only [Nat.min_def]; split <;> omega) (fun j v hj => by rw [Addr.add_lit]; show W2.cell? _ = _; rw [blk_cell hgg]; exact HDC.out j v hj) (by rw [hs1, List.length_drop]; omega)
      obtain ⟨W3, hW3⟩ : ∃ W3, W3 = W2.drew.setRow w.heap.size (row1.toList.take ((i + 1) * 3) ++ (l.drop i).flatMap lk_cells ++ row1.toList.drop ((i + 1) * 3 + (l.drop i).length * 3)).toArray := ⟨_, rfl⟩
      rw [← hW3] at hc2
      have HW3 := Aside0.mk hW3
      have HG2 := Aside0.mk hg2
      have HB2 := Aside0.mk hb2
      have HS1 := Aside0.mk hs1
      have HR1 := Aside0.mk hrow1
      have HRS := Aside0.mk hRs
      have HRT := Aside0.mk hRt
      have HBW := Aside0.mk HB.out.size
      clear hW3 hg2 hb2 hs1 hrow1 hRs hRt hgg hW2 hg1 hv1 hrow hBl hg hvb ht hcs hdl
      have hwi : wrap64 ((i : Int) + 1) = (i : Int) + 1 := wrap_add (by omega) (by omega)
      have hti : ((i : Int) + 1).toNat = i + 1 := by omega
      have hb1 : ((0 : Int) ≤ (i : Int) + 1) = True := eq_true (by omega)
      have hb2 : ((i : Int) + 1 ≤ (l.length : Int) + 1) = True := eq_true (by omega)
      have hb3 : ((i : Int) ≤ (l.length : Int) + 1) = True := eq_true (by omega)
      have hb4 : ((i : Int) ≤ (l.length : Int)) = True := eq_true (by omega)
      have hne1 : ¬ (G = i + 1) := by omega
      have hne2 : ¬ (G = i) := by omega
      have hne3 : ¬ (l.length = i) := by omega
      go_enter Try.func30, Try.ntmps30
      go_wp2_with (at_builtin; refine Lib.wpList_append_run _ rfl _ _ _ _ rfl _ _ rfl rfl _ _ (hrun _) ?_)
      refine start_ (n := 9) (S := fun w' => True) (ds := [8]) #[false, false, false, false, false, false, false, false, false] (by kernel_rfl) rfl rfl trivial (fun hHeld => ?_)
      refine pure_ (i := 0) (N := some 46) (v := ?_) (a' := ?_) #[true, false, false, false, false, false, false, false, false] rfl rfl (by kernel_rfl) (fun _ _ _ h => h) (Or.inl ⟨by rfl, ?_⟩) ?_ ?_
      rotate_left
      · intro w'
        go_simp
        with_reducible rfl
      rotate_left
      · simp only [Act.put, List.setIfInBounds_toArray, List.set_cons_zero, List.set_cons_succ, i64_w, i32_w]
        rfl
      refine pure_ (i := 1) (N := some 47) (v := ?_) (a' := ?_) #[true, true, false, false, false, false, false, false, false] rfl rfl (by kernel_rfl) (fun _ _ _ h => h) (Or.inl ⟨by rfl, ?_⟩) ?_ ?_
      rotate_left
      · intro w'
        go_simp
        with_reducible rfl
      rotate_left
      · simp only [Act.put, List.setIfInBounds_toArray, List.set_cons_zero, List.set_cons_succ, i64_w, i32_w]
        rfl
      refine pure_ (i := 2) (N := some 48) (v := ?_) (a' := ?_) #[true, true, true, false, false, false, false, false, false] rfl rfl (by kernel_rfl) (fun _ _ _ h => h) (Or.inl ⟨by rfl, ?_⟩) ?_ ?_
      rotate_left
      · intro w'
        go_simp
        with_reducible rfl
      rotate_left
      · simp only [Act.put, List.setIfInBounds_toArray, List.set_cons_zero, List.set_cons_succ, i64_w, i32_w]
        rfl
      refine pure_ (i := 3) (N := some 49) (v := ?_) (a' := ?_) #[true, true, true, true, false, false, false, false, false] rfl rfl (by kernel_rfl) (fun _ _ _ h => h) (Or.inl ⟨by rfl, ?_⟩) ?_ ?_
      rotate_left
      · intro w'
        go_simp
        with_reducible rfl
      rotate_left
      · simp only [Act.put, List.setIfInBounds_toArray, List.set_cons_zero, List.set_cons_succ, i64_w, i32_w]
        rfl
      refine pure_ (i := 5) (N := some 51) (v := ?_) (a' := ?_) #[true, true, true, true, false, true, false, false, false] rfl rfl (by kernel_rfl) (fun _ _ _ h => h) (Or.inl ⟨by rfl, ?_⟩) ?_ ?_
      rotate_left
      · intro w'
        go_simp
        with_reducible rfl
      rotate_left
      · simp only [Act.put, List.setIfInBounds_toArray, List.set_cons_zero, List.set_cons_succ, i64_w, i32_w]
        rfl
      refine pure_ (i := 6) (N := some 52) (v := ?_) (a' := ?_) #[true, true, true, true, false, true, true, false, false] rfl rfl (by kernel_rfl) (fun _ _ _ h => h) (Or.inl ⟨by rfl, ?_⟩) ?_ ?_
      rotate_left
      · intro w'
        go_simp
        with_reducible rfl
      rotate_left
      · simp only [Act.put, List.setIfInBounds_toArray, List.set_cons_zero, List.set_cons_succ, i64_w, i32_w]
        rfl
      refine pure_ (i := 4) (N := some 50) (v := ?_) (a' := ?_) #[true, true, true, true, true, true, true, false, false] rfl rfl (by kernel_rfl) (fun _ _ _ h => h) (Or.inl ⟨by rfl, ?_⟩) ?_ ?_
      rotate_left
      · intro w'
        go_simp
        with_reducible rfl
      rotate_left
      · simp only [Act.put, List.setIfInBounds_toArray, List.set_cons_zero, List.set_cons_succ, i64_w, i32_w]
        rfl
      refine pure_ (i := 7) (N := some 53) (v := ?_) (a' := ?_) #[true, true, true, true, true, true, true, true, false] rfl rfl (by kernel_rfl) (fun _ _ _ h => h) (Or.inl ⟨by rfl, ?_⟩) ?_ ?_
      rotate_left
      · intro w'
        go_simp
        with_reducible rfl
      rotate_left
      · simp only [Act.put, List.setIfInBounds_toArray, List.set_cons_zero, List.set_cons_succ, i64_w, i32_w]
        rfl
      refine last_ (i := 8) (N := some 54) #[true, true, true, true, true, true, true, true, true] rfl rfl (by kernel_rfl) (by decide) (fun K hK => ?_)
      refine value_ (w1 := W3) (v := goInt (l.drop i).length) (by rfl) rfl ?_ ?_
      · simp [execOp, resolve, invoke, builtin, Act.eval, Act.put, hc2, Result.andThen]
      refine hK.out _ _ ?_
      clear hK K
      refine done_ (by kernel_rfl) ?_
      go_wp2
      go_ret
      have hl3 := HW3.out
      refine ⟨_, rfl, ?_, by rw [hl3]; exact below_setRow (below_drew1 HB2.out) HBW.out _⟩
      rw [hl3]
      refine lk_own_of HBW.out (setRow_heap W2.drew w.heap.size row1 _ _ _ HG2.out) HFL.out.symm (by omega) hGm ?_ ?_
      · rw [List.size_toArray, List.length_append, List.length_append, List.length_take, List.length_drop, lk_len, Array.length_toList, HS1.out, List.length_drop]; omega
      · rw [HFF.out, List.toList_toArray, HR1.out, List.toList_toArray]
        have h := lk_fill ROW.toList ((l.drop i).flatMap lk_cells) (lk_cells x) (i * 3) rfl (by rw [lk_len, List.length_drop]; show _ ≤ ROW.size; rw [HRS.out]; omega)
        rw [lk_len, List.length_drop, HRT.out, HCX.out] at h
        rw [show (l.length + 1) * 3 = i * 3 + 3 + (l.length - i) * 3 by omega, HRT.out, HCX.out]
        simp only [show (i + 1) * 3 = i * 3 + 3 by omega, List.length_drop, List.flatMap_cons, List.flatMap_nil, List.append_nil, List.length_singleton, Nat.one_mul, List.append_assoc] at h ⊢
        exact h
    · have hov := fun lb cb => lk_overlap w g vb cur x ((i + 1) * 3) lb cb hg (by omega) hvb hvg
      have hne1 : ¬ (c = i + 1) := by omega
      have hne2 : ¬ (c = i) := by omega
      clear hg hvb hdl ht hcs
      go_enter Try.func30, Try.ntmps30
      go_wp2_with (simp only [hov])
      have hc1 := lk_copy w.drew g ((i + 1) * 3) (l.length - i) (c - (i + 1)) ⟨g, i * 3, none⟩ (l.length + 1 - i) (c - i) cur (l.drop i) (by exact HG.out) (by rw [List.length_drop]; simp only [Nat.min_def]; split <;> omega) (fun j v hj => by rw [Addr.add_lit]; show w.cell? _ = _; rw [blk_cell HG.out]; exact HDC.out j v hj) (by rw [HCS.out, List.length_drop]; omega)
      obtain ⟨W1, hW1⟩ : ∃ W1, W1 = w.drew.setRow g (cur.toList.take ((i + 1) * 3) ++ (l.drop i).flatMap lk_cells ++ cur.toList.drop ((i + 1) * 3 + (l.drop i).length * 3)).toArray := ⟨_, rfl⟩
      rw [← hW1] at hc1
      have HW1 := Aside0.mk hW1
      clear hW1
      have hwi : wrap64 ((i : Int) + 1) = (i : Int) + 1 := wrap_add (by omega) (by omega)
      have hti : ((i : Int) + 1).toNat = i + 1 := by omega
      have hb1 : ((0 : Int) ≤ (i : Int) + 1) = True := eq_true (by omega)
      have hb2 : ((i : Int) + 1 ≤ (l.length : Int) + 1) = True := eq_true (by omega)
      have hb3 : ((i : Int) ≤ (l.length : Int) + 1) = True := eq_true (by omega)
      refine start_ (n := 9) (S := fun w' => True) (ds := [8]) #[false, false, false, false, false, false, false, false, false] (by kernel_rfl) rfl rfl trivial (fun hHeld => ?_)
      refine pure_ (i := 0) (N := some 69) (v := ?_) (a' := ?_) #[true, false, false, false, false, false, false, false, false] rfl rfl (by kernel_rfl) (fun _ _ _ h => h) (Or.inl ⟨by rfl, ?_⟩) ?_ ?_
      rotate_left
      · intro w'
        go_simp
        with_reducible rfl
      rotate_left
      · simp only [Act.put, List.setIfInBounds_toArray, List.set_cons_zero, List.set_cons_succ, i64_w, i32_w]
        rfl
      refine pure_ (i := 1) (N := some 70) (v := ?_) (a' := ?_) #[true, true, false, false, false, false, false, false, false] rfl rfl (by kernel_rfl) (fun _ _ _ h => h) (Or.inl ⟨by rfl, ?_⟩) ?_ ?_
      rotate_left
      · intro w'
        go_simp
        with_reducible rfl
      rotate_left
      · simp only [Act.put, List.setIfInBounds_toArray, List.set_cons_zero, List.set_cons_succ, i64_w, i32_w]
        rfl
      refine pure_ (i := 2) (N := some 71) (v := ?_) (a' := ?_) #[true, true, true, false, false, false, false, false, false] rfl rfl (by kernel_rfl) (fun _ _ _ h => h) (Or.inl ⟨by rfl, ?_⟩) ?_ ?_
      rotate_left
      · intro w'
        go_simp
        with_reducible rfl
      rotate_left
      · simp only [Act.put, List.setIfInBounds_toArray, List.set_cons_zero, List.set_cons_succ, i64_w, i32_w]
        rfl
      refine pure_ (i := 3) (N := some 72) (v := ?_) (a' := ?_) #[true, true, true, true, false, false, false, false, false] rfl rfl (by kernel_rfl) (fun _ _ _ h => h) (Or.inl ⟨by rfl, ?_⟩) ?_ ?_
      rotate_left
      · intro w'
        go_simp
        with_reducible rfl
      rotate_left
      · simp only [Act.put, List.setIfInBounds_toArray, List.set_cons_zero, List.set_cons_succ, i64_w, i32_w]
        rfl
      refine pure_ (i := 5) (N := some 74) (v := ?_) (a' := ?_) #[true, true, true, true, false, true, false, false, false] rfl rfl (by kernel_rfl) (fun _ _ _ h => h) (Or.inl ⟨by rfl, ?_⟩) ?_ ?_
      rotate_left
      · intro w'
        go_simp
        with_reducible rfl
      rotate_left
      · simp only [Act.put, List.setIfInBounds_toArray, List.set_cons_zero, List.set_cons_succ, i64_w, i32_w]
        rfl
      refine pure_ (i := 6) (N := some 75) (v := ?_) (a' := ?_) #[true, true, true, true, false, true, true, false, false] rfl rfl (by kernel_rfl) (fun _ _ _ h => h) (Or.inl ⟨by rfl, ?_⟩) ?_ ?_
      rotate_left
      · intro w'
        go_simp
        with_reducible rfl
      rotate_left
      · simp only [Act.put, List.setIfInBounds_toArray, List.set_cons_zero, List.set_cons_succ, i64_w, i32_w]
        rfl
      refine pure_ (i := 4) (N := some 73) (v := ?_) (a' := ?_) #[true, true, true, true, true, true, true, false, false] rfl rfl (by kernel_rfl) (fun _ _ _ h => h) (Or.inl ⟨by rfl, ?_⟩) ?_ ?_
      rotate_left
      · intro w'
        go_simp
        with_reducible rfl
      rotate_left
      · simp only [Act.put, List.setIfInBounds_toArray, List.set_cons_zero, List.set_cons_succ, i64_w, i32_w]
        rfl
      refine pure_ (i := 7) (N := some 76) (v := ?_) (a' := ?_) #[true, true, true, true, true, true, true, true, false] rfl rfl (by kernel_rfl) (fun _ _ _ h => h) (Or.inl ⟨by rfl, ?_⟩) ?_ ?_
      rotate_left
      · intro w'
        go_simp
        with_reducible rfl
      rotate_left
      · simp only [Act.put, List.setIfInBounds_toArray, List.set_cons_zero, List.set_cons_succ, i64_w, i32_w]
        rfl
      refine last_ (i := 8) (N := some 77) #[true, true, true, true, true, true, true, true, true] rfl rfl (by kernel_rfl) (by decide) (fun K hK => ?_)
      refine value_ (w1 := W1) (v := goInt (l.drop i).length) (by rfl) rfl ?_ ?_
      · simp [execOp, resolve, invoke, builtin, Act.eval, Act.put, hc1, Result.andThen]
      refine hK.out _ _ ?_
      clear hK K
      refine done_ (by kernel_rfl) ?_
      obtain ⟨cur1, hcur1⟩ : ∃ cur1 : Array Value, cur1 = (cur.toList.take ((i + 1) * 3) ++ (l.drop i).flatMap lk_cells ++ cur.toList.drop ((i + 1) * 3 + (l.drop i).length * 3)).toArray := ⟨_, rfl⟩
      have hw1 := HW1.out
      rw [← hcur1] at hw1
      have hg1 : W1.heap[g]? = some (.cells cur1 34 (0, 0)) := by rw [hw1]; exact setRow_heap w.drew g cur _ _ _ HG.out
      have hv1 : W1.heap[vb]? = some (.cells #[.string x.f0, .int .i64 x.f1, .bool x.f2] 34 (0, 0)) := by rw [hw1, setRow_other _ _ _ _ hvg]; exact HV.out
      have hb1 : Below w0.heap.size w0 W1 := by rw [hw1]; exact below_setRow (below_drew1 HB.out) hgb _
      have hs1 : cur1.size = c * 3 := by
        rw [hcur1, List.size_toArray, List.length_append, List.length_append, List.length_take, List.length_drop, lk_len, List.length_drop, Array.length_toList, HCS.out]; omega
      have hc2 := lk_copy W1 g (i * 3) (l.length + 1 - i) (c - i) ⟨vb, 0, none⟩ 1 1 cur1 [x] hg1 (by simp only [Nat.min_def, List.length_singleton]; split <;> omega) (fun j v hj => by rw [add_plain, blk_cell hv1 j]; simpa [lk_cells] using hj) (by rw [hs1, List.length_singleton]; omega)
      have HG1 := Aside0.mk hg1
      have HB1 := Aside0.mk hb1
      have HS1 := Aside0.mk hs1
      have HC1 := Aside0.mk hcur1
      clear hg1 hv1 hb1 hs1 hcur1 hw1 hc1 HW1
      go_wp2
      go_ret
      refine ⟨_, rfl, ?_, below_setRow HB1.out hgb _⟩
      refine lk_own_of hgb (setRow_heap W1 g cur1 _ _ _ HG1.out) HFL.out.symm (by omega) hcm ?_ ?_
      · simp only [List.size_toArray, List.length_append, List.length_take, List.length_drop, List.flatMap_cons, List.flatMap_nil, List.append_nil, Array.length_toList, show (lk_cells x).length = 3 from rfl, List.length_singleton, HS1.out]; omega
      · rw [HFF.out, List.toList_toArray, HC1.out, List.toList_toArray]
        have h := lk_shift cur.toList ((l.drop i).flatMap lk_cells) (lk_cells x) (i * 3) rfl (by rw [Array.length_toList, HCS.out]; omega)
        rw [lk_len, List.length_drop] at h
        rw [show (l.length + 1) * 3 = i * 3 + 3 + (l.length - i) * 3 by omega]
        simp only [show (i + 1) * 3 = i * 3 + 3 by omega, List.length_drop, List.flatMap_cons, List.flatMap_nil, List.append_nil, List.length_singleton, Nat.one_mul, List.append_assoc] at h ⊢
        exact h

/-! ### locks_Acquire_1: function 26, by hand -/
def lk_clash (key : ByteArray) (t : Int) (wr : Bool) (x : LkH) : Bool := (x.f0.toList == key.toList) && ((x.f1 != t) && (wr || x.f2))
theorem lk_acq_closure (b1 b2 b3 : Nat) (key : ByteArray) (t : Int) (wr : Bool) (x : LkH) (W : World) (h1 : W.cell? ⟨b1, 0, none⟩ = some (.string key)) (h2 : W.cell? ⟨b2, 0, none⟩ = some (.int .i64 t)) (h3 : W.cell? ⟨b3, 0, none⟩ = some (.bool wr)) :
    Calls Try.prog 26 (#[.agg #[.string x.f0, .int .i64 x.f1, .bool x.f2]] ++ #[.pointer (some ⟨b1, 0, none⟩), .pointer (some ⟨b2, 0, none⟩), .pointer (some ⟨b3, 0, none⟩)]) W fun e w' => e = .returned (.bool (lk_clash key t wr x)) ∧ Below W.heap.size W w' := by
  have z1 : b1 < W.heap.size := World.block_lt_of_cell? W _ h1
  have z2 : b2 < W.heap.size := World.block_lt_of_cell? W _ h2
  have z3 : b3 < W.heap.size := World.block_lt_of_cell? W _ h3
  obtain ⟨r, hr⟩ : ∃ r, r = lk_clash key t wr x := ⟨_, rfl⟩
  rw [← hr]
  unfold lk_clash at hr
  have HR := Aside0.mk hr
  clear hr
  go_enter Try.func26, Try.ntmps26
  by_cases e1 : x.f0.toList = key.toList
  · have e2 : (x.f0.toList == key.toList) = true := by simpa using e1
    rw [e2] at HR
    clear e1
    by_cases e3 : x.f1 = t
    · have e4 : (x.f1 != t) = false := by simpa using e3
      rw [e4] at HR
      clear e3
      go_wp2
      go_ret
      exact ⟨by rw [HR.out]; rfl, (Below.refl _ _).alloc (Nat.le_refl _) _⟩
    · have e4 : (x.f1 != t) = true := by simpa using e3
      rw [e4] at HR
      clear e3
      cases wr
      all_goals
        go_wp2
        go_ret
        exact ⟨by rw [HR.out]; simp, (Below.refl _ _).alloc (Nat.le_refl _) _⟩
  · have e2 : (x.f0.toList == key.toList) = false := by simpa using e1
    rw [e2] at HR
    clear e1
    go_wp2
    go_ret
    exact ⟨by rw [HR.out]; rfl, (Below.refl _ _).alloc (Nat.le_refl _) _⟩

/-! ### locks_Acquire: function 12, by hand -/
def lk_put (l : List LkH) (h : LkH) : List LkH × Int :=
  if (decide (lk_find (fun x => lk_ord x h) l < l.length) && decide (lk_ord (rd_T34 l (lk_find (fun x => lk_ord x h) l : Nat)) h = 0)) = true then
    (l.set (lk_find (fun x => lk_ord x h) l) ⟨(rd_T34 l (lk_find (fun x => lk_ord x h) l : Nat)).f0, (rd_T34 l (lk_find (fun x => lk_ord x h) l : Nat)).f1, (rd_T34 l (lk_find (fun x => lk_ord x h) l : Nat)).f2 || h.f2⟩, 0)
  else if 4096 ≤ l.length then ([], 51) else (l.take (lk_find (fun x => lk_ord x h) l) ++ h :: l.drop (lk_find (fun x => lk_ord x h) l), 0)
def lk_acquire (l : List LkH) (t : Int) (key : ByteArray) (wr : Bool) : List LkH × Int :=
  if lk_check l ≠ 0 then ([], lk_check l) else if lk_key key = false then ([], 91) else if lk_txn t = false then ([], 4) else if l.any (lk_clash key t wr) = true then ([], 191) else lk_put l ⟨key, t, wr⟩
def locks_Acquire.f (l : List LkH) (t : Int) (key : ByteArray) (wr : Bool) : Option (List LkH × Int) := some (lk_acquire l t key wr)
theorem lk_bs_le (c : LkH → Int) (l : List LkH) : ∀ (f i j : Nat), i ≤ j → lk_bs c l f i j ≤ j
  | 0, i, j, h => h
  | f + 1, i, j, h => by
    simp only [lk_bs]
    by_cases hij : i < j
    · rw [if_pos hij]
      split
      · exact lk_bs_le c l f _ j (by omega)
      · exact Nat.le_trans (lk_bs_le c l f i _ (by omega)) (by omega)
    · rw [if_neg hij]; exact h
theorem lk_find_le (c : LkH → Int) (l : List LkH) : lk_find c l ≤ l.length := lk_bs_le c l _ 0 _ (Nat.zero_le _)
structure lkSt (w W : World) (t : Int) (key : ByteArray) (wr : Bool) : Prop where
  below : Below w.heap.size w W
  b5 : W.heap[w.heap.size]? = some (.cells #[.int .i64 t] 3 (0, 0))
  b6 : W.heap[w.heap.size + 1]? = some (.cells #[.string key] 9 (0, 0))
  b7 : W.heap[w.heap.size + 2]? = some (.cells #[.bool wr] 4 (0, 0))
theorem lkSt.step {w W W' : World} {t : Int} {key : ByteArray} {wr : Bool} (h : lkSt w W t key wr) (hb : Below W.heap.size W W') : lkSt w W' t key wr :=
  ⟨below_step h.below hb, blk_below h.b5 hb, blk_below h.b6 hb, blk_below h.b7 hb⟩
theorem lkSt.cells {w W : World} {t : Int} {key : ByteArray} {wr : Bool} (h : lkSt w W t key wr) : W.cell? ⟨w.heap.size, 0, none⟩ = some (.int .i64 t) ∧ W.cell? ⟨w.heap.size + 1, 0, none⟩ = some (.string key) ∧ W.cell? ⟨w.heap.size + 2, 0, none⟩ = some (.bool wr) :=
  ⟨(blk_cell h.b5 0).trans rfl, (blk_cell h.b6 0).trans rfl, (blk_cell h.b7 0).trans rfl⟩
set_option maxHeartbeats 4000000 in
set_option maxRecDepth 100000 in
theorem locks_Acquire.calls (A0 : Option Addr) (c0 : Nat) (l0 : List LkH) (a1 : Int) (a2 : ByteArray) (a3 : Bool) (r1 : List LkH) (r2 : Int) (w : World) (hr0 : Kd.C k34 w A0 l0.length l0) (hc0 : l0.length ≤ c0) (h : locks_Acquire.f l0 a1 a2 a3 = some (r1, r2)) :
    Calls Try.prog 12 #[.slice A0 l0.length c0, .int .i64 a1, .string a2, .bool a3] w fun e w' => ∃ v0_ : Value, e = .returned (.tuple #[v0_, .int .i64 r2]) ∧ Kd.R k34 34 w' w.heap.size (fun _ => True) v0_ r1 ∧ Below w.heap.size w w' := by
  have h2 := Option.some.inj h
  unfold lk_acquire at h2
  have H := Aside0.mk h2
  have S0 : Aside0 (lkSt w (((w.alloc (.cells #[.int .i64 a1] 3)).alloc (.cells #[.string a2] 9)).alloc (.cells #[.bool a3] 4)) a1 a2 a3) := by
    refine ⟨⟨below_alloc (below_alloc (below_alloc (Below.refl _ _) _) _) _, blk_alloc (blk_alloc (blk_new w _) _) _, ?_, ?_⟩⟩
    · have := blk_new (w.alloc (.cells #[.int .i64 a1] 3)) (.cells #[.string a2] 9)
      rw [World.size_alloc] at this
      exact blk_alloc this _
    · have := blk_new ((w.alloc (.cells #[.int .i64 a1] 3)).alloc (.cells #[.string a2] 9)) (.cells #[.bool a3] 4)
      rw [World.size_alloc, World.size_alloc] at this
      exact this
  have C := Aside0.mk (locks_Check.calls A0 c0 l0 (lk_check l0) _ (Kd.C_below hr0 S0.out.below) hc0 rfl)
  have HR := Aside0.mk hr0
  have hmax := hr0.2.1
  have HLE := Aside0.mk (fun h => lk_check_len (l := l0) h)
  generalize lk_check l0 = ec at H C HLE
  clear h h2 hr0
  go_enter Try.func12, Try.ntmps12
  go_wp2_with fail
  refine C.out.mono ?_
  rintro e W1 ⟨rfl, hb1⟩
  have S1 := Aside0.mk (S0.out.step hb1)
  clear hb1 C S0
  by_cases he : ec = 0
  · subst he
    have hle := HLE.out rfl
    have h := H.out
    rw [if_neg (by decide)] at h
    have H2 := Aside0.mk h
    clear h H HLE
    obtain ⟨z5, z6, z7⟩ := S1.out.cells
    have T := Aside0.mk (locks_mayKey.calls a2 _ W1 (lk_key_f a2))
    go_wp2_with fail
    refine T.out.mono ?_
    rintro e W2 ⟨rfl, hd⟩
    have S2 := Aside0.mk (S1.out.step hd.below)
    clear hd S1 T z5 z6 z7
    generalize lk_key a2 = kb at H2 ⊢
    cases kb with
    | false =>
      have h := H2.out
      rw [if_pos rfl] at h
      cases h
      go_wp2
      go_ret2
      exact ⟨_, rfl, Kd.R_nil _ _ _ _ _, S2.out.below⟩
    | true =>
      have h := H2.out
      rw [if_neg (by simp)] at h
      have H3 := Aside0.mk h
      clear h H2
      obtain ⟨z5, z6, z7⟩ := S2.out.cells
      have T := Aside0.mk (locks_mayTxn.calls a1 _ W2 (lk_txn_f a1))
      go_wp2_with fail
      refine T.out.mono ?_
      rintro e W3 ⟨rfl, hd⟩
      have S3 := Aside0.mk (S2.out.step hd.below)
      clear hd S2 T z5 z6 z7
      generalize lk_txn a1 = tb at H3 ⊢
      cases tb with
      | false =>
        have h := H3.out
        rw [if_pos rfl] at h
        cases h
        go_wp2
        go_ret2
        exact ⟨_, rfl, Kd.R_nil _ _ _ _ _, S3.out.below⟩
      | true =>
        have h := H3.out
        rw [if_neg (by simp)] at h
        have H4 := Aside0.mk h
        clear h H3
        have CF := Aside0.mk (ContainsFunc_34 26 #[.pointer (some ⟨w.heap.size + 1, 0, none⟩), .pointer (some ⟨w.heap.size, 0, none⟩), .pointer (some ⟨w.heap.size + 2, 0, none⟩)] (lk_clash a2 a1 a3) A0 c0 l0 W3 (enters_of Try.func26 (by kernel_rfl) rfl) (Kd.C_below HR.out S3.out.below)
          (fun W x hW => lk_acq_closure _ _ _ a2 a1 a3 x W (S3.out.step hW).cells.2.1 (S3.out.step hW).cells.1 (S3.out.step hW).cells.2.2))
        go_wp2_with fail
        refine CF.out.mono ?_
        rintro e W4 ⟨rfl, hb⟩
        have S4 := Aside0.mk (S3.out.step hb)
        clear hb S3 CF
        generalize l0.any (lk_clash a2 a1 a3) = cb at H4 ⊢
        cases cb with
        | true =>
          have h := H4.out
          rw [if_pos rfl] at h
          cases h
          go_wp2
          go_ret2
          exact ⟨_, rfl, Kd.R_nil _ _ _ _ _, S4.out.below⟩
        | false =>
          have h := H4.out
          rw [if_neg (by simp)] at h
          have H5 := Aside0.mk h
          clear h H4
          have CL := Aside0.mk (locks_Hold_23.calls A0 c0 l0 l0 W4 (Kd.C_below HR.out S4.out.below) hc0 (by unfold locks_Hold_23.f; rw [if_pos (by omega)]))
          go_wp2_with fail
          refine CL.out.mono ?_
          rintro e W5 ⟨v, rfl, hv, hb⟩
          have S5 := Aside0.mk (S4.out.step hb)
          obtain ⟨A, c, rfl⟩ := Kd.R_slice hv
          have HV := Aside0.mk hv
          have HB5 := Aside0.mk hb
          have hnc := (Kd.R_reads' hv).2.1
          clear hb hv CL
          obtain ⟨z5, z6, z7⟩ := S5.out.cells
          have K13 := Aside0.mk (blk_new W5 (.cells #[.string a2, .int .i64 a1, .bool a3] 34))
          have B13 := Aside0.mk (below_alloc (Below.refl W5.heap.size W5) (.cells #[.string a2, .int .i64 a1, .bool a3] 34))
          have BS := Aside0.mk (BinarySearchFunc_lk 29 (fun x => lk_ord x ⟨a2, a1, a3⟩) ⟨a2, a1, a3⟩ A c l0 _ (enters_of Try.func29 (by kernel_rfl) rfl) (Kd.C_below (Kd.R_reads' HV.out).2.2 B13.out) hle (fun W x => locks_order.calls 5 x.f0 x.f1 x.f2 a2 a1 a3 _ W (lk_ord_f x ⟨a2, a1, a3⟩)))
          go_wp2_with fail
          refine BS.out.mono ?_
          rintro e W6 ⟨rfl, hb⟩
          have S6 := Aside0.mk (S5.out.step (below_step B13.out hb))
          have HV6 := Aside0.mk (Kd.R_below HV.out (below_step B13.out hb))
          have K6 := Aside0.mk (blk_below K13.out hb)
          have HB6 := Aside0.mk (below_step HB5.out (below_step B13.out hb))
          have hil := lk_find_le (fun x => lk_ord x ⟨a2, a1, a3⟩) l0
          clear hb BS K13 B13 HV HB5 S5 z5 z6 z7
          have h := H5.out
          unfold lk_put at h
          generalize lk_find (fun x => lk_ord x ⟨a2, a1, a3⟩) l0 = i at h hil ⊢
          generalize hbv : (decide (i < l0.length) && decide (lk_ord (rd_T34 l0 (i : Nat)) ⟨a2, a1, a3⟩ = 0)) = bv at h ⊢
          cases bv with
          | true =>
            rw [if_pos rfl] at h
            rw [Bool.and_eq_true, decide_eq_true_eq] at hbv
            have hlt := hbv.1
            clear hbv H5
            obtain ⟨g, cap, ev, hgb, hgl, _⟩ := Kd.R_form HV6.out (by omega)
            injection ev with ea eb ec
            subst ea ec
            clear eb
            obtain ⟨ce, hcl, hM, hcc, hfr⟩ := Kd.R_elem HV6.out z34 (i : Int) (by omega) (by omega)
            obtain rfl := k34_openM hM
            have y2 : W6.cell? ⟨g, i * 3 + 2, none⟩ = some (.bool (rd_T34 l0 (i : Nat)).f2) := hcc 2 _ rfl
            have f2 : W6.frozen? ⟨g, i * 3 + 2, none⟩ = false := hfr 2
            have HS := Aside0.mk (Kd.R_seg HV6.out (i : Int) (by omega) (by omega) (seg := [.bool ((rd_T34 l0 (i : Nat)).f2 || a3)]) (j := 2) hcl hcc (show 3 ≤ 3 from Nat.le_refl 3) (x' := ⟨(rd_T34 l0 (i : Nat)).f0, (rd_T34 l0 (i : Nat)).f1, (rd_T34 l0 (i : Nat)).f2 || a3⟩) (k34_mkM _ _ _ (⟨(rd_T34 l0 (i : Nat)).f0, (rd_T34 l0 (i : Nat)).f1, (rd_T34 l0 (i : Nat)).f2 || a3⟩ : LkH)) (fun _ hk => hk))
            obtain ⟨z5, z6, z7⟩ := S6.out.cells
            have HH := Aside0.mk h
            have HSZ := Aside0.mk S4.out.below.size
            have HBG := Aside0.mk hgb
            clear h hcc hM hfr hcl hgb z5 z6
            generalize rd_T34 l0 (i : Nat) = old at y2 HS HH
            obtain ⟨o0, o1, ob⟩ := old
            cases ob
            all_goals
              go_wp2
              go_ret2
              cases HH.out
              refine ⟨_, rfl, Kd.R_lower (by have h1 := HS.out.1; rw [Int.toNat_natCast] at h1; exact h1) HSZ.out, ?_⟩
              exact S6.out.below.trans ⟨HS.out.2.os, HS.out.2.tape, HS.out.2.output, HS.out.2.size, fun k hk => HS.out.2.block k (Nat.lt_of_lt_of_le hk S6.out.below.size) (by intro h; injection h with h; have := HSZ.out; have := HBG.out; omega)⟩
          | false =>
            rw [if_neg (by simp)] at h
            clear hbv H5
            by_cases h4 : 4096 ≤ l0.length
            · rw [if_pos h4] at h
              cases h
              have h5 : decide (4096 ≤ l0.length) = true := decide_eq_true h4
              go_wp2
              go_ret2
              exact ⟨_, rfl, Kd.R_nil _ _ _ _ _, S6.out.below⟩
            · rw [if_neg h4] at h
              have h5 : decide (4096 ≤ l0.length) = false := decide_eq_false h4
              have s0 : W6.cell? ⟨W5.heap.size, 0, none⟩ = some (.string a2) := (blk_cell K6.out 0).trans rfl
              have s1 : W6.cell? ⟨W5.heap.size, 1, none⟩ = some (.int .i64 a1) := (blk_cell K6.out 1).trans rfl
              have s2 : W6.cell? ⟨W5.heap.size, 2, none⟩ = some (.bool a3) := (blk_cell K6.out 2).trans rfl
              have HB7 := Aside0.mk (below_alloc HB6.out (.cells #[.string a2, .int .i64 a1, .bool a3] 34))
              have IN := Aside0.mk (Insert_lk (.slice A l0.length c) i ⟨a2, a1, a3⟩ W6.heap.size l0 W4 _ HB7.out (Kd.R_below HV6.out (below_alloc (Below.refl _ _) _)) hil hle (blk_new W6 _) (fun hk => Nat.lt_irrefl _ (own_lt (lk_own HV6.out) _ hk)))
              have HH := Aside0.mk h
              clear h
              go_wp2_with fail
              refine IN.out.mono ?_
              rintro e W8 ⟨u, rfl, hu, hb8⟩
              have HU := Aside0.mk hu
              have HB8 := Aside0.mk hb8
              clear hu hb8 IN s0 s1 s2
              go_wp2
              go_ret2
              cases HH.out
              exact ⟨_, rfl, Kd.R_lower HU.out S4.out.below.size, below_step S4.out.below HB8.out⟩
  · have h := H.out
    rw [if_pos he] at h
    have q1 : (ec == 0) = false := by simpa using he
    have q2 : (ec != 0) = true := by simpa using he
    have q3 := eq_false he
    clear H HLE he
    cases h
    go_wp2
    go_ret2
    exact ⟨_, rfl, Kd.R_nil _ _ _ _ _, S1.out.below⟩


/-! ### transeptlaw19_alive: function 8 -/
def transeptlaw19_alive.f  : Option (Bool) := (locks_Acquire.f ([] : List (S34)) 1 (⟨#[97]⟩ : ByteArray) false).bind fun bt112 => ((locks_Acquire.f bt112.1 2 (⟨#[97]⟩ : ByteArray) false).bind fun bt116 => ((locks_Acquire.f bt116.1 1 (⟨#[97]⟩ : ByteArray) true).bind fun bt120 => ((locks_Release.f bt116.1 2).bind fun bt124 => ((locks_Acquire.f bt124.1 1 (⟨#[97]⟩ : ByteArray) true).bind fun bt129 => ((transeptlaw19_num.f bt112.2).bind fun t133 => ((transeptlaw19_num.f bt116.2).bind fun t134 => ((transeptlaw19_num.f bt124.2.2).bind fun t135 => ((transeptlaw19_num.f bt129.2).bind fun t136 => (if (wrap64 ((wrap64 ((wrap64 (t133 + t134)) + t135)) + t136)) = 0 then ((transeptlaw19_num.f bt120.2).bind fun t137 => (if t137 = 191 then (some (bt124.2.1 == 1)) else (none))) else (none))))))))))
set_option maxHeartbeats 8000000 in
set_option maxRecDepth 100000 in
theorem transeptlaw19_alive.calls  (r : Bool) (w : World) (h : transeptlaw19_alive.f  = some r) :
    Calls Try.prog 8 #[] w fun e w' => e = .returned (.bool r) ∧ Below w.heap.size w w' := by
  have HB := Aside0.mk (Below.refl w.heap.size w)
  have H : ((locks_Acquire.f ([] : List (S34)) 1 (⟨#[97]⟩ : ByteArray) false).bind fun bt112 => ((locks_Acquire.f bt112.1 2 (⟨#[97]⟩ : ByteArray) false).bind fun bt116 => ((locks_Acquire.f bt116.1 1 (⟨#[97]⟩ : ByteArray) true).bind fun bt120 => ((locks_Release.f bt116.1 2).bind fun bt124 => ((locks_Acquire.f bt124.1 1 (⟨#[97]⟩ : ByteArray) true).bind fun bt129 => ((transeptlaw19_num.f bt112.2).bind fun t133 => ((transeptlaw19_num.f bt116.2).bind fun t134 => ((transeptlaw19_num.f bt124.2.2).bind fun t135 => ((transeptlaw19_num.f bt129.2).bind fun t136 => (if (wrap64 ((wrap64 ((wrap64 (t133 + t134)) + t135)) + t136)) = 0 then ((transeptlaw19_num.f bt120.2).bind fun t137 => (if t137 = 191 then (some (bt124.2.1 == 1)) else (none))) else (none))))))))))) = some r := h
  clear h
  replace H := Option.bind_eq_some_iff.mp H
  obtain ⟨⟨t112, t113⟩, A10, H⟩ := H
  replace H : ((locks_Acquire.f t112 2 (⟨#[97]⟩ : ByteArray) false).bind fun bt116 => ((locks_Acquire.f bt116.1 1 (⟨#[97]⟩ : ByteArray) true).bind fun bt120 => ((locks_Release.f bt116.1 2).bind fun bt124 => ((locks_Acquire.f bt124.1 1 (⟨#[97]⟩ : ByteArray) true).bind fun bt129 => ((transeptlaw19_num.f t113).bind fun t133 => ((transeptlaw19_num.f bt116.2).bind fun t134 => ((transeptlaw19_num.f bt124.2.2).bind fun t135 => ((transeptlaw19_num.f bt129.2).bind fun t136 => (if (wrap64 ((wrap64 ((wrap64 (t133 + t134)) + t135)) + t136)) = 0 then ((transeptlaw19_num.f bt120.2).bind fun t137 => (if t137 = 191 then (some (bt124.2.1 == 1)) else (none))) else (none)))))))))) = some r := H
  have A1 := Aside0.mk A10
  clear A10
  replace H := Option.bind_eq_some_iff.mp H
  obtain ⟨⟨t116, t117⟩, A20, H⟩ := H
  replace H : ((locks_Acquire.f t116 1 (⟨#[97]⟩ : ByteArray) true).bind fun bt120 => ((locks_Release.f t116 2).bind fun bt124 => ((locks_Acquire.f bt124.1 1 (⟨#[97]⟩ : ByteArray) true).bind fun bt129 => ((transeptlaw19_num.f t113).bind fun t133 => ((transeptlaw19_num.f t117).bind fun t134 => ((transeptlaw19_num.f bt124.2.2).bind fun t135 => ((transeptlaw19_num.f bt129.2).bind fun t136 => (if (wrap64 ((wrap64 ((wrap64 (t133 + t134)) + t135)) + t136)) = 0 then ((transeptlaw19_num.f bt120.2).bind fun t137 => (if t137 = 191 then (some (bt124.2.1 == 1)) else (none))) else (none))))))))) = some r := H
  have A2 := Aside0.mk A20
  clear A20
  replace H := Option.bind_eq_some_iff.mp H
  obtain ⟨⟨t120, t121⟩, A30, H⟩ := H
  replace H : ((locks_Release.f t116 2).bind fun bt124 => ((locks_Acquire.f bt124.1 1 (⟨#[97]⟩ : ByteArray) true).bind fun bt129 => ((transeptlaw19_num.f t113).bind fun t133 => ((transeptlaw19_num.f t117).bind fun t134 => ((transeptlaw19_num.f bt124.2.2).bind fun t135 => ((transeptlaw19_num.f bt129.2).bind fun t136 => (if (wrap64 ((wrap64 ((wrap64 (t133 + t134)) + t135)) + t136)) = 0 then ((transeptlaw19_num.f t121).bind fun t137 => (if t137 = 191 then (some (bt124.2.1 == 1)) else (none))) else (none)))))))) = some r := H
  have A3 := Aside0.mk A30
  clear A30
  replace H := Option.bind_eq_some_iff.mp H
  obtain ⟨⟨t124, t125, t126⟩, A40, H⟩ := H
  replace H : ((locks_Acquire.f t124 1 (⟨#[97]⟩ : ByteArray) true).bind fun bt129 => ((transeptlaw19_num.f t113).bind fun t133 => ((transeptlaw19_num.f t117).bind fun t134 => ((transeptlaw19_num.f t126).bind fun t135 => ((transeptlaw19_num.f bt129.2).bind fun t136 => (if (wrap64 ((wrap64 ((wrap64 (t133 + t134)) + t135)) + t136)) = 0 then ((transeptlaw19_num.f t121).bind fun t137 => (if t137 = 191 then (some (t125 == 1)) else (none))) else (none))))))) = some r := H
  have A4 := Aside0.mk A40
  clear A40
  replace H := Option.bind_eq_some_iff.mp H
  obtain ⟨⟨t129, t130⟩, A50, H⟩ := H
  replace H : ((transeptlaw19_num.f t113).bind fun t133 => ((transeptlaw19_num.f t117).bind fun t134 => ((transeptlaw19_num.f t126).bind fun t135 => ((transeptlaw19_num.f t130).bind fun t136 => (if (wrap64 ((wrap64 ((wrap64 (t133 + t134)) + t135)) + t136)) = 0 then ((transeptlaw19_num.f t121).bind fun t137 => (if t137 = 191 then (some (t125 == 1)) else (none))) else (none)))))) = some r := H
  have A5 := Aside0.mk A50
  clear A50
  replace H := Option.bind_eq_some_iff.mp H
  obtain ⟨t133, A60, H⟩ := H
  replace H : ((transeptlaw19_num.f t117).bind fun t134 => ((transeptlaw19_num.f t126).bind fun t135 => ((transeptlaw19_num.f t130).bind fun t136 => (if (wrap64 ((wrap64 ((wrap64 (t133 + t134)) + t135)) + t136)) = 0 then ((transeptlaw19_num.f t121).bind fun t137 => (if t137 = 191 then (some (t125 == 1)) else (none))) else (none))))) = some r := H
  have A6 := Aside0.mk A60
  clear A60
  replace H := Option.bind_eq_some_iff.mp H
  obtain ⟨t134, A70, H⟩ := H
  replace H : ((transeptlaw19_num.f t126).bind fun t135 => ((transeptlaw19_num.f t130).bind fun t136 => (if (wrap64 ((wrap64 ((wrap64 (t133 + t134)) + t135)) + t136)) = 0 then ((transeptlaw19_num.f t121).bind fun t137 => (if t137 = 191 then (some (t125 == 1)) else (none))) else (none)))) = some r := H
  have A7 := Aside0.mk A70
  clear A70
  replace H := Option.bind_eq_some_iff.mp H
  obtain ⟨t135, A80, H⟩ := H
  replace H : ((transeptlaw19_num.f t130).bind fun t136 => (if (wrap64 ((wrap64 ((wrap64 (t133 + t134)) + t135)) + t136)) = 0 then ((transeptlaw19_num.f t121).bind fun t137 => (if t137 = 191 then (some (t125 == 1)) else (none))) else (none))) = some r := H
  have A8 := Aside0.mk A80
  clear A80
  replace H := Option.bind_eq_some_iff.mp H
  obtain ⟨t136, A90, H⟩ := H
  replace H : (if (wrap64 ((wrap64 ((wrap64 (t133 + t134)) + t135)) + t136)) = 0 then ((transeptlaw19_num.f t121).bind fun t137 => (if t137 = 191 then (some (t125 == 1)) else (none))) else (none)) = some r := H
  have A9 := Aside0.mk A90
  clear A90
  by_cases c10 : (wrap64 ((wrap64 ((wrap64 (t133 + t134)) + t135)) + t136)) = 0
  · rw [if_pos c10] at H
    have c10b0 : ((wrap64 ((wrap64 ((wrap64 (t133 + t134)) + t135)) + t136)) == 0) = true := beq_iff_eq.mpr c10
    have c10b1 : ((wrap64 ((wrap64 ((wrap64 (t133 + t134)) + t135)) + t136)) != 0) = false := bne_eq_false_iff_eq.mpr c10
    clear c10
    replace H := Option.bind_eq_some_iff.mp H
    obtain ⟨t137, A110, H⟩ := H
    replace H : (if t137 = 191 then (some (t125 == 1)) else (none)) = some r := H
    have A11 := Aside0.mk A110
    clear A110
    by_cases c12 : t137 = 191
    · rw [if_pos c12] at H
      have c12b0 : (t137 == 191) = true := beq_iff_eq.mpr c12
      have c12b1 : (t137 != 191) = false := bne_eq_false_iff_eq.mpr c12
      clear c12
      obtain rfl := Option.some.inj H
      go_enter Try.func8, Try.ntmps8
      go_wp2_with (first | ((with_reducible refine gate_callee (f := 12) rfl ?_); refine goesL_ (some 11) rfl rfl Try.func12 (by kernel_rfl) rfl #[.slice none 0 0, .int .i64 1, .string (⟨#[97]⟩ : ByteArray), .bool false] rfl (by (try simp only [List.map_toArray, List.map_cons, List.map_nil]); first | done | rfl | (simp only [List.length_drop, List.length_take]; rfl)) ?_; (refine (locks_Acquire.calls _ _ ([] : List (S34)) 1 (⟨#[97]⟩ : ByteArray) false t112 t113 _ ?side1 ?side2 A1.out).mono ?_); (case side1 => exact Kd.C_nil _ _); (case side2 => exact Nat.le_refl _); rintro e w13 ⟨v114, rfl, ho0, hb⟩; refine ⟨_, rfl, ?_⟩; have n0_ := Aside0.mk (Kd.R_lower ho0 (below_size (by repeat (first | (with_reducible first | exact HB.out | apply below_alloc | apply pw_below_drewN | apply below_drew1) | exact HB.out)))); have n1_ := Aside0.mk (below_step (by repeat (first | (with_reducible first | exact HB.out | apply below_alloc | apply pw_below_drewN | apply below_drew1) | exact HB.out)) hb); clear HB; have HO115 := n0_; have HB := n1_; clear n0_ n1_; (try clear hb); (try clear hb2); (try clear hk); (try clear hi); (try clear ho0); obtain ⟨Ao14, co14, eo14⟩ := Kd.R_slice HO115.out; subst eo14) | ((with_reducible refine gate_callee (f := 12) rfl ?_); refine goesL_ (some 16) rfl rfl Try.func12 (by kernel_rfl) rfl #[.slice Ao14 t112.length co14, .int .i64 2, .string (⟨#[97]⟩ : ByteArray), .bool false] rfl (by (try simp only [List.map_toArray, List.map_cons, List.map_nil]); first | done | rfl | (simp only [List.length_drop, List.length_take]; rfl)) ?_; (with_reducible refine (locks_Acquire.calls _ _ t112 2 (⟨#[97]⟩ : ByteArray) false t116 t117 _ ?side1 ?side2 A2.out).mono ?_); (case side1 => repeat (first | exact (Kd.R_reads' HO115.out).2.2 | (with_reducible refine Kd.C_alloc ?_ _) | (with_reducible refine Kd.C_drewN ?_ _) | (with_reducible refine Kd.C_drew ?_))); (case side2 => exact (Kd.R_reads' HO115.out).2.1); rintro e w15 ⟨v118, rfl, ho0, hb⟩; refine ⟨_, rfl, ?_⟩; have n0_ := Aside0.mk (Kd.R_elder' (by (with_reducible repeat (first | apply Kd.R_alloc | apply Kd.R_drewN | apply Kd.R_drew)); exact HO115.out) (Kd.R_base ho0) hb); have n1_ := Aside0.mk (Kd.R_lower (Kd.R_new' ho0 (Kd.R_lt (by (with_reducible repeat (first | apply Kd.R_alloc | apply Kd.R_drewN | apply Kd.R_drew)); exact HO115.out))) (below_size (by repeat (first | (with_reducible first | exact HB.out | apply below_alloc | apply pw_below_drewN | apply below_drew1) | exact HB.out)))); have n2_ := Aside0.mk (below_step (by repeat (first | (with_reducible first | exact HB.out | apply below_alloc | apply pw_below_drewN | apply below_drew1) | exact HB.out)) hb); clear HO115; clear HB; have HO115 := n0_; have HO119 := n1_; have HB := n2_; clear n0_ n1_ n2_; (try clear hb); (try clear hb2); (try clear hk); (try clear hi); (try clear ho0); obtain ⟨Ao16, co16, eo16⟩ := Kd.R_slice HO119.out; subst eo16) | ((with_reducible refine gate_callee (f := 12) rfl ?_); refine goesL_ (some 21) rfl rfl Try.func12 (by kernel_rfl) rfl #[.slice Ao16 t116.length co16, .int .i64 1, .string (⟨#[97]⟩ : ByteArray), .bool true] rfl (by (try simp only [List.map_toArray, List.map_cons, List.map_nil]); first | done | rfl | (simp only [List.length_drop, List.length_take]; rfl)) ?_; (with_reducible refine (locks_Acquire.calls _ _ t116 1 (⟨#[97]⟩ : ByteArray) true t120 t121 _ ?side1 ?side2 A3.out).mono ?_); (case side1 => repeat (first | exact (Kd.R_reads' HO119.out).2.2 | (with_reducible refine Kd.C_alloc ?_ _) | (with_reducible refine Kd.C_drewN ?_ _) | (with_reducible refine Kd.C_drew ?_))); (case side2 => exact (Kd.R_reads' HO119.out).2.1); rintro e w17 ⟨v122, rfl, ho0, hb⟩; refine ⟨_, rfl, ?_⟩; have n0_ := Aside0.mk (Kd.R_elder' (by (with_reducible repeat (first | apply Kd.R_alloc | apply Kd.R_drewN | apply Kd.R_drew)); exact HO115.out) (Kd.R_base ho0) hb); have n1_ := Aside0.mk (Kd.R_elder' (by (with_reducible repeat (first | apply Kd.R_alloc | apply Kd.R_drewN | apply Kd.R_drew)); exact HO119.out) (Kd.R_base ho0) hb); have n2_ := Aside0.mk (Kd.R_lower (Kd.R_new' (Kd.R_new' ho0 (Kd.R_lt (by (with_reducible repeat (first | apply Kd.R_alloc | apply Kd.R_drewN | apply Kd.R_drew)); exact HO115.out))) (Kd.R_lt (by (with_reducible repeat (first | apply Kd.R_alloc | apply Kd.R_drewN | apply Kd.R_drew)); exact HO119.out))) (below_size (by repeat (first | (with_reducible first | exact HB.out | apply below_alloc | apply pw_below_drewN | apply below_drew1) | exact HB.out)))); have n3_ := Aside0.mk (below_step (by repeat (first | (with_reducible first | exact HB.out | apply below_alloc | apply pw_below_drewN | apply below_drew1) | exact HB.out)) hb); clear HO115; clear HO119; clear HB; have HO115 := n0_; have HO119 := n1_; have HO123 := n2_; have HB := n3_; clear n0_ n1_ n2_ n3_; (try clear hb); (try clear hb2); (try clear hk); (try clear hi); (try clear ho0)) | ((with_reducible refine gate_callee (f := 10) rfl ?_); refine goesL_ (some 26) rfl rfl Try.func10 (by kernel_rfl) rfl #[.slice Ao16 t116.length co16, .int .i64 2] rfl (by (try simp only [List.map_toArray, List.map_cons, List.map_nil]); first | done | rfl | (simp only [List.length_drop, List.length_take]; rfl)) ?_; (with_reducible refine (locks_Release.calls _ _ t116 2 t124 t125 t126 _ ?side1 ?side2 A4.out).mono ?_); (case side1 => repeat (first | exact (Kd.R_reads' HO119.out).2.2 | (with_reducible refine Kd.C_alloc ?_ _) | (with_reducible refine Kd.C_drewN ?_ _) | (with_reducible refine Kd.C_drew ?_))); (case side2 => exact (Kd.R_reads' HO119.out).2.1); rintro e w18 ⟨v127, rfl, ho0, hb⟩; refine ⟨_, rfl, ?_⟩; have n0_ := Aside0.mk (Kd.R_elder' (by (with_reducible repeat (first | apply Kd.R_alloc | apply Kd.R_drewN | apply Kd.R_drew)); exact HO115.out) (Kd.R_base ho0) hb); have n1_ := Aside0.mk (Kd.R_elder' (by (with_reducible repeat (first | apply Kd.R_alloc | apply Kd.R_drewN | apply Kd.R_drew)); exact HO119.out) (Kd.R_base ho0) hb); have n2_ := Aside0.mk (Kd.R_elder' (by (with_reducible repeat (first | apply Kd.R_alloc | apply Kd.R_drewN | apply Kd.R_drew)); exact HO123.out) (Kd.R_base ho0) hb); have n3_ := Aside0.mk (Kd.R_lower (Kd.R_new' (Kd.R_new' (Kd.R_new' ho0 (Kd.R_lt (by (with_reducible repeat (first | apply Kd.R_alloc | apply Kd.R_drewN | apply Kd.R_drew)); exact HO115.out))) (Kd.R_lt (by (with_reducible repeat (first | apply Kd.R_alloc | apply Kd.R_drewN | apply Kd.R_drew)); exact HO119.out))) (Kd.R_lt (by (with_reducible repeat (first | apply Kd.R_alloc | apply Kd.R_drewN | apply Kd.R_drew)); exact HO123.out))) (below_size (by repeat (first | (with_reducible first | exact HB.out | apply below_alloc | apply pw_below_drewN | apply below_drew1) | exact HB.out)))); have n4_ := Aside0.mk (below_step (by repeat (first | (with_reducible first | exact HB.out | apply below_alloc | apply pw_below_drewN | apply below_drew1) | exact HB.out)) hb); clear HO115; clear HO119; clear HO123; clear HB; have HO115 := n0_; have HO119 := n1_; have HO123 := n2_; have HO128 := n3_; have HB := n4_; clear n0_ n1_ n2_ n3_ n4_; (try clear hb); (try clear hb2); (try clear hk); (try clear hi); (try clear ho0); obtain ⟨Ao19, co19, eo19⟩ := Kd.R_slice HO128.out; subst eo19) | ((with_reducible refine gate_callee (f := 12) rfl ?_); refine goesL_ (some 32) rfl rfl Try.func12 (by kernel_rfl) rfl #[.slice Ao19 t124.length co19, .int .i64 1, .string (⟨#[97]⟩ : ByteArray), .bool true] rfl (by (try simp only [List.map_toArray, List.map_cons, List.map_nil]); first | done | rfl | (simp only [List.length_drop, List.length_take]; rfl)) ?_; (with_reducible refine (locks_Acquire.calls _ _ t124 1 (⟨#[97]⟩ : ByteArray) true t129 t130 _ ?side1 ?side2 A5.out).mono ?_); (case side1 => repeat (first | exact (Kd.R_reads' HO128.out).2.2 | (with_reducible refine Kd.C_alloc ?_ _) | (with_reducible refine Kd.C_drewN ?_ _) | (with_reducible refine Kd.C_drew ?_))); (case side2 => exact (Kd.R_reads' HO128.out).2.1); rintro e w20 ⟨v131, rfl, ho0, hb⟩; refine ⟨_, rfl, ?_⟩; have n0_ := Aside0.mk (Kd.R_elder' (by (with_reducible repeat (first | apply Kd.R_alloc | apply Kd.R_drewN | apply Kd.R_drew)); exact HO115.out) (Kd.R_base ho0) hb); have n1_ := Aside0.mk (Kd.R_elder' (by (with_reducible repeat (first | apply Kd.R_alloc | apply Kd.R_drewN | apply Kd.R_drew)); exact HO119.out) (Kd.R_base ho0) hb); have n2_ := Aside0.mk (Kd.R_elder' (by (with_reducible repeat (first | apply Kd.R_alloc | apply Kd.R_drewN | apply Kd.R_drew)); exact HO123.out) (Kd.R_base ho0) hb); have n3_ := Aside0.mk (Kd.R_elder' (by (with_reducible repeat (first | apply Kd.R_alloc | apply Kd.R_drewN | apply Kd.R_drew)); exact HO128.out) (Kd.R_base ho0) hb); have n4_ := Aside0.mk (Kd.R_lower (Kd.R_new' (Kd.R_new' (Kd.R_new' (Kd.R_new' ho0 (Kd.R_lt (by (with_reducible repeat (first | apply Kd.R_alloc | apply Kd.R_drewN | apply Kd.R_drew)); exact HO115.out))) (Kd.R_lt (by (with_reducible repeat (first | apply Kd.R_alloc | apply Kd.R_drewN | apply Kd.R_drew)); exact HO119.out))) (Kd.R_lt (by (with_reducible repeat (first | apply Kd.R_alloc | apply Kd.R_drewN | apply Kd.R_drew)); exact HO123.out))) (Kd.R_lt (by (with_reducible repeat (first | apply Kd.R_alloc | apply Kd.R_drewN | apply Kd.R_drew)); exact HO128.out))) (below_size (by repeat (first | (with_reducible first | exact HB.out | apply below_alloc | apply pw_below_drewN | apply below_drew1) | exact HB.out)))); have n5_ := Aside0.mk (below_step (by repeat (first | (with_reducible first | exact HB.out | apply below_alloc | apply pw_below_drewN | apply below_drew1) | exact HB.out)) hb); clear HO115; clear HO119; clear HO123; clear HO128; clear HB; have HO115 := n0_; have HO119 := n1_; have HO123 := n2_; have HO128 := n3_; have HO132 := n4_; have HB := n5_; clear n0_ n1_ n2_ n3_ n4_ n5_; (try clear hb); (try clear hb2); (try clear hk); (try clear hi); (try clear ho0)) | ((with_reducible refine gate_callee (f := 11) rfl ?_); refine goesL_ (some 36) rfl rfl Try.func11 (by kernel_rfl) rfl #[.int .i64 t113] rfl (by (try simp only [List.map_toArray, List.map_cons, List.map_nil]); first | done | rfl | (simp only [List.length_drop, List.length_take]; rfl)) ?_; (with_reducible refine (transeptlaw19_num.calls t113 t133 _ A6.out).mono ?_); rintro e w' ⟨rfl, ⟨nd, rfl⟩⟩; refine ⟨_, rfl, ?_⟩) | ((with_reducible refine gate_callee (f := 11) rfl ?_); refine goesL_ (some 38) rfl rfl Try.func11 (by kernel_rfl) rfl #[.int .i64 t117] rfl (by (try simp only [List.map_toArray, List.map_cons, List.map_nil]); first | done | rfl | (simp only [List.length_drop, List.length_take]; rfl)) ?_; (with_reducible refine (transeptlaw19_num.calls t117 t134 _ A7.out).mono ?_); rintro e w' ⟨rfl, ⟨nd, rfl⟩⟩; refine ⟨_, rfl, ?_⟩) | ((with_reducible refine gate_callee (f := 11) rfl ?_); refine goesL_ (some 41) rfl rfl Try.func11 (by kernel_rfl) rfl #[.int .i64 t126] rfl (by (try simp only [List.map_toArray, List.map_cons, List.map_nil]); first | done | rfl | (simp only [List.length_drop, List.length_take]; rfl)) ?_; (with_reducible refine (transeptlaw19_num.calls t126 t135 _ A8.out).mono ?_); rintro e w' ⟨rfl, ⟨nd, rfl⟩⟩; refine ⟨_, rfl, ?_⟩) | ((with_reducible refine gate_callee (f := 11) rfl ?_); refine goesL_ (some 44) rfl rfl Try.func11 (by kernel_rfl) rfl #[.int .i64 t130] rfl (by (try simp only [List.map_toArray, List.map_cons, List.map_nil]); first | done | rfl | (simp only [List.length_drop, List.length_take]; rfl)) ?_; (with_reducible refine (transeptlaw19_num.calls t130 t136 _ A9.out).mono ?_); rintro e w' ⟨rfl, ⟨nd, rfl⟩⟩; refine ⟨_, rfl, ?_⟩) | (go_at_call 11; (with_reducible refine (transeptlaw19_num.calls t121 t137 _ A11.out).mono ?_); rintro e w' ⟨rfl, ⟨nd, rfl⟩⟩))
      go_ret
      exact ⟨by first | rfl | (simp [errW_none, errW_some] <;> rfl) | (simp [*, errW_none, errW_some] <;> rfl), by repeat (first | (with_reducible first | exact HB.out | apply below_alloc | apply pw_below_drewN | apply below_drew1) | exact HB.out)⟩
    · rw [if_neg c12] at H
      exact absurd H (by simp)
  · rw [if_neg c10] at H
    exact absurd H (by simp)

/-! ### transeptlaw19_Of: function 9 -/
def transeptlaw19_Of.l0 : Nat → List (S56) → List (S34) → Int → Option ((List (S34)))
  | 0, _, _, _ => none
  | k + 1, x0, x3, x4 => if x4 < (x0.length : Int) then (if 0 ≤ x4 then (if x3.length < 4398046511104 then (transeptlaw19_Of.l0 k x0 (x3 ++ [(⟨(rd_T56 x0 x4).f0, (rd_T56 x0 x4).f1, (rd_T56 x0 x4).f2⟩ : S34)]) (wrap64 (x4 + 1))) else (none)) else (none)) else (some x3)
def transeptlaw19_Of.f (k : Nat) (l0 : List (S56)) : Option ((List (S34))) := transeptlaw19_Of.l0 k l0 ([] : List (S34)) 0
theorem transeptlaw19_Of.mono_l : ∀ k, (∀ y0 y1 y2, LeO (transeptlaw19_Of.l0 k y0 y1 y2) (transeptlaw19_Of.l0 (k + 1) y0 y1 y2))
  | 0 => fun _ _ _ r h => by simp [transeptlaw19_Of.l0] at h
  | k + 1 => by
    have ih0 := transeptlaw19_Of.mono_l k
    · intro y0 y1 y2
      unfold transeptlaw19_Of.l0
      repeat' first
      | (with_reducible exact ih0 _ _ _)
      | (with_reducible exact LeO.refl _)
      | (with_reducible exact LeO.none _)
      | (with_reducible refine LeO.ite ?_ ?_)
      | (with_reducible refine LeO.bind ?_ (fun _ => ?_))
      | exact ih0 _ _ _
      | exact LeO.none _
      | refine LeO.ite ?_ ?_
      | refine LeO.bind ?_ (fun _ => ?_)
theorem transeptlaw19_Of.mono : ∀ a0 k, LeO (transeptlaw19_Of.f k a0) (transeptlaw19_Of.f (k + 1) a0) := by
  intro a0 k
  have ih0 := transeptlaw19_Of.mono_l k
  unfold transeptlaw19_Of.f
  repeat' first
      | (with_reducible exact ih0 _ _ _)
      | (with_reducible exact LeO.refl _)
      | (with_reducible exact LeO.none _)
      | (with_reducible refine LeO.ite ?_ ?_)
      | (with_reducible refine LeO.bind ?_ (fun _ => ?_))
      | exact ih0 _ _ _
      | exact LeO.none _
      | refine LeO.ite ?_ ?_
      | refine LeO.bind ?_ (fun _ => ?_)
set_option maxHeartbeats 8000000 in
set_option maxRecDepth 100000 in
theorem transeptlaw19_Of.calls (k : Nat) (A0 : Option Addr) (c0 : Nat) (l0 : List (S56)) (r : List (S34)) (w : World) (hr0 : Kd.C k56 w A0 l0.length l0) (hc0 : l0.length ≤ c0) (h : transeptlaw19_Of.f k l0 = some r) :
    Calls Try.prog 9 #[.slice A0 l0.length c0] w fun e w' => ∃ v0_ : Value, e = .returned (v0_) ∧ Kd.R k34 34 w' w.heap.size (fun _ => True) v0_ r ∧ Below w.heap.size w w' := by
  have hu56 := Try.underlying56
  have HR0 := Aside0.mk hr0
  have HC0 := Aside0.mk hc0
  clear hr0 hc0
  have HB := Aside0.mk (Below.refl w.heap.size w)
  have H : (transeptlaw19_Of.l0 k l0 ([] : List (S34)) 0) = some r := h
  clear h
  have H' := Aside0.mk H
  clear H
  go_enter Try.func9, Try.ntmps9
  go_wp2
  go_loopg [3, 4] k (fun kq v3 v4 w' => ∃ (x3_1 : List (S34)) (x4_1 : Int), v4 = .int .i64 x4_1 ∧ Aside0 (transeptlaw19_Of.l0 kq l0 x3_1 x4_1 = some r) ∧ Aside0 (kq ≤ k) ∧ Aside0 (Kd.R k34 34 w' w.heap.size (fun _ => True) v3 x3_1) ∧ Aside0 (Below w.heap.size w w'))
  case atStart => exact ⟨(([] : List (S34))), (0), (by first | rfl | (simp; done) | (simp [*]; done)), H', ⟨Nat.le_refl _⟩, ⟨by first | exact Kd.R_nil _ _ _ _ _ | exact Kd.N_nil _ _ _ _ _ | exact Kd.V_nil _ _ _ _ _ | exact Kd.Q_nil _ _ _ _ _ | exact Kd.S_nil _ _ _ _ _⟩, ⟨by repeat (first | (with_reducible first | exact HB.out | apply below_alloc | apply pw_below_drewN | apply below_drew1) | exact HB.out)⟩⟩
  case round =>
    clear H'
    obtain ⟨x3_1, x4_1, rfl, HA, HK1, HO_3, HB⟩ := hrel
    cases gk with
    | zero => exact absurd HA.out (by simp [transeptlaw19_Of.l0])
    | succ k1 =>
      have H := HA.out
      clear HA
      simp only [transeptlaw19_Of.l0] at H
      by_cases c2 : x4_1 < (l0.length : Int)
      · rw [if_pos c2] at H
        have c2b0 : decide (x4_1 < (l0.length : Int)) = true := decide_eq_true c2
        clear c2
        by_cases c3 : 0 ≤ x4_1
        · rw [if_pos c3] at H
          have c3b0 : decide (0 ≤ x4_1) = true := decide_eq_true c3
          clear c3
          by_cases c4 : x3_1.length < 4398046511104
          · rw [if_pos c4] at H
            have LMc4 := Aside0.mk c4
            clear c4
            obtain ⟨y139, hy139⟩ : ∃ y_ : List (S34), y_ = (x3_1 ++ [(⟨(rd_T56 l0 x4_1).f0, (rd_T56 l0 x4_1).f1, (rd_T56 l0 x4_1).f2⟩ : S34)]) := ⟨_, rfl⟩
            replace H : (transeptlaw19_Of.l0 k1 l0 y139 (wrap64 (x4_1 + 1))) = some r := by first | (rw [hy139]; with_reducible exact H) | (have H2_ := (Option.bind_some _ _).symm.trans H; rw [hy139]; with_reducible exact H2_) | (have H2_ := (Option.bind_some _ _).symm.trans H; with_reducible exact H2_) | with_reducible exact H | (rw [hy139]; exact H) | exact H
            have Ny139 := Aside0.mk hy139
            clear hy139
            have H' := Aside0.mk H
            clear H
            have p138 : 0 ≤ (x4_1 : Int) := of_decide_eq_true (by first | (with_reducible assumption) | assumption)
            have q138 : x4_1 < (l0.length : Int) := of_decide_eq_true (by first | (with_reducible assumption) | assumption)
            obtain ⟨ad138, e138, hx138_0, hx138_1, hx138_2⟩ := at_T56 HR0.out x4_1 p138 q138
            cases e138
            replace hx138_0 := (HB.out.cell (World.block_lt_of_cell? w _ hx138_0)).trans hx138_0
            replace hx138_1 := (HB.out.cell (World.block_lt_of_cell? w _ hx138_1)).trans hx138_1
            replace hx138_2 := (HB.out.cell (World.block_lt_of_cell? w _ hx138_2)).trans hx138_2
            replace p138 := eq_true p138
            replace q138 := eq_true q138
            go_wp2_with (first | ((with_reducible refine gate_builtin (b := .append) (xs := #[.tmp 11, .tmp 16]) rfl ?_); at_builtin; refine Kd.R_append k34 (w0 := w) w.heap.size rfl (.tmp 11) (.tmp 16) 25 34 (.agg #[(.string ⟨#[]⟩), (.int .i64 0), (.bool false)]) 32 rfl Try.underlying25 info34 rfl (by decide) (by omega) u3 x3_1 (⟨(rd_T56 l0 x4_1).f0, (rd_T56 l0 x4_1).f1, (rd_T56 l0 x4_1).f2⟩ : S34) [.string ((rd_T56 l0 x4_1).f0), .int .i64 ((rd_T56 l0 x4_1).f1), .bool ((rd_T56 l0 x4_1).f2)] (fun _ => True) (fun _ => False) rfl rfl ?aP (fun _ hk => hk.elim) ?aF ?aO ?aB ?aS ?aL ?_; (case aP => exact k34_mkM _ _ _ (⟨(rd_T56 l0 x4_1).f0, (rd_T56 l0 x4_1).f1, (rd_T56 l0 x4_1).f2⟩ : S34)); (case aB => exact (by repeat (first | (with_reducible first | exact HB.out | apply below_alloc | apply pw_below_drewN | apply below_drew1) | exact HB.out))); (case aF => exact (fun _ _ => trivial)); (case aO => exact (by (with_reducible repeat (first | apply Kd.R_alloc | apply Kd.R_drewN | apply Kd.R_drew)); exact HO_3.out)); (case aS => exact (below_size (by repeat (first | (with_reducible first | exact HB.out | apply below_alloc | apply pw_below_drewN | apply below_drew1) | exact HB.out)))); (case aL => have := LMc4.out; omega); intro v140 w5 ho hb hg hat; rw [← Ny139.out] at ho; have n0_ := Aside0.mk (hb); have n1_ := Aside0.mk (ho); clear HB; clear HO_3; have HB := n0_; have HO141 := n1_; clear n0_ n1_; clear ho hb hg hat))
            go_roundg k1
            case measure => have := HK1.out; omega
            case rel => exact ⟨(y139), (wrap64 (x4_1 + 1)), (by first | rfl | (simp; done) | (simp [*]; done)), H', ⟨by have := HK1.out; omega⟩, ⟨by (with_reducible repeat (first | apply Kd.R_alloc | apply Kd.R_drewN | apply Kd.R_drew)); exact HO141.out⟩, ⟨by repeat (first | (with_reducible first | exact HB.out | apply below_alloc | apply pw_below_drewN | apply below_drew1) | exact HB.out)⟩⟩
          · rw [if_neg c4] at H
            exact absurd H (by simp)
        · rw [if_neg c3] at H
          exact absurd H (by simp)
      · rw [if_neg c2] at H
        have c2b0 : decide (x4_1 < (l0.length : Int)) = false := decide_eq_false c2
        clear c2
        obtain rfl := Option.some.inj H
        go_wp2
        go_ret
        exact ⟨_, by first | rfl | (simp [errW_none, errW_some] <;> rfl) | (simp [*, errW_none, errW_some] <;> rfl), by (with_reducible repeat (first | apply Kd.R_alloc | apply Kd.R_drewN | apply Kd.R_drew)); exact HO_3.out, by repeat (first | (with_reducible first | exact HB.out | apply below_alloc | apply pw_below_drewN | apply below_drew1) | exact HB.out)⟩

end Go.Proofs.Ytgbdajlfbmijgaa.Print
