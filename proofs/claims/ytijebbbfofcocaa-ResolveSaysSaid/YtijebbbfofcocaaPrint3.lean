/- Written by pp.py, a program of this project that runs the kit's print over the translation, with functions proved by hand put in. Lean checks it. -/
import Derived.Test.YtijebbbfofcocaaPrint0
import Derived.Test.YtijebbbfofcocaaPrint2
namespace Go.Proofs.Ytijebbbfofcocaa.Print
open Go.RowKit Go.Proofs.YtijebbbfofcocaaW.PrintWords Go.Proofs.YtijebbbfofcocaaW.PrintLast Go.Proofs.YtijebbbfofcocaaW.PrintMore
attribute [local go_sem] max2_int min2_int max_two min_two max_three min_three max_four min_four   -- for this text's walks alone
set_option linter.unusedVariables false
set_option linter.unusedSimpArgs false

/-! ### resolve_Verdict: function 5, by hand -/
def resolve_may (v : S36) : Bool := decide (0 ≤ v.f0 ∧ v.f0 < 4) && (if v.f1 = true then decide (1 ≤ v.f2 ∧ v.f2 ≤ 3) else decide (v.f2 = 0))
theorem resolve_may_f (v : S36) : resolve_View_may.f 1 v.f0 v.f1 v.f2 = some (resolve_may v) := by
  unfold resolve_View_may.f resolve_may
  simp only [resolve_View_may.j0]
  by_cases h0 : v.f0 < 0
  · have : ¬ (0 ≤ v.f0 ∧ v.f0 < 4) := by omega
    simp [h0, this]
  · by_cases h4 : v.f0 ≥ 4
    · have : ¬ (0 ≤ v.f0 ∧ v.f0 < 4) := by omega
      simp [h0, h4, this]
    · have : (0 ≤ v.f0 ∧ v.f0 < 4) := by omega
      cases h1 : v.f1
      · simp [h0, h4, this, Bool.beq_eq_decide_eq]
      · by_cases h5 : v.f2 ≥ 1 <;> simp [h0, h4, this, h5]
def resolve_ph (l : List S36) (p : Int) : Bool := l.any fun v => v.f2 == p
def resolve_twice (l : List S36) : Bool := !decide (l.map (·.f0)).Nodup
def resolve_cnt (l : List S36) (s : Int) : Int := (l.filter fun v => v.f0 == s).length
def resolve_verd (home : Bool) (verdict : Int) (l : List S36) : Int × Bool × Int :=
  if home = true ∧ verdict ≠ 1 ∧ verdict ≠ 2 then (0, false, 1)
  else if l.length > 4 then (0, false, 3)
  else if l.any (fun v => !resolve_may v) = true then (0, false, 4)
  else if resolve_twice l = true then (0, false, 6)
  else if (resolve_ph l 2 && resolve_ph l 3 || home && verdict == 1 && resolve_ph l 3 || home && verdict == 2 && resolve_ph l 2) = true then (0, false, 9)
  else if home = true then (verdict, true, 0)
  else if resolve_ph l 2 = true then (1, true, 0)
  else (0, false, 0)
def resolve_Verdict.f (home : Bool) (verdict : Int) (l : List S36) : Option (Int × Bool × Int) := some (resolve_verd home verdict l)

theorem resolve_may_world (s : Int) (k : Bool) (p : Int) (w : World) :
    Calls Try.prog 9 #[.agg #[.int .i64 s, .bool k, .int .i64 p]] w fun e w' => e = .returned (.bool (resolve_may ⟨s, k, p⟩)) ∧ w' = w.alloc (.cells #[.int .i64 s, .bool k, .int .i64 p] 36) := by
  by_cases h0 : s < 0
  · have hr : resolve_may ⟨s, k, p⟩ = false := by unfold resolve_may; simp; omega
    rw [hr]
    clear hr
    go_enter Try.func9, Try.ntmps9
    go_wp2
    go_ret
    exact ⟨rfl, rfl⟩
  · by_cases h4 : 4 ≤ s
    · have hr : resolve_may ⟨s, k, p⟩ = false := by unfold resolve_may; simp; omega
      rw [hr]
      clear hr
      go_enter Try.func9, Try.ntmps9
      go_wp2
      go_ret
      exact ⟨rfl, rfl⟩
    · have hr : resolve_may ⟨s, k, p⟩ = (if k then decide (1 ≤ p ∧ p ≤ 3) else decide (p = 0)) := by unfold resolve_may; simp; omega
      rw [hr]
      clear hr
      cases k
      · go_enter Try.func9, Try.ntmps9
        go_wp2
        go_ret
        exact ⟨by rfl, rfl⟩
      · by_cases h1 : 1 ≤ p
        · go_enter Try.func9, Try.ntmps9
          go_wp2
          go_ret
          exact ⟨by simp, rfl⟩
        · go_enter Try.func9, Try.ntmps9
          go_wp2
          go_ret
          exact ⟨by simp; omega, rfl⟩
theorem resolve_ph_snoc (l : List S36) (v : S36) (p : Int) : resolve_ph (l ++ [v]) p = (resolve_ph l p || v.f2 == p) := by simp [resolve_ph]
theorem resolve_ph_set (l : List S36) (v : S36) (h0 : 0 ≤ v.f2) (h3 : v.f2 ≤ 3) :
    (#[.bool (resolve_ph l 0), .bool (resolve_ph l 1), .bool (resolve_ph l 2), .bool (resolve_ph l 3)] : Array Value).setIfInBounds v.f2.toNat (.bool true) = #[.bool (resolve_ph (l ++ [v]) 0), .bool (resolve_ph (l ++ [v]) 1), .bool (resolve_ph (l ++ [v]) 2), .bool (resolve_ph (l ++ [v]) 3)] := by
  simp only [resolve_ph_snoc]
  have : v.f2 = 0 ∨ v.f2 = 1 ∨ v.f2 = 2 ∨ v.f2 = 3 := by omega
  rcases this with h | h | h | h <;> rw [h] <;> simp
theorem resolve_cnt_snoc (l : List S36) (v : S36) (s : Int) : resolve_cnt (l ++ [v]) s = resolve_cnt l s + if v.f0 = s then 1 else 0 := by
  unfold resolve_cnt
  rw [List.filter_append]
  by_cases h : v.f0 = s <;> simp [h]
theorem resolve_cnt_get (l : List S36) (s : Int) (h0 : 0 ≤ s) (h3 : s < 4) :
    (#[.int .i64 (resolve_cnt l 0), .int .i64 (resolve_cnt l 1), .int .i64 (resolve_cnt l 2), .int .i64 (resolve_cnt l 3)] : Array Value)[s.toNat]? = some (.int .i64 (resolve_cnt l s)) := by
  have : s = 0 ∨ s = 1 ∨ s = 2 ∨ s = 3 := by omega
  rcases this with h | h | h | h <;> rw [h] <;> rfl
theorem resolve_ph_get (l : List S36) (s : Int) (h0 : 0 ≤ s) (h3 : s < 4) :
    (#[.bool (resolve_ph l 0), .bool (resolve_ph l 1), .bool (resolve_ph l 2), .bool (resolve_ph l 3)] : Array Value)[s.toNat]? = some (.bool (resolve_ph l s)) := by
  have : s = 0 ∨ s = 1 ∨ s = 2 ∨ s = 3 := by omega
  rcases this with h | h | h | h <;> rw [h] <;> rfl
theorem resolve_cnt_set (l : List S36) (v : S36) (h0 : 0 ≤ v.f0) (h3 : v.f0 < 4) :
    (#[.int .i64 (resolve_cnt l 0), .int .i64 (resolve_cnt l 1), .int .i64 (resolve_cnt l 2), .int .i64 (resolve_cnt l 3)] : Array Value).setIfInBounds v.f0.toNat (.int .i64 (resolve_cnt l v.f0 + 1)) = #[.int .i64 (resolve_cnt (l ++ [v]) 0), .int .i64 (resolve_cnt (l ++ [v]) 1), .int .i64 (resolve_cnt (l ++ [v]) 2), .int .i64 (resolve_cnt (l ++ [v]) 3)] := by
  simp only [resolve_cnt_snoc]
  have : v.f0 = 0 ∨ v.f0 = 1 ∨ v.f0 = 2 ∨ v.f0 = 3 := by omega
  rcases this with h | h | h | h <;> rw [h] <;> simp
theorem resolve_cnt_pos (l : List S36) (s : Int) : 0 ≤ resolve_cnt l s ∧ resolve_cnt l s ≤ l.length := by
  unfold resolve_cnt
  have := List.length_filter_le (fun v : S36 => v.f0 == s) l
  omega
theorem resolve_twice_snoc (l : List S36) (v : S36) : resolve_twice (l ++ [v]) = (resolve_twice l || decide (1 < resolve_cnt l v.f0 + 1)) := by
  unfold resolve_twice resolve_cnt
  rw [List.map_append, Bool.eq_iff_iff]
  simp only [Bool.not_eq_true', decide_eq_false_iff_not, Bool.or_eq_true, decide_eq_true_eq, List.map_cons, List.map_nil]
  have h1 : (1 : Int) < (l.filter fun u => u.f0 == v.f0).length + 1 ↔ v.f0 ∈ l.map (·.f0) := by
    rw [show ((1 : Int) < (l.filter fun u => u.f0 == v.f0).length + 1) ↔ 0 < (l.filter fun u => u.f0 == v.f0).length by omega, List.length_pos_iff_exists_mem]
    simp [List.mem_filter]
  rw [h1, List.nodup_append]
  simp
  by_cases h : (l.map (·.f0)).Nodup <;> simp [h]
theorem resolve_take_snoc (l : List S36) (k : Nat) (h : k < l.length) : l.take (k + 1) = l.take k ++ [rd_T36 l k] := by
  rw [List.take_succ_eq_append_getElem h]
  simp [rd_T36, List.getD_eq_getElem?_getD, List.getElem?_eq_getElem h]
set_option maxHeartbeats 1000000 in
set_option maxRecDepth 100000 in
theorem resolve_Verdict.calls (a0 : Bool) (a1 : Int) (A2 : Option Addr) (c2 : Nat) (l2 : List S36) (r1 : Int) (r2 : Bool) (r3 : Int) (w : World) (hr2 : Kd.C k36 w A2 l2.length l2) (hc2 : l2.length ≤ c2) (h : resolve_Verdict.f a0 a1 l2 = some (r1, r2, r3)) :
    Calls Try.prog 5 #[.bool a0, .int .i64 a1, .slice A2 l2.length c2] w fun e w' => e = .returned (.tuple #[.int .i64 r1, .bool r2, .int .i64 r3]) ∧ Below w.heap.size w w' := by
  have H := Aside0.mk (Option.some.inj h)
  clear h
  have HR := Aside0.mk hr2
  clear hr2
  by_cases g1 : a0 = true ∧ a1 ≠ 1 ∧ a1 ≠ 2
  · have e1 := H.out
    unfold resolve_verd at e1
    rw [if_pos g1] at e1
    simp only [Prod.mk.injEq] at e1
    obtain ⟨rfl, rfl, rfl⟩ := e1
    obtain ⟨rfl, h1, h2⟩ := g1
    have h1' : (a1 != 1) = true := bne_iff_ne.2 h1
    have h2' : (a1 != 2) = true := bne_iff_ne.2 h2
    go_enter Try.func5, Try.ntmps5
    go_wp2
    go_ret3
    exact ⟨rfl, Below.refl _ _⟩
  · by_cases g2 : l2.length > 4
    · have e1 := H.out
      unfold resolve_verd at e1
      rw [if_neg g1, if_pos g2] at e1
      simp only [Prod.mk.injEq] at e1
      obtain ⟨rfl, rfl, rfl⟩ := e1
      clear H
      go_enter Try.func5, Try.ntmps5
      by_cases z0 : a0 = true
      · subst z0
        by_cases z1 : a1 = 1
        · subst z1
          go_wp2
          go_ret3
          exact ⟨rfl, Below.refl _ _⟩
        · have z2 : a1 = 2 := by simp at g1; exact g1 z1
          subst z2
          go_wp2
          go_ret3
          exact ⟨rfl, Below.refl _ _⟩
      · have z0' : a0 = false := by simpa using z0
        subst z0'
        go_wp2
        go_ret3
        exact ⟨rfl, Below.refl _ _⟩
    · have hlen : l2.length ≤ 4 := by omega
      clear g2
      go_enter Try.func5, Try.ntmps5
      have three : (a0 = true ∧ a1 = 1) ∨ (a0 = true ∧ a1 = 2) ∨ a0 = false := by
        cases a0
        · exact .inr (.inr rfl)
        · by_cases z1 : a1 = 1
          · exact .inl ⟨rfl, z1⟩
          · simp at g1; exact .inr (.inl ⟨rfl, g1 z1⟩)
      clear g1
      rcases three with ⟨rfl, rfl⟩ | ⟨rfl, rfl⟩ | rfl
      all_goals
        go_wp2
        go_loopw [11, 30] (fun tw i wr => ∃ k : Nat, k ≤ l2.length ∧ i = .int .i64 k ∧ tw = .bool (resolve_twice (l2.take k)) ∧ Aside0 ((l2.take k).any (fun v => !resolve_may v) = false) ∧ Aside0 (Below w.heap.size w wr) ∧ w.heap.size + 2 ≤ wr.heap.size ∧
          Aside0 (wr.heap[w.heap.size]? = some (.cells #[.bool (resolve_ph (l2.take k) 0), .bool (resolve_ph (l2.take k) 1), .bool (resolve_ph (l2.take k) 2), .bool (resolve_ph (l2.take k) 3)] 42 (0, 0))) ∧
          Aside0 (wr.heap[w.heap.size + 1]? = some (.cells #[.int .i64 (resolve_cnt (l2.take k) 0), .int .i64 (resolve_cnt (l2.take k) 1), .int .i64 (resolve_cnt (l2.take k) 2), .int .i64 (resolve_cnt (l2.take k) 3)] 43 (0, 0)))) (fun _ i _ => l2.length - (intOf i).toNat)
        case atStart =>
          exact ⟨0, Nat.zero_le _, rfl, rfl, ⟨rfl⟩, ⟨((Below.refl _ _).alloc (Nat.le_refl _) _).alloc (by simp) _⟩, by simp, ⟨blk_alloc (heap_alloc_new _ _) _⟩, ⟨by simpa [resolve_cnt] using heap_alloc_new (w.alloc _) _⟩⟩
        case round =>
          obtain ⟨k, hk, rfl, rfl, HM, HB, hsz, HP, HS⟩ := hrel
          by_cases hlt : k < l2.length
          · obtain ⟨ad, rfl, x0, x1, x2⟩ := at_T36 HR.out k (by omega) (by omega)
            rw [Int.toNat_natCast] at x0 x1 x2
            generalize hv : rd_T36 l2 k = v at x0 x1 x2
            have HV := Aside0.mk hv
            clear hv
            replace x0 := (HB.out.cell (World.block_lt_of_cell? w _ x0)).trans x0
            replace x1 := (HB.out.cell (World.block_lt_of_cell? w _ x1)).trans x1
            replace x2 := (HB.out.cell (World.block_lt_of_cell? w _ x2)).trans x2
            have ts := resolve_take_snoc l2 k hlt
            rw [HV.out] at ts
            have TS := Aside0.mk ts
            clear ts
            have hmay := resolve_may_world v.f0 v.f1 v.f2
            by_cases hm : resolve_may v = true
            · have hb := hm
              unfold resolve_may at hb
              simp only [Bool.and_eq_true, decide_eq_true_eq] at hb
              obtain ⟨⟨b0, b1⟩, b2⟩ := hb
              have b3 : 0 ≤ v.f2 := by split at b2 <;> simp at b2 <;> omega
              have b4 : v.f2 < 4 := by split at b2 <;> simp at b2 <;> omega
              clear b2
              have HM1 := Aside0.mk hm
              clear hm
              have p0 := (blk_cell HP.out v.f2.toNat).trans (resolve_ph_get _ _ b3 b4)
              have p1 := blk_frozen HP.out v.f2.toNat
              have s0 := (blk_cell HS.out v.f0.toNat).trans (resolve_cnt_get _ _ b0 b1)
              have s1 := blk_frozen HS.out v.f0.toNat
              have cp := resolve_cnt_pos (l2.take k) v.f0
              have cl : (l2.take k).length ≤ 4 := by rw [List.length_take]; omega
              have z0 : w.heap.size < wr.heap.size := by omega
              have z1 : w.heap.size + 1 < wr.heap.size := by omega
              have z2 : w.heap.size < wr.heap.size + 1 := by omega
              have z3 : (w.heap.size = wr.heap.size) = False := by simp; omega
              have z4 : (wr.heap.size = w.heap.size) = False := by simp; omega
              have z5 : (w.heap.size + 1 = wr.heap.size) = False := by simp; omega
              have z6 : (wr.heap.size = w.heap.size + 1) = False := by simp; omega
              generalize hc : resolve_cnt (l2.take k) v.f0 = c at s0 cp
              have HC := Aside0.mk hc
              clear hc
              go_wp2_with (go_at_call 9; refine (hmay _).mono ?_; rintro e w' ⟨rfl, rfl⟩; rw [show resolve_may ⟨v.f0, v.f1, v.f2⟩ = true from HM1.out])
              all_goals
                go_roundw
                case rel =>
                  have hc := HC.out
                  subst hc
                  refine ⟨k + 1, by omega, by go_num, ?_, ⟨?_⟩, ⟨?_⟩, ?_, ⟨?_⟩, ⟨?_⟩⟩
                  · rw [TS.out, resolve_twice_snoc]; first | rfl | simp [*]
                  · rw [TS.out, List.any_append, HM.out]; simp [HM1.out]
                  · exact (((HB.out.setCell (by simp) _).setCell (by simp) _).alloc (by simp; omega) _).alloc (by simp; omega) _
                  · simp; omega
                  · rw [TS.out]; exact blk_alloc (blk_alloc (blk_far (blk_put HP.out v.f2.toNat _ (resolve_ph_set _ _ b3 (by omega))) (by simp) _) _) _
                  · rw [TS.out]; exact blk_alloc (blk_alloc (blk_put (blk_far HS.out (by simp) _) _ _ (resolve_cnt_set _ _ b0 b1)) _) _
                case measure => simp [intOf]; omega
            · have hm' : resolve_may v = false := by simpa using hm
              clear hm
              have hbad : l2.any (fun v => !resolve_may v) = true := by
                refine List.any_eq_true.2 ⟨v, ?_, by simp [hm']⟩
                have : v ∈ l2.take (k + 1) := by rw [TS.out]; simp
                exact List.mem_of_mem_take this
              have e1 := H.out
              unfold resolve_verd at e1
              simp [hbad, show ¬ (4 < l2.length) by omega] at e1
              obtain ⟨rfl, rfl, rfl⟩ := e1
              have HM1 := Aside0.mk hm'
              clear hbad hm'
              go_wp2_with (go_at_call 9; refine (hmay _).mono ?_; rintro e w' ⟨rfl, rfl⟩; rw [show resolve_may ⟨v.f0, v.f1, v.f2⟩ = false from HM1.out])
              go_ret3
              exact ⟨rfl, (HB.out.alloc (by omega) _).alloc (by simp; omega) _⟩
          · obtain rfl : k = l2.length := by omega
            clear hlt
            rw [List.take_length] at HM HP HS
            have p2 : wr.cell? ⟨w.heap.size, 2, none⟩ = some (.bool (resolve_ph l2 2)) := (blk_cell HP.out 2).trans rfl
            have p3 : wr.cell? ⟨w.heap.size, 3, none⟩ = some (.bool (resolve_ph l2 3)) := (blk_cell HP.out 3).trans rfl
            rw [List.take_length]
            have e1 := H.out
            unfold resolve_verd at e1
            simp only [show ¬ (l2.length > 4) by omega, HM.out, if_false, Bool.false_eq_true] at e1
            generalize resolve_ph l2 2 = f2 at p2 e1
            generalize resolve_ph l2 3 = f3 at p3 e1
            generalize resolve_twice l2 = ft at e1
            clear H HR
            cases ft <;> cases f2 <;> cases f3 <;> simp at e1 <;> obtain ⟨rfl, rfl, rfl⟩ := e1
            all_goals
              go_wp2
              go_quiet (fail)
              go_wp2
              go_ret3
              exact ⟨rfl, by repeat (first | exact HB.out | apply below_drew1 | apply pw_below_drewN)⟩


end Go.Proofs.Ytijebbbfofcocaa.Print
