/- In whatever order all nodes declare 2, some of them again: then, and not ahead of it, the upgrade can be activated: UpgradeOrder answers true at every input.
   No condition. -/
import Derived.Test.YtdlmmgehjhpmoaaUpgradeLib
namespace Go.Proofs.Ytdlmmgehjhpmoaa.Pure
open Go.RowKit Go.Proofs.YtdlmmgehjhpmoaaW.PrintWords Go.Proofs.YtdlmmgehjhpmoaaW.PrintLast Go.Proofs.Ytdlmmgehjhpmoaa.Print

/-- The nodes' versions, by who has declared 2. -/
def vers (seen : List Bool) : List Int := seen.map fun b => if b then 2 else 1
def open_ (seen : List Bool) : Int := (seen.filter fun b => !b).length
theorem vers_good (seen : List Bool) : good (vers seen) = true := by
  simp only [good, vers, List.all_map, List.all_eq_true]
  intro b _
  cases b <;> rfl
theorem vers_all (seen : List Bool) : all2 (vers seen) = decide (open_ seen = 0) := by
  unfold all2 vers open_
  induction seen with
  | nil => rfl
  | cons b l ih =>
    simp only [List.map_cons, List.all_cons, ih]
    cases b
    · simp; omega
    · simp
theorem vers_len (seen : List Bool) : (vers seen).length = seen.length := by simp [vers]
theorem vers_check (seen : List Bool) (h1 : 1 ≤ seen.length) (h2 : seen.length ≤ 9) : up_check (vers seen) false = 0 :=
  (up_check_zero _ _).2 ⟨by rw [vers_len]; exact h1, by rw [vers_len]; exact h2, vers_good seen, by simp⟩
theorem vers_rd (seen : List Bool) (a : Int) (h0 : 0 ≤ a) (h1 : a < seen.length) : rd (vers seen) a = if rdOf false seen a = true then 2 else 1 := by
  obtain ⟨i, rfl⟩ := Int.eq_ofNat_of_zero_le h0
  have hi : i < seen.length := by omega
  simp [rd, rdOf, vers, List.getD_eq_getElem?_getD, List.getElem?_eq_getElem hi]
theorem vers_set (seen : List Bool) (a : Int) (h0 : 0 ≤ a) (h1 : a < seen.length) : (vers seen).set a.toNat 2 = vers (seen.set a.toNat true) := by
  simp [vers, List.map_set]
theorem set_same (seen : List Bool) (a : Int) (h0 : 0 ≤ a) (h1 : a < seen.length) (h : rdOf false seen a = true) : seen.set a.toNat true = seen := by
  obtain ⟨i, rfl⟩ := Int.eq_ofNat_of_zero_le h0
  have hi : i < seen.length := by omega
  simp [rdOf, List.getD_eq_getElem?_getD, List.getElem?_eq_getElem hi] at h
  simp only [Int.toNat_natCast]
  conv => lhs; rw [← h]
  exact List.set_getElem_self hi
theorem open_set (seen : List Bool) (i : Nat) (hi : i < seen.length) (h : seen[i] = false) : open_ (seen.set i true) = open_ seen - 1 := by
  induction seen generalizing i with
  | nil => simp at hi
  | cons b l ih =>
    cases i with
    | zero =>
      simp at h
      subst h
      simp [open_]
    | succ i =>
      simp at hi h
      have := ih i hi h
      simp only [List.set_cons_succ]
      unfold open_ at this ⊢
      cases b
      · simp at this ⊢; omega
      · simpa using this
theorem open_pos (seen : List Bool) : 0 ≤ open_ seen ∧ open_ seen ≤ seen.length := by
  unfold open_
  have := List.length_filter_le (fun b : Bool => !b) seen
  omega

theorem tmod_in (x n : Int) (hn : 0 < n) (hn2 : n ≤ 9) (hx : -9223372036854775808 ≤ x) (hx2 : x ≤ 9223372036854775807) : 0 ≤ Int.tmod (wrap64 (Int.tmod x n + n)) n ∧ Int.tmod (wrap64 (Int.tmod x n + n)) n < n := by
  have h1 : -n < Int.tmod x n := Int.lt_tmod_of_pos x hn
  have h2 : Int.tmod x n < n := Int.tmod_lt_of_pos x hn
  rw [wrap_add (by omega) (by omega)]
  exact ⟨Int.tmod_nonneg n (by omega), Int.tmod_lt_of_pos _ hn⟩

theorem order_l0 (n : Nat) (hn1 : 1 ≤ n) (hn2 : n ≤ 9) (l : List Int) (hl : l.length * 8 ≤ 140737488351232) (hw : ∀ x ∈ l, (Lit.int .i64 x).wf = true) (d : Nat) : ∀ (k i : Nat) (seen : List Bool), seen.length = n → i ≤ l.length + n → l.length + n - i = d → 4 * d + 100 < k →
    transeptlaw23_UpgradeOrder.l0 k (n : Int) l (open_ seen) seen (i : Int) (vers seen) false = some true := by
  induction d with
  | zero =>
    intro k i seen h1 h2 h3 h4
    obtain ⟨k, rfl⟩ : ∃ m, k = m + 1 + 1 := ⟨k - 2, by omega⟩
    have w1 : wrap64 ((l.length : Int) + (n : Int)) = ((l.length + n : Nat) : Int) := by rw [wrap_add (by omega) (by omega)]; omega
    simp only [transeptlaw23_UpgradeOrder.l0]
    rw [w1, if_neg (by omega)]
    simp [transeptlaw23_UpgradeOrder.j1]
  | succ d ih =>
    intro k i seen h1 h2 h3 h4
    obtain ⟨k, rfl⟩ : ∃ m, k = m + 1 + 1 + 1 + 1 := ⟨k - 4, by omega⟩
    have w1 : wrap64 ((l.length : Int) + (n : Int)) = ((l.length + n : Nat) : Int) := by rw [wrap_add (by omega) (by omega)]; omega
    simp only [transeptlaw23_UpgradeOrder.l0]
    rw [w1, if_pos (by omega)]
    simp only [transeptlaw23_UpgradeOrder.j1]
    by_cases h100 : (i : Int) < 100
    · rw [if_pos (by simpa using h100), if_neg (by omega)]
      have key : ∀ q : Int, 0 ≤ q → q < n → transeptlaw23_UpgradeOrder.j2 (k + 1 + 1) (n : Int) l (open_ seen) seen (i : Int) q (vers seen) false = some true := by
        intro q q0 q1
        have hc := vers_check seen (by omega) (by omega)
        have ha : activ (vers seen) false = if open_ seen = 0 then (vers seen, true, 0) else ([], false, 131) := by
          unfold activ
          rw [if_neg (not_not_intro hc), vers_all]
          by_cases h : open_ seen = 0 <;> simp [h]
        have hd : decl (vers seen) false q 2 = (vers (seen.set q.toNat true), false, 0) := by
          unfold decl
          rw [if_neg (not_not_intro hc), if_neg (not_not_intro ⟨q0, by rw [vers_len]; omega⟩), vers_rd seen q q0 (by omega), if_neg, vers_set seen q q0 (by omega)]
          split <;> omega
        have hc2 := vers_check (seen.set q.toNat true) (by simp; omega) (by simp; omega)
        have hd2 : decl (vers (seen.set q.toNat true)) false q 1 = ([], false, 131) := by
          unfold decl
          rw [if_neg (not_not_intro hc2), if_neg (not_not_intro ⟨q0, by rw [vers_len]; simp; omega⟩), vers_rd _ q q0 (by simp; omega), if_pos]
          left
          have : rdOf false (seen.set q.toNat true) q = true := by
            obtain ⟨j, rfl⟩ := Int.eq_ofNat_of_zero_le q0
            have hj : j < seen.length := by omega
            simp [rdOf, List.getD_eq_getElem?_getD, List.getElem?_set_self hj]
          rw [if_pos this]
          omega
        simp only [transeptlaw23_UpgradeOrder.j2]
        rw [activate_f, ha]
        have hb : ((((if open_ seen = 0 then (vers seen, true, 0) else ([], false, 131)) : List Int × Bool × Int).2.2 == 0) != (open_ seen == 0)) = false := by
          by_cases h : open_ seen = 0 <;> simp [h]
        simp only [Option.bind_some, transeptlaw23_num.f]
        rw [if_neg (by rw [hb]; simp), declare_f _ _ _ _ _ (by omega), hd]
        simp only [Option.bind_some]
        rw [declare_f _ _ _ _ _ (by omega), hd2]
        simp only [Option.bind_some, if_true]
        simp only [transeptlaw23_UpgradeOrder.j3]
        rw [if_neg (by simp), if_pos q0, if_pos (by omega), wrap_next (n := l.length + n) (by omega) (by omega)]
        by_cases hs : rdOf false seen q = true
        · rw [if_pos hs, set_same seen q q0 (by omega) hs]
          exact ih k (i + 1) seen h1 (by omega) (by omega) (by omega)
        · rw [if_neg hs]
          have hq : q.toNat < seen.length := by omega
          have hs2 : seen[q.toNat] = false := by
            simp only [rdOf, List.getD_eq_getElem?_getD, List.getElem?_eq_getElem hq] at hs
            simpa using hs
          have ho := open_set seen q.toNat hq hs2
          have hp := open_pos seen
          rw [wrap_add (by omega) (by omega), ← ho]
          exact ih k (i + 1) _ (by simpa using h1) (by omega) (by omega) (by omega)
      by_cases hi : i < l.length
      · rw [if_pos (by omega), if_pos (by omega)]
        have hm : l[i] ∈ l := List.getElem_mem hi
        have hb := hw _ hm
        have hb2 := wf64 hb
        rw [rd_at l i hi]
        have := tmod_in l[i] n (by omega) (by omega) hb2.1 hb2.2
        exact key _ this.1 this.2
      · rw [if_neg (by omega)]
        exact key _ (Int.tmod_nonneg _ (by omega)) (Int.tmod_lt_of_pos _ (by omega))
    · rw [if_neg (by simpa using h100)]

theorem UpgradeOrder : transeptlaw23_UpgradeOrder.Pure := by
  intro a l ha hl
  have hb2 := wf64 ha
  have ht := tmod_in a 9 (by omega) (by omega) hb2.1 hb2.2
  refine ⟨4 * l.length + 1000, ?_⟩
  unfold transeptlaw23_UpgradeOrder.f
  rw [at_rounds transeptlaw23_alive.mono (show 100 ≤ 4 * l.length + 1000 by omega) alive_f]
  simp only [Option.bind_some, if_true]
  rw [wrap_add (i := 1 + _) (by omega) (by omega)]
  obtain ⟨n, hn⟩ := Int.eq_ofNat_of_zero_le (show 0 ≤ 1 + Int.tmod (wrap64 (Int.tmod a 9 + 9)) 9 by omega)
  rw [hn]
  have h1 : 1 ≤ n := by omega
  have h9 : n ≤ 9 := by omega
  have hnew : upgrade_New.f (n : Int) = some (vers (List.replicate n false), false, 0) := by
    unfold upgrade_New.f slices_Repeat_int_int.f
    rw [if_neg (by omega), if_neg (by omega), if_pos ⟨rfl, by omega, by omega⟩]
    simp [vers]
  rw [hnew]
  simp only [Option.bind_some, transeptlaw23_num.f, if_true]
  rw [if_pos (by omega), if_pos (by omega)]
  have ho : open_ (List.replicate n false) = (n : Int) := by simp [open_]
  have := order_l0 n h1 h9 l hl.1 hl.2 (l.length + n) (4 * l.length + 1000) 0 (List.replicate n false) (by simp) (by omega) (by omega) (by omega)
  rw [ho] at this
  exact this
end Go.Proofs.Ytdlmmgehjhpmoaa.Pure
