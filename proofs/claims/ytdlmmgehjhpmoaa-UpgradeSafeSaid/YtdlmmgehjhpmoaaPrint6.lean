/- Written by pp.py, a program of this project that runs the kit's print over the translation, with functions proved by hand put in. Lean checks it. -/
import Derived.Test.YtdlmmgehjhpmoaaPrint0
import Derived.Test.YtdlmmgehjhpmoaaPrint1
import Derived.Test.YtdlmmgehjhpmoaaPrint2
import Derived.Test.YtdlmmgehjhpmoaaPrint5
namespace Go.Proofs.Ytdlmmgehjhpmoaa.Print
open Go.RowKit Go.Proofs.YtdlmmgehjhpmoaaW.PrintWords Go.Proofs.YtdlmmgehjhpmoaaW.PrintLast Go.Proofs.YtdlmmgehjhpmoaaW.PrintMore
attribute [local go_sem] max2_int min2_int max_two min_two max_three min_three max_four min_four   -- for this text's walks alone
set_option linter.unusedVariables false
set_option linter.unusedSimpArgs false

/-! ### transeptlaw23_UpgradeSafe: function 6 -/
mutual
def transeptlaw23_UpgradeSafe.l0 : Nat → Int → List (S56) → Int → Int → Int → Int → Int → List (S77) → List Int → Bool → Option (Bool)
  | 0, _, _, _, _, _, _, _, _, _, _ => none
  | k + 1, x0, x1, x9, x188000, x188001, x188002, x188003, x188004, x195000, x195001 => if x9 < (x1.length : Int) then (transeptlaw23_UpgradeSafe.j1 k x0 x1 x9 (decide (x9 < 60)) x188000 x188001 x188002 x188003 x188004 x195000 x195001) else (transeptlaw23_UpgradeSafe.j1 k x0 x1 x9 false x188000 x188001 x188002 x188003 x188004 x195000 x195001)
def transeptlaw23_UpgradeSafe.j1 : Nat → Int → List (S56) → Int → Bool → Int → Int → Int → Int → List (S77) → List Int → Bool → Option (Bool)
  | 0, _, _, _, _, _, _, _, _, _, _, _ => none
  | k + 1, x0, x1, x9, x43, x188000, x188001, x188002, x188003, x188004, x195000, x195001 => if x43 = true then (if 0 ≤ x9 then (if x9 < (x1.length : Int) then (if ((rd_T56 x1 x9).f0) = 0 then (if x0 = 0 then (none) else ((upgrade_Declare.f k x195000 x195001 (Int.tmod (wrap64 ((Int.tmod ((rd_T56 x1 x9).f1) x0) + x0)) x0) ((rd_T56 x1 x9).f2)).bind fun bt200 => (transeptlaw23_UpgradeSafe.j2 k x0 x1 x9 bt200.2.2 x188000 x188001 x188002 x188003 x188004 x195000 x195001 bt200.1 bt200.2.1))) else ((upgrade_Activate.f x195000 x195001).bind fun bt205 => (transeptlaw23_UpgradeSafe.j2 k x0 x1 x9 bt205.2.2 x188000 x188001 x188002 x188003 x188004 x195000 x195001 bt205.1 bt205.2.1))) else (none)) else (none)) else (some true)
def transeptlaw23_UpgradeSafe.j2 : Nat → Int → List (S56) → Int → Int → Int → Int → Int → Int → List (S77) → List Int → Bool → List Int → Bool → Option (Bool)
  | 0, _, _, _, _, _, _, _, _, _, _, _, _, _ => none
  | k + 1, x0, x1, x9, x11, x188000, x188001, x188002, x188003, x188004, x195000, x195001, x197000, x197001 => (transeptlaw23_num.f x11).bind fun t210 => (if t210 = 0 then (if x195001 = true then (if x197001 = true then (if (x197000.length : Int) = x0 then (transeptlaw23_UpgradeSafe.j3 k x0 x1 x9 x188000 x188001 x188002 x188003 x188004 x197000 x197001) else (none)) else (none)) else (if (x197000.length : Int) = x0 then (transeptlaw23_UpgradeSafe.j3 k x0 x1 x9 x188000 x188001 x188002 x188003 x188004 x197000 x197001) else (none))) else (transeptlaw23_UpgradeSafe.j3 k x0 x1 x9 x188000 x188001 x188002 x188003 x188004 x195000 x195001))
def transeptlaw23_UpgradeSafe.j3 : Nat → Int → List (S56) → Int → Int → Int → Int → Int → List (S77) → List Int → Bool → Option (Bool)
  | 0, _, _, _, _, _, _, _, _, _, _ => none
  | k + 1, x0, x1, x9, x188000, x188001, x188002, x188003, x188004, x195000, x195001 => transeptlaw23_UpgradeSafe.l1 k x0 x1 x9 true 0 x188000 x188001 x188002 x188003 x188004 x195000 x195001
def transeptlaw23_UpgradeSafe.l1 : Nat → Int → List (S56) → Int → Bool → Int → Int → Int → Int → Int → List (S77) → List Int → Bool → Option (Bool)
  | 0, _, _, _, _, _, _, _, _, _, _, _, _ => none
  | k + 1, x0, x1, x9, x12, x13, x188000, x188001, x188002, x188003, x188004, x195000, x195001 => if x13 < x0 then (if x12 = true then (if 0 ≤ x13 then (if x13 < (x195000.length : Int) then (transeptlaw23_UpgradeSafe.j5 k x0 x1 x9 ((rd x195000 x13) == 2) x13 x188000 x188001 x188002 x188003 x188004 x195000 x195001) else (none)) else (none)) else (transeptlaw23_UpgradeSafe.j5 k x0 x1 x9 false x13 x188000 x188001 x188002 x188003 x188004 x195000 x195001)) else (if x195001 = true then (transeptlaw23_UpgradeSafe.j7 k x0 x1 x9 x12 (!x12) x188000 x188001 x188002 x188003 x188004 x195000 x195001) else (transeptlaw23_UpgradeSafe.j7 k x0 x1 x9 x12 false x188000 x188001 x188002 x188003 x188004 x195000 x195001))
def transeptlaw23_UpgradeSafe.j5 : Nat → Int → List (S56) → Int → Bool → Int → Int → Int → Int → Int → List (S77) → List Int → Bool → Option (Bool)
  | 0, _, _, _, _, _, _, _, _, _, _, _, _ => none
  | k + 1, x0, x1, x9, x12, x13, x188000, x188001, x188002, x188003, x188004, x195000, x195001 => transeptlaw23_UpgradeSafe.l2 k x0 x1 x9 x12 x13 0 x188000 x188001 x188002 x188003 x188004 x195000 x195001
def transeptlaw23_UpgradeSafe.l2 : Nat → Int → List (S56) → Int → Bool → Int → Int → Int → Int → Int → Int → List (S77) → List Int → Bool → Option (Bool)
  | 0, _, _, _, _, _, _, _, _, _, _, _, _, _ => none
  | k + 1, x0, x1, x9, x12, x13, x14, x188000, x188001, x188002, x188003, x188004, x195000, x195001 => if x14 < x0 then ((upgrade_Wire.f k x195000 x195001 x13 x14).bind fun bt212 => ((transeptlaw23_num.f bt212.2).bind fun t214 => (if t214 = 0 then (if 0 ≤ x13 then (if x13 < (x195000.length : Int) then (if bt212.1 > (rd x195000 x13) then (none) else (if 0 ≤ x14 then (if x14 < (x195000.length : Int) then (if bt212.1 > (rd x195000 x14) then (none) else (if bt212.1 < 1 then (none) else (transeptlaw23_UpgradeSafe.l2 k x0 x1 x9 x12 x13 (wrap64 (x14 + 1)) x188000 x188001 x188002 x188003 x188004 x195000 x195001))) else (none)) else (none))) else (none)) else (none)) else (none)))) else (transeptlaw23_UpgradeSafe.l1 k x0 x1 x9 x12 (wrap64 (x13 + 1)) x188000 x188001 x188002 x188003 x188004 x195000 x195001)
def transeptlaw23_UpgradeSafe.j7 : Nat → Int → List (S56) → Int → Bool → Bool → Int → Int → Int → Int → List (S77) → List Int → Bool → Option (Bool)
  | 0, _, _, _, _, _, _, _, _, _, _, _, _ => none
  | k + 1, x0, x1, x9, x12, x153, x188000, x188001, x188002, x188003, x188004, x195000, x195001 => if x153 = true then (none) else ((upgrade_Record.f k x195000 x195001 x188000 x188001 x188002 x188003 x188004).bind fun bt217 => ((transeptlaw23_num.f bt217.2).bind fun t219 => (if t219 = 0 then ((command_Encode.f x188000 x188001 x188002 x188003 x188004 bt217.1).bind fun bt220 => ((transeptlaw23_num.f bt220.2).bind fun t224 => (if t224 = 0 then (if bt217.1 = 2 then (if x12 = true then (if x195001 = true then (transeptlaw23_UpgradeSafe.l0 k x0 x1 (wrap64 (x9 + 1)) x188000 x188001 x188002 x188003 x188004 x195000 x195001) else (if x188000 = 5 then (transeptlaw23_UpgradeSafe.l0 k x0 x1 (wrap64 (x9 + 1)) x188000 x188001 x188002 x188003 x188004 x195000 x195001) else (none))) else (none)) else (transeptlaw23_UpgradeSafe.l0 k x0 x1 (wrap64 (x9 + 1)) x188000 x188001 x188002 x188003 x188004 x195000 x195001)) else (none)))) else (transeptlaw23_UpgradeSafe.l0 k x0 x1 (wrap64 (x9 + 1)) x188000 x188001 x188002 x188003 x188004 x195000 x195001))))
end
def transeptlaw23_UpgradeSafe.f (k : Nat) (a0 : Int) (l1 : List (S56)) (a2_0 : Int) (a2_1 : Int) (a2_2 : Int) (a2_3 : Int) (l2_4 : List (S77)) : Option (Bool) := (transeptlaw23_alive.f k).bind fun t188 => (if t188 = true then ((upgrade_New.f (wrap64 (1 + (Int.tmod (wrap64 ((Int.tmod a0 9) + 9)) 9)))).bind fun bt189 => ((transeptlaw23_num.f bt189.2.2).bind fun t195 => (if t195 = 0 then (transeptlaw23_UpgradeSafe.l0 k (wrap64 (1 + (Int.tmod (wrap64 ((Int.tmod a0 9) + 9)) 9))) l1 0 a2_0 a2_1 a2_2 a2_3 l2_4 bt189.1 bt189.2.1) else (none)))) else (none))
theorem transeptlaw23_UpgradeSafe.mono_l : ∀ k, (∀ y0 y1 y2 y3 y4 y5 y6 y7 y8 y9, LeO (transeptlaw23_UpgradeSafe.l0 k y0 y1 y2 y3 y4 y5 y6 y7 y8 y9) (transeptlaw23_UpgradeSafe.l0 (k + 1) y0 y1 y2 y3 y4 y5 y6 y7 y8 y9)) ∧ (∀ y0 y1 y2 y3 y4 y5 y6 y7 y8 y9 y10, LeO (transeptlaw23_UpgradeSafe.j1 k y0 y1 y2 y3 y4 y5 y6 y7 y8 y9 y10) (transeptlaw23_UpgradeSafe.j1 (k + 1) y0 y1 y2 y3 y4 y5 y6 y7 y8 y9 y10)) ∧ (∀ y0 y1 y2 y3 y4 y5 y6 y7 y8 y9 y10 y11 y12, LeO (transeptlaw23_UpgradeSafe.j2 k y0 y1 y2 y3 y4 y5 y6 y7 y8 y9 y10 y11 y12) (transeptlaw23_UpgradeSafe.j2 (k + 1) y0 y1 y2 y3 y4 y5 y6 y7 y8 y9 y10 y11 y12)) ∧ (∀ y0 y1 y2 y3 y4 y5 y6 y7 y8 y9, LeO (transeptlaw23_UpgradeSafe.j3 k y0 y1 y2 y3 y4 y5 y6 y7 y8 y9) (transeptlaw23_UpgradeSafe.j3 (k + 1) y0 y1 y2 y3 y4 y5 y6 y7 y8 y9)) ∧ (∀ y0 y1 y2 y3 y4 y5 y6 y7 y8 y9 y10 y11, LeO (transeptlaw23_UpgradeSafe.l1 k y0 y1 y2 y3 y4 y5 y6 y7 y8 y9 y10 y11) (transeptlaw23_UpgradeSafe.l1 (k + 1) y0 y1 y2 y3 y4 y5 y6 y7 y8 y9 y10 y11)) ∧ (∀ y0 y1 y2 y3 y4 y5 y6 y7 y8 y9 y10 y11, LeO (transeptlaw23_UpgradeSafe.j5 k y0 y1 y2 y3 y4 y5 y6 y7 y8 y9 y10 y11) (transeptlaw23_UpgradeSafe.j5 (k + 1) y0 y1 y2 y3 y4 y5 y6 y7 y8 y9 y10 y11)) ∧ (∀ y0 y1 y2 y3 y4 y5 y6 y7 y8 y9 y10 y11 y12, LeO (transeptlaw23_UpgradeSafe.l2 k y0 y1 y2 y3 y4 y5 y6 y7 y8 y9 y10 y11 y12) (transeptlaw23_UpgradeSafe.l2 (k + 1) y0 y1 y2 y3 y4 y5 y6 y7 y8 y9 y10 y11 y12)) ∧ (∀ y0 y1 y2 y3 y4 y5 y6 y7 y8 y9 y10 y11, LeO (transeptlaw23_UpgradeSafe.j7 k y0 y1 y2 y3 y4 y5 y6 y7 y8 y9 y10 y11) (transeptlaw23_UpgradeSafe.j7 (k + 1) y0 y1 y2 y3 y4 y5 y6 y7 y8 y9 y10 y11))
  | 0 => ⟨fun _ _ _ _ _ _ _ _ _ _ r h => by simp [transeptlaw23_UpgradeSafe.l0] at h, fun _ _ _ _ _ _ _ _ _ _ _ r h => by simp [transeptlaw23_UpgradeSafe.j1] at h, fun _ _ _ _ _ _ _ _ _ _ _ _ _ r h => by simp [transeptlaw23_UpgradeSafe.j2] at h, fun _ _ _ _ _ _ _ _ _ _ r h => by simp [transeptlaw23_UpgradeSafe.j3] at h, fun _ _ _ _ _ _ _ _ _ _ _ _ r h => by simp [transeptlaw23_UpgradeSafe.l1] at h, fun _ _ _ _ _ _ _ _ _ _ _ _ r h => by simp [transeptlaw23_UpgradeSafe.j5] at h, fun _ _ _ _ _ _ _ _ _ _ _ _ _ r h => by simp [transeptlaw23_UpgradeSafe.l2] at h, fun _ _ _ _ _ _ _ _ _ _ _ _ r h => by simp [transeptlaw23_UpgradeSafe.j7] at h⟩
  | k + 1 => by
    obtain ⟨ih0, ih1, ih2, ih3, ih4, ih5, ih6, ih7⟩ := transeptlaw23_UpgradeSafe.mono_l k
    refine ⟨?_, ?_, ?_, ?_, ?_, ?_, ?_, ?_⟩
    · intro y0 y1 y2 y3 y4 y5 y6 y7 y8 y9
      unfold transeptlaw23_UpgradeSafe.l0
      repeat' first
      | (with_reducible exact ih0 _ _ _ _ _ _ _ _ _ _)
      | (with_reducible exact ih1 _ _ _ _ _ _ _ _ _ _ _)
      | (with_reducible exact ih2 _ _ _ _ _ _ _ _ _ _ _ _ _)
      | (with_reducible exact ih3 _ _ _ _ _ _ _ _ _ _)
      | (with_reducible exact ih4 _ _ _ _ _ _ _ _ _ _ _ _)
      | (with_reducible exact ih5 _ _ _ _ _ _ _ _ _ _ _ _)
      | (with_reducible exact ih6 _ _ _ _ _ _ _ _ _ _ _ _ _)
      | (with_reducible exact ih7 _ _ _ _ _ _ _ _ _ _ _ _)
      | (with_reducible exact transeptlaw23_alive.mono _)
      | (with_reducible exact upgrade_Declare.mono _ _ _ _ _)
      | (with_reducible exact upgrade_Record.mono _ _ _ _ _ _ _ _)
      | (with_reducible exact upgrade_Wire.mono _ _ _ _ _)
      | (with_reducible exact LeO.refl _)
      | (with_reducible exact LeO.none _)
      | (with_reducible refine LeO.ite ?_ ?_)
      | (with_reducible refine LeO.bind ?_ (fun _ => ?_))
      | exact ih0 _ _ _ _ _ _ _ _ _ _
      | exact ih1 _ _ _ _ _ _ _ _ _ _ _
      | exact ih2 _ _ _ _ _ _ _ _ _ _ _ _ _
      | exact ih3 _ _ _ _ _ _ _ _ _ _
      | exact ih4 _ _ _ _ _ _ _ _ _ _ _ _
      | exact ih5 _ _ _ _ _ _ _ _ _ _ _ _
      | exact ih6 _ _ _ _ _ _ _ _ _ _ _ _ _
      | exact ih7 _ _ _ _ _ _ _ _ _ _ _ _
      | exact transeptlaw23_alive.mono _
      | exact upgrade_Declare.mono _ _ _ _ _
      | exact upgrade_Record.mono _ _ _ _ _ _ _ _
      | exact upgrade_Wire.mono _ _ _ _ _
      | exact LeO.none _
      | refine LeO.ite ?_ ?_
      | refine LeO.bind ?_ (fun _ => ?_)
    · intro y0 y1 y2 y3 y4 y5 y6 y7 y8 y9 y10
      unfold transeptlaw23_UpgradeSafe.j1
      repeat' first
      | (with_reducible exact ih0 _ _ _ _ _ _ _ _ _ _)
      | (with_reducible exact ih1 _ _ _ _ _ _ _ _ _ _ _)
      | (with_reducible exact ih2 _ _ _ _ _ _ _ _ _ _ _ _ _)
      | (with_reducible exact ih3 _ _ _ _ _ _ _ _ _ _)
      | (with_reducible exact ih4 _ _ _ _ _ _ _ _ _ _ _ _)
      | (with_reducible exact ih5 _ _ _ _ _ _ _ _ _ _ _ _)
      | (with_reducible exact ih6 _ _ _ _ _ _ _ _ _ _ _ _ _)
      | (with_reducible exact ih7 _ _ _ _ _ _ _ _ _ _ _ _)
      | (with_reducible exact transeptlaw23_alive.mono _)
      | (with_reducible exact upgrade_Declare.mono _ _ _ _ _)
      | (with_reducible exact upgrade_Record.mono _ _ _ _ _ _ _ _)
      | (with_reducible exact upgrade_Wire.mono _ _ _ _ _)
      | (with_reducible exact LeO.refl _)
      | (with_reducible exact LeO.none _)
      | (with_reducible refine LeO.ite ?_ ?_)
      | (with_reducible refine LeO.bind ?_ (fun _ => ?_))
      | exact ih0 _ _ _ _ _ _ _ _ _ _
      | exact ih1 _ _ _ _ _ _ _ _ _ _ _
      | exact ih2 _ _ _ _ _ _ _ _ _ _ _ _ _
      | exact ih3 _ _ _ _ _ _ _ _ _ _
      | exact ih4 _ _ _ _ _ _ _ _ _ _ _ _
      | exact ih5 _ _ _ _ _ _ _ _ _ _ _ _
      | exact ih6 _ _ _ _ _ _ _ _ _ _ _ _ _
      | exact ih7 _ _ _ _ _ _ _ _ _ _ _ _
      | exact transeptlaw23_alive.mono _
      | exact upgrade_Declare.mono _ _ _ _ _
      | exact upgrade_Record.mono _ _ _ _ _ _ _ _
      | exact upgrade_Wire.mono _ _ _ _ _
      | exact LeO.none _
      | refine LeO.ite ?_ ?_
      | refine LeO.bind ?_ (fun _ => ?_)
    · intro y0 y1 y2 y3 y4 y5 y6 y7 y8 y9 y10 y11 y12
      unfold transeptlaw23_UpgradeSafe.j2
      repeat' first
      | (with_reducible exact ih0 _ _ _ _ _ _ _ _ _ _)
      | (with_reducible exact ih1 _ _ _ _ _ _ _ _ _ _ _)
      | (with_reducible exact ih2 _ _ _ _ _ _ _ _ _ _ _ _ _)
      | (with_reducible exact ih3 _ _ _ _ _ _ _ _ _ _)
      | (with_reducible exact ih4 _ _ _ _ _ _ _ _ _ _ _ _)
      | (with_reducible exact ih5 _ _ _ _ _ _ _ _ _ _ _ _)
      | (with_reducible exact ih6 _ _ _ _ _ _ _ _ _ _ _ _ _)
      | (with_reducible exact ih7 _ _ _ _ _ _ _ _ _ _ _ _)
      | (with_reducible exact transeptlaw23_alive.mono _)
      | (with_reducible exact upgrade_Declare.mono _ _ _ _ _)
      | (with_reducible exact upgrade_Record.mono _ _ _ _ _ _ _ _)
      | (with_reducible exact upgrade_Wire.mono _ _ _ _ _)
      | (with_reducible exact LeO.refl _)
      | (with_reducible exact LeO.none _)
      | (with_reducible refine LeO.ite ?_ ?_)
      | (with_reducible refine LeO.bind ?_ (fun _ => ?_))
      | exact ih0 _ _ _ _ _ _ _ _ _ _
      | exact ih1 _ _ _ _ _ _ _ _ _ _ _
      | exact ih2 _ _ _ _ _ _ _ _ _ _ _ _ _
      | exact ih3 _ _ _ _ _ _ _ _ _ _
      | exact ih4 _ _ _ _ _ _ _ _ _ _ _ _
      | exact ih5 _ _ _ _ _ _ _ _ _ _ _ _
      | exact ih6 _ _ _ _ _ _ _ _ _ _ _ _ _
      | exact ih7 _ _ _ _ _ _ _ _ _ _ _ _
      | exact transeptlaw23_alive.mono _
      | exact upgrade_Declare.mono _ _ _ _ _
      | exact upgrade_Record.mono _ _ _ _ _ _ _ _
      | exact upgrade_Wire.mono _ _ _ _ _
      | exact LeO.none _
      | refine LeO.ite ?_ ?_
      | refine LeO.bind ?_ (fun _ => ?_)
    · intro y0 y1 y2 y3 y4 y5 y6 y7 y8 y9
      unfold transeptlaw23_UpgradeSafe.j3
      repeat' first
      | (with_reducible exact ih0 _ _ _ _ _ _ _ _ _ _)
      | (with_reducible exact ih1 _ _ _ _ _ _ _ _ _ _ _)
      | (with_reducible exact ih2 _ _ _ _ _ _ _ _ _ _ _ _ _)
      | (with_reducible exact ih3 _ _ _ _ _ _ _ _ _ _)
      | (with_reducible exact ih4 _ _ _ _ _ _ _ _ _ _ _ _)
      | (with_reducible exact ih5 _ _ _ _ _ _ _ _ _ _ _ _)
      | (with_reducible exact ih6 _ _ _ _ _ _ _ _ _ _ _ _ _)
      | (with_reducible exact ih7 _ _ _ _ _ _ _ _ _ _ _ _)
      | (with_reducible exact transeptlaw23_alive.mono _)
      | (with_reducible exact upgrade_Declare.mono _ _ _ _ _)
      | (with_reducible exact upgrade_Record.mono _ _ _ _ _ _ _ _)
      | (with_reducible exact upgrade_Wire.mono _ _ _ _ _)
      | (with_reducible exact LeO.refl _)
      | (with_reducible exact LeO.none _)
      | (with_reducible refine LeO.ite ?_ ?_)
      | (with_reducible refine LeO.bind ?_ (fun _ => ?_))
      | exact ih0 _ _ _ _ _ _ _ _ _ _
      | exact ih1 _ _ _ _ _ _ _ _ _ _ _
      | exact ih2 _ _ _ _ _ _ _ _ _ _ _ _ _
      | exact ih3 _ _ _ _ _ _ _ _ _ _
      | exact ih4 _ _ _ _ _ _ _ _ _ _ _ _
      | exact ih5 _ _ _ _ _ _ _ _ _ _ _ _
      | exact ih6 _ _ _ _ _ _ _ _ _ _ _ _ _
      | exact ih7 _ _ _ _ _ _ _ _ _ _ _ _
      | exact transeptlaw23_alive.mono _
      | exact upgrade_Declare.mono _ _ _ _ _
      | exact upgrade_Record.mono _ _ _ _ _ _ _ _
      | exact upgrade_Wire.mono _ _ _ _ _
      | exact LeO.none _
      | refine LeO.ite ?_ ?_
      | refine LeO.bind ?_ (fun _ => ?_)
    · intro y0 y1 y2 y3 y4 y5 y6 y7 y8 y9 y10 y11
      unfold transeptlaw23_UpgradeSafe.l1
      repeat' first
      | (with_reducible exact ih0 _ _ _ _ _ _ _ _ _ _)
      | (with_reducible exact ih1 _ _ _ _ _ _ _ _ _ _ _)
      | (with_reducible exact ih2 _ _ _ _ _ _ _ _ _ _ _ _ _)
      | (with_reducible exact ih3 _ _ _ _ _ _ _ _ _ _)
      | (with_reducible exact ih4 _ _ _ _ _ _ _ _ _ _ _ _)
      | (with_reducible exact ih5 _ _ _ _ _ _ _ _ _ _ _ _)
      | (with_reducible exact ih6 _ _ _ _ _ _ _ _ _ _ _ _ _)
      | (with_reducible exact ih7 _ _ _ _ _ _ _ _ _ _ _ _)
      | (with_reducible exact transeptlaw23_alive.mono _)
      | (with_reducible exact upgrade_Declare.mono _ _ _ _ _)
      | (with_reducible exact upgrade_Record.mono _ _ _ _ _ _ _ _)
      | (with_reducible exact upgrade_Wire.mono _ _ _ _ _)
      | (with_reducible exact LeO.refl _)
      | (with_reducible exact LeO.none _)
      | (with_reducible refine LeO.ite ?_ ?_)
      | (with_reducible refine LeO.bind ?_ (fun _ => ?_))
      | exact ih0 _ _ _ _ _ _ _ _ _ _
      | exact ih1 _ _ _ _ _ _ _ _ _ _ _
      | exact ih2 _ _ _ _ _ _ _ _ _ _ _ _ _
      | exact ih3 _ _ _ _ _ _ _ _ _ _
      | exact ih4 _ _ _ _ _ _ _ _ _ _ _ _
      | exact ih5 _ _ _ _ _ _ _ _ _ _ _ _
      | exact ih6 _ _ _ _ _ _ _ _ _ _ _ _ _
      | exact ih7 _ _ _ _ _ _ _ _ _ _ _ _
      | exact transeptlaw23_alive.mono _
      | exact upgrade_Declare.mono _ _ _ _ _
      | exact upgrade_Record.mono _ _ _ _ _ _ _ _
      | exact upgrade_Wire.mono _ _ _ _ _
      | exact LeO.none _
      | refine LeO.ite ?_ ?_
      | refine LeO.bind ?_ (fun _ => ?_)
    · intro y0 y1 y2 y3 y4 y5 y6 y7 y8 y9 y10 y11
      unfold transeptlaw23_UpgradeSafe.j5
      repeat' first
      | (with_reducible exact ih0 _ _ _ _ _ _ _ _ _ _)
      | (with_reducible exact ih1 _ _ _ _ _ _ _ _ _ _ _)
      | (with_reducible exact ih2 _ _ _ _ _ _ _ _ _ _ _ _ _)
      | (with_reducible exact ih3 _ _ _ _ _ _ _ _ _ _)
      | (with_reducible exact ih4 _ _ _ _ _ _ _ _ _ _ _ _)
      | (with_reducible exact ih5 _ _ _ _ _ _ _ _ _ _ _ _)
      | (with_reducible exact ih6 _ _ _ _ _ _ _ _ _ _ _ _ _)
      | (with_reducible exact ih7 _ _ _ _ _ _ _ _ _ _ _ _)
      | (with_reducible exact transeptlaw23_alive.mono _)
      | (with_reducible exact upgrade_Declare.mono _ _ _ _ _)
      | (with_reducible exact upgrade_Record.mono _ _ _ _ _ _ _ _)
      | (with_reducible exact upgrade_Wire.mono _ _ _ _ _)
      | (with_reducible exact LeO.refl _)
      | (with_reducible exact LeO.none _)
      | (with_reducible refine LeO.ite ?_ ?_)
      | (with_reducible refine LeO.bind ?_ (fun _ => ?_))
      | exact ih0 _ _ _ _ _ _ _ _ _ _
      | exact ih1 _ _ _ _ _ _ _ _ _ _ _
      | exact ih2 _ _ _ _ _ _ _ _ _ _ _ _ _
      | exact ih3 _ _ _ _ _ _ _ _ _ _
      | exact ih4 _ _ _ _ _ _ _ _ _ _ _ _
      | exact ih5 _ _ _ _ _ _ _ _ _ _ _ _
      | exact ih6 _ _ _ _ _ _ _ _ _ _ _ _ _
      | exact ih7 _ _ _ _ _ _ _ _ _ _ _ _
      | exact transeptlaw23_alive.mono _
      | exact upgrade_Declare.mono _ _ _ _ _
      | exact upgrade_Record.mono _ _ _ _ _ _ _ _
      | exact upgrade_Wire.mono _ _ _ _ _
      | exact LeO.none _
      | refine LeO.ite ?_ ?_
      | refine LeO.bind ?_ (fun _ => ?_)
    · intro y0 y1 y2 y3 y4 y5 y6 y7 y8 y9 y10 y11 y12
      unfold transeptlaw23_UpgradeSafe.l2
      repeat' first
      | (with_reducible exact ih0 _ _ _ _ _ _ _ _ _ _)
      | (with_reducible exact ih1 _ _ _ _ _ _ _ _ _ _ _)
      | (with_reducible exact ih2 _ _ _ _ _ _ _ _ _ _ _ _ _)
      | (with_reducible exact ih3 _ _ _ _ _ _ _ _ _ _)
      | (with_reducible exact ih4 _ _ _ _ _ _ _ _ _ _ _ _)
      | (with_reducible exact ih5 _ _ _ _ _ _ _ _ _ _ _ _)
      | (with_reducible exact ih6 _ _ _ _ _ _ _ _ _ _ _ _ _)
      | (with_reducible exact ih7 _ _ _ _ _ _ _ _ _ _ _ _)
      | (with_reducible exact transeptlaw23_alive.mono _)
      | (with_reducible exact upgrade_Declare.mono _ _ _ _ _)
      | (with_reducible exact upgrade_Record.mono _ _ _ _ _ _ _ _)
      | (with_reducible exact upgrade_Wire.mono _ _ _ _ _)
      | (with_reducible exact LeO.refl _)
      | (with_reducible exact LeO.none _)
      | (with_reducible refine LeO.ite ?_ ?_)
      | (with_reducible refine LeO.bind ?_ (fun _ => ?_))
      | exact ih0 _ _ _ _ _ _ _ _ _ _
      | exact ih1 _ _ _ _ _ _ _ _ _ _ _
      | exact ih2 _ _ _ _ _ _ _ _ _ _ _ _ _
      | exact ih3 _ _ _ _ _ _ _ _ _ _
      | exact ih4 _ _ _ _ _ _ _ _ _ _ _ _
      | exact ih5 _ _ _ _ _ _ _ _ _ _ _ _
      | exact ih6 _ _ _ _ _ _ _ _ _ _ _ _ _
      | exact ih7 _ _ _ _ _ _ _ _ _ _ _ _
      | exact transeptlaw23_alive.mono _
      | exact upgrade_Declare.mono _ _ _ _ _
      | exact upgrade_Record.mono _ _ _ _ _ _ _ _
      | exact upgrade_Wire.mono _ _ _ _ _
      | exact LeO.none _
      | refine LeO.ite ?_ ?_
      | refine LeO.bind ?_ (fun _ => ?_)
    · intro y0 y1 y2 y3 y4 y5 y6 y7 y8 y9 y10 y11
      unfold transeptlaw23_UpgradeSafe.j7
      repeat' first
      | (with_reducible exact ih0 _ _ _ _ _ _ _ _ _ _)
      | (with_reducible exact ih1 _ _ _ _ _ _ _ _ _ _ _)
      | (with_reducible exact ih2 _ _ _ _ _ _ _ _ _ _ _ _ _)
      | (with_reducible exact ih3 _ _ _ _ _ _ _ _ _ _)
      | (with_reducible exact ih4 _ _ _ _ _ _ _ _ _ _ _ _)
      | (with_reducible exact ih5 _ _ _ _ _ _ _ _ _ _ _ _)
      | (with_reducible exact ih6 _ _ _ _ _ _ _ _ _ _ _ _ _)
      | (with_reducible exact ih7 _ _ _ _ _ _ _ _ _ _ _ _)
      | (with_reducible exact transeptlaw23_alive.mono _)
      | (with_reducible exact upgrade_Declare.mono _ _ _ _ _)
      | (with_reducible exact upgrade_Record.mono _ _ _ _ _ _ _ _)
      | (with_reducible exact upgrade_Wire.mono _ _ _ _ _)
      | (with_reducible exact LeO.refl _)
      | (with_reducible exact LeO.none _)
      | (with_reducible refine LeO.ite ?_ ?_)
      | (with_reducible refine LeO.bind ?_ (fun _ => ?_))
      | exact ih0 _ _ _ _ _ _ _ _ _ _
      | exact ih1 _ _ _ _ _ _ _ _ _ _ _
      | exact ih2 _ _ _ _ _ _ _ _ _ _ _ _ _
      | exact ih3 _ _ _ _ _ _ _ _ _ _
      | exact ih4 _ _ _ _ _ _ _ _ _ _ _ _
      | exact ih5 _ _ _ _ _ _ _ _ _ _ _ _
      | exact ih6 _ _ _ _ _ _ _ _ _ _ _ _ _
      | exact ih7 _ _ _ _ _ _ _ _ _ _ _ _
      | exact transeptlaw23_alive.mono _
      | exact upgrade_Declare.mono _ _ _ _ _
      | exact upgrade_Record.mono _ _ _ _ _ _ _ _
      | exact upgrade_Wire.mono _ _ _ _ _
      | exact LeO.none _
      | refine LeO.ite ?_ ?_
      | refine LeO.bind ?_ (fun _ => ?_)
theorem transeptlaw23_UpgradeSafe.mono : ∀ a0 a1 a2 a3 a4 a5 a6 k, LeO (transeptlaw23_UpgradeSafe.f k a0 a1 a2 a3 a4 a5 a6) (transeptlaw23_UpgradeSafe.f (k + 1) a0 a1 a2 a3 a4 a5 a6) := by
  intro a0 a1 a2 a3 a4 a5 a6 k
  obtain ⟨ih0, ih1, ih2, ih3, ih4, ih5, ih6, ih7⟩ := transeptlaw23_UpgradeSafe.mono_l k
  unfold transeptlaw23_UpgradeSafe.f
  repeat' first
      | (with_reducible exact ih0 _ _ _ _ _ _ _ _ _ _)
      | (with_reducible exact ih1 _ _ _ _ _ _ _ _ _ _ _)
      | (with_reducible exact ih2 _ _ _ _ _ _ _ _ _ _ _ _ _)
      | (with_reducible exact ih3 _ _ _ _ _ _ _ _ _ _)
      | (with_reducible exact ih4 _ _ _ _ _ _ _ _ _ _ _ _)
      | (with_reducible exact ih5 _ _ _ _ _ _ _ _ _ _ _ _)
      | (with_reducible exact ih6 _ _ _ _ _ _ _ _ _ _ _ _ _)
      | (with_reducible exact ih7 _ _ _ _ _ _ _ _ _ _ _ _)
      | (with_reducible exact transeptlaw23_alive.mono _)
      | (with_reducible exact upgrade_Declare.mono _ _ _ _ _)
      | (with_reducible exact upgrade_Record.mono _ _ _ _ _ _ _ _)
      | (with_reducible exact upgrade_Wire.mono _ _ _ _ _)
      | (with_reducible exact LeO.refl _)
      | (with_reducible exact LeO.none _)
      | (with_reducible refine LeO.ite ?_ ?_)
      | (with_reducible refine LeO.bind ?_ (fun _ => ?_))
      | exact ih0 _ _ _ _ _ _ _ _ _ _
      | exact ih1 _ _ _ _ _ _ _ _ _ _ _
      | exact ih2 _ _ _ _ _ _ _ _ _ _ _ _ _
      | exact ih3 _ _ _ _ _ _ _ _ _ _
      | exact ih4 _ _ _ _ _ _ _ _ _ _ _ _
      | exact ih5 _ _ _ _ _ _ _ _ _ _ _ _
      | exact ih6 _ _ _ _ _ _ _ _ _ _ _ _ _
      | exact ih7 _ _ _ _ _ _ _ _ _ _ _ _
      | exact transeptlaw23_alive.mono _
      | exact upgrade_Declare.mono _ _ _ _ _
      | exact upgrade_Record.mono _ _ _ _ _ _ _ _
      | exact upgrade_Wire.mono _ _ _ _ _
      | exact LeO.none _
      | refine LeO.ite ?_ ?_
      | refine LeO.bind ?_ (fun _ => ?_)
def transeptlaw23_UpgradeSafe.T12 : Bool × List (List Nat × List Nat) := (true, [([], []), ([], []), ([], []), ([1, 2], [1, 2]), ([3], [3]), ([4], [4]), ([], []), ([5, 6], [5, 6]), ([], []), ([7, 8], [7, 8]), ([], []), ([9, 10], [9, 10]), ([], []), ([], []), ([12, 13], [12, 13]), ([14], [14]), ([15], [15]), ([0, 11, 16], [0, 11, 16]), ([17], [17]), ([18], [18]), ([18], [18]), ([19, 17, 0, 1, 2, 3, 4, 5, 6, 7, 8, 9, 10, 11, 12, 13, 14, 15, 16, 17, 18, 19], [19]), ([20, 21, 0, 1, 2, 3, 4, 5, 6, 7, 8, 9, 10, 11, 12, 13, 14, 15, 16, 17, 18, 19, 20, 21], [20])])
def transeptlaw23_UpgradeSafe.B12 : List Nat := [0, 0, 0, 6, 14, 30, 0, 126, 0, 510, 0, 2046, 0, 0, 12288, 28672, 61440, 131071, 262143, 524287, 524287, 1048575, 4194303]
theorem transeptlaw23_UpgradeSafe.tab12 : rtab .any (opsOf Try.f6 12) = transeptlaw23_UpgradeSafe.T12 := by kernel_rfl
theorem transeptlaw23_UpgradeSafe.bits12 : waitsOk transeptlaw23_UpgradeSafe.T12.2 transeptlaw23_UpgradeSafe.B12 = true := by kernel_rfl
set_option maxHeartbeats 8000000 in
set_option maxRecDepth 100000 in
theorem transeptlaw23_UpgradeSafe.calls (k : Nat) (a0 : Int) (A1 : Option Addr) (c1 : Nat) (l1 : List (S56)) (a2_0 : Int) (a2_1 : Int) (a2_2 : Int) (a2_3 : Int) (A2_4 : Option Addr) (c2_4 : Nat) (l2_4 : List (S77)) (r : Bool) (w : World) (hr1 : Kd.C k56 w A1 l1.length l1) (hc1 : l1.length ≤ c1) (hr2_4 : Kd.C k77 w A2_4 l2_4.length l2_4) (hc2_4 : l2_4.length ≤ c2_4) (h : transeptlaw23_UpgradeSafe.f k a0 l1 a2_0 a2_1 a2_2 a2_3 l2_4 = some r) :
    Calls Try.prog 6 #[.int .i64 a0, .slice A1 l1.length c1, .agg #[.int .i64 a2_0, .int .i64 a2_1, .int .i64 a2_2, .int .i64 a2_3, .slice A2_4 l2_4.length c2_4]] w fun e w' => e = .returned (.bool r) ∧ Below w.heap.size w w' := by
  have hu43 := Try.underlying43
  have hu26 := Try.underlying26
  have HR1 := Aside0.mk hr1
  have HC1 := Aside0.mk hc1
  clear hr1 hc1
  have HR2_4 := Aside0.mk hr2_4
  have HC2_4 := Aside0.mk hc2_4
  clear hr2_4 hc2_4
  have HB := Aside0.mk (Below.refl w.heap.size w)
  have H : ((transeptlaw23_alive.f k).bind fun t188 => (if t188 = true then ((upgrade_New.f (wrap64 (1 + (Int.tmod (wrap64 ((Int.tmod a0 9) + 9)) 9)))).bind fun bt189 => ((transeptlaw23_num.f bt189.2.2).bind fun t195 => (if t195 = 0 then (transeptlaw23_UpgradeSafe.l0 k (wrap64 (1 + (Int.tmod (wrap64 ((Int.tmod a0 9) + 9)) 9))) l1 0 a2_0 a2_1 a2_2 a2_3 l2_4 bt189.1 bt189.2.1) else (none)))) else (none))) = some r := h
  clear h
  replace H := Option.bind_eq_some_iff.mp H
  obtain ⟨t188, A40, H⟩ := H
  replace H : (if t188 = true then ((upgrade_New.f (wrap64 (1 + (Int.tmod (wrap64 ((Int.tmod a0 9) + 9)) 9)))).bind fun bt189 => ((transeptlaw23_num.f bt189.2.2).bind fun t195 => (if t195 = 0 then (transeptlaw23_UpgradeSafe.l0 k (wrap64 (1 + (Int.tmod (wrap64 ((Int.tmod a0 9) + 9)) 9))) l1 0 a2_0 a2_1 a2_2 a2_3 l2_4 bt189.1 bt189.2.1) else (none)))) else (none)) = some r := H
  have A4 := Aside0.mk A40
  clear A40
  by_cases c5 : t188 = true
  · subst c5
    have H1 : ((upgrade_New.f (wrap64 (1 + (Int.tmod (wrap64 ((Int.tmod a0 9) + 9)) 9)))).bind fun bt189 => ((transeptlaw23_num.f bt189.2.2).bind fun t195 => (if t195 = 0 then (transeptlaw23_UpgradeSafe.l0 k (wrap64 (1 + (Int.tmod (wrap64 ((Int.tmod a0 9) + 9)) 9))) l1 0 a2_0 a2_1 a2_2 a2_3 l2_4 bt189.1 bt189.2.1) else (none)))) = some r := by rw [if_pos rfl] at H; exact H
    clear H
    have H := H1
    clear H1
    replace H := Option.bind_eq_some_iff.mp H
    obtain ⟨⟨t189, t192, t193⟩, A60, H⟩ := H
    replace H : ((transeptlaw23_num.f t193).bind fun t195 => (if t195 = 0 then (transeptlaw23_UpgradeSafe.l0 k (wrap64 (1 + (Int.tmod (wrap64 ((Int.tmod a0 9) + 9)) 9))) l1 0 a2_0 a2_1 a2_2 a2_3 l2_4 t189 t192) else (none))) = some r := H
    have A6 := Aside0.mk A60
    clear A60
    replace H := Option.bind_eq_some_iff.mp H
    obtain ⟨t195, A70, H⟩ := H
    replace H : (if t195 = 0 then (transeptlaw23_UpgradeSafe.l0 k (wrap64 (1 + (Int.tmod (wrap64 ((Int.tmod a0 9) + 9)) 9))) l1 0 a2_0 a2_1 a2_2 a2_3 l2_4 t189 t192) else (none)) = some r := H
    have A7 := Aside0.mk A70
    clear A70
    by_cases c8 : t195 = 0
    · rw [if_pos c8] at H
      have c8b0 : (t195 == 0) = true := beq_iff_eq.mpr c8
      have c8b1 : (t195 != 0) = false := bne_eq_false_iff_eq.mpr c8
      clear c8
      have H' := Aside0.mk H
      clear H
      go_enter Try.func6, Try.ntmps6
      go_wp2_with (first | ((with_reducible refine gate_dst (N := 5) rfl ?_); (try (refine gate_guard (by rfl) ?_; dsimp only)); refine box_event ?hg (N := 5) ?hd (cs := #[.int .i64 a2_0, .int .i64 a2_1, .int .i64 a2_2, .int .i64 a2_3, .slice A2_4 l2_4.length c2_4]) (t := 43) ?hr ?_; (case hd => rfl); (case hg => rfl); (case hr => first | (go_simp; done) | (go_simp; rfl)); intro gb187 hg w9 hbox hb; have n0_ := Aside0.mk (below_step (by repeat (first | (with_reducible first | exact HB.out | apply below_alloc | apply pw_below_drewN | apply below_drew1) | exact HB.out)) hb); have n1_ := Aside0.mk (hbox); have n2_ := Aside0.mk ((by rw [hg]; exact (below_size (by repeat (first | (with_reducible first | exact HB.out | apply below_alloc | apply pw_below_drewN | apply below_drew1) | exact HB.out))) : w.heap.size ≤ gb187)); have n3_ := Aside0.mk ((by rw [hg]; exact (below_size (by repeat (first | (with_reducible first | exact HB.out | apply below_alloc | apply pw_below_drewN | apply below_drew1) | exact HB.out))) : w.heap.size ≤ gb187)); clear HB; have HB := n0_; have BK187 := n1_; have GW187 := n2_; have GE187 := n3_; clear n0_ n1_ n2_ n3_; clear hb hbox hg) | ((with_reducible refine gate_callee (f := 7) rfl ?_); refine goesL_ (some 21) rfl rfl Try.func7 (by kernel_rfl) rfl #[] rfl (by (try simp only [List.map_toArray, List.map_cons, List.map_nil]); first | done | rfl | (simp only [List.length_drop, List.length_take]; rfl)) ?_; (with_reducible refine (transeptlaw23_alive.calls k  true _ A4.out).mono ?_); rintro e w10 ⟨rfl, hb⟩; refine ⟨_, rfl, ?_⟩; have n0_ := Aside0.mk (blk_below (g := gb187) (o := .cells #[.int .i64 a2_0, .int .i64 a2_1, .int .i64 a2_2, .int .i64 a2_3, .slice A2_4 l2_4.length c2_4] 43 (0, 0)) (by (with_reducible repeat (first | refine blk_drewN ?_ _ | refine blk_drew ?_ | refine blk_alloc ?_ _)); exact BK187.out) hb); have n1_ := Aside0.mk (below_step (by repeat (first | (with_reducible first | exact HB.out | apply below_alloc | apply pw_below_drewN | apply below_drew1 | refine below_set ?_ GE187.out) | exact HB.out)) hb); clear BK187; clear HB; have BK187 := n0_; have HB := n1_; clear n0_ n1_; (try clear hb); (try clear hb2); (try clear hk); (try clear hi)) | ((with_reducible refine gate_callee (f := 15) rfl ?_); refine goesL_ (some 30) rfl rfl Try.func15 (by kernel_rfl) rfl #[.int .i64 (wrap64 (1 + (Int.tmod (wrap64 ((Int.tmod a0 9) + 9)) 9)))] rfl (by (try simp only [List.map_toArray, List.map_cons, List.map_nil]); first | done | rfl | (simp only [List.length_drop, List.length_take]; rfl)) ?_; (with_reducible refine (upgrade_New.calls (wrap64 (1 + (Int.tmod (wrap64 ((Int.tmod a0 9) + 9)) 9))) t189 t192 t193 _ A6.out).mono ?_); rintro e w11 ⟨v190, rfl, ho0, hb⟩; refine ⟨_, rfl, ?_⟩; have n0_ := Aside0.mk (Kd.R_lower ho0 (below_size (by repeat (first | (with_reducible first | exact HB.out | apply below_alloc | apply pw_below_drewN | apply below_drew1 | refine below_set ?_ GE187.out) | exact HB.out)))); have n1_ := Aside0.mk (blk_below (g := gb187) (o := .cells #[.int .i64 a2_0, .int .i64 a2_1, .int .i64 a2_2, .int .i64 a2_3, .slice A2_4 l2_4.length c2_4] 43 (0, 0)) (by (with_reducible repeat (first | refine blk_drewN ?_ _ | refine blk_drew ?_ | refine blk_alloc ?_ _)); exact BK187.out) hb); have n2_ := Aside0.mk (below_step (by repeat (first | (with_reducible first | exact HB.out | apply below_alloc | apply pw_below_drewN | apply below_drew1 | refine below_set ?_ GE187.out) | exact HB.out)) hb); clear BK187; clear HB; have HO191 := n0_; have BK187 := n1_; have HB := n2_; clear n0_ n1_ n2_; (try clear hb); (try clear hb2); (try clear hk); (try clear hi); (try clear ho0)) | ((with_reducible refine gate_dst (N := 7) rfl ?_); (try (refine gate_guard (by rfl) ?_; dsimp only)); refine box_event ?hg (N := 7) ?hd (cs := #[.slice none 0 0, .bool false]) (t := 26) ?hr ?_; (case hd => rfl); (case hg => rfl); (case hr => first | (go_simp; done) | (go_simp; rfl)); intro gb194 hg w12 hbox hb; have n0_ := Aside0.mk (Kd.R_below (by (with_reducible repeat (first | apply Kd.R_alloc | apply Kd.R_drewN | apply Kd.R_drew)); exact HO191.out) hb); have n1_ := Aside0.mk (blk_below (g := gb187) (o := .cells #[.int .i64 a2_0, .int .i64 a2_1, .int .i64 a2_2, .int .i64 a2_3, .slice A2_4 l2_4.length c2_4] 43 (0, 0)) (by (with_reducible repeat (first | refine blk_drewN ?_ _ | refine blk_drew ?_ | refine blk_alloc ?_ _)); exact BK187.out) hb); have n2_ := Aside0.mk (below_step (by repeat (first | (with_reducible first | exact HB.out | apply below_alloc | apply pw_below_drewN | apply below_drew1 | refine below_set ?_ GE187.out) | exact HB.out)) hb); have n3_ := Aside0.mk (hbox); have n4_ := Aside0.mk ((by rw [hg]; exact (below_size (by repeat (first | (with_reducible first | exact HB.out | apply below_alloc | apply pw_below_drewN | apply below_drew1 | refine below_set ?_ GE187.out) | exact HB.out))) : w.heap.size ≤ gb194)); have n5_ := Aside0.mk ((by rw [hg]; exact (below_size (by repeat (first | (with_reducible first | exact HB.out | apply below_alloc | apply pw_below_drewN | apply below_drew1 | refine below_set ?_ GE187.out) | exact HB.out))) : w.heap.size ≤ gb194)); have n6_ := Aside0.mk ((by rw [hg]; exact Nat.ne_of_lt (blk_lt (g := gb187) (o := .cells #[.int .i64 a2_0, .int .i64 a2_1, .int .i64 a2_2, .int .i64 a2_3, .slice A2_4 l2_4.length c2_4] 43 (0, 0)) (by (with_reducible repeat (first | refine blk_drewN ?_ _ | refine blk_drew ?_ | refine blk_alloc ?_ _)); exact BK187.out)) : gb187 ≠ gb194)); have n7_ := Aside0.mk ((by rw [hg]; exact Nat.ne_of_gt (blk_lt (g := gb187) (o := .cells #[.int .i64 a2_0, .int .i64 a2_1, .int .i64 a2_2, .int .i64 a2_3, .slice A2_4 l2_4.length c2_4] 43 (0, 0)) (by (with_reducible repeat (first | refine blk_drewN ?_ _ | refine blk_drew ?_ | refine blk_alloc ?_ _)); exact BK187.out)) : gb194 ≠ gb187)); clear HO191; clear BK187; clear HB; have HO191 := n0_; have BK187 := n1_; have HB := n2_; have BK194 := n3_; have GW194 := n4_; have GE194 := n5_; have NB187_194 := n6_; have NB194_187 := n7_; clear n0_ n1_ n2_ n3_ n4_ n5_ n6_ n7_; clear hb hbox hg; obtain ⟨Ao13, co13, eo13⟩ := Kd.R_slice HO191.out; subst eo13; have hnb14 := NB194_187.out; have hnc14 := NB187_194.out; have hcz15_0 : w12.cell? ⟨gb194, 0, none⟩ = some (.slice none 0 0) := (blk_cell BK194.out 0).trans rfl; have hcz15_1 : w12.cell? ⟨gb194, 1, none⟩ = some (.bool false) := (blk_cell BK194.out 1).trans rfl; have hfz15_0 := blk_frozen BK194.out 0; have hfz15_1 := blk_frozen BK194.out 1) | ((with_reducible refine gate_callee (f := 14) rfl ?_); refine goesL_ (some 34) rfl rfl Try.func14 (by kernel_rfl) rfl #[.int .i64 t193] rfl (by (try simp only [List.map_toArray, List.map_cons, List.map_nil]); first | done | rfl | (simp only [List.length_drop, List.length_take]; rfl)) ?_; (with_reducible refine (transeptlaw23_num.calls t193 t195 _ A7.out).mono ?_); rintro e w' ⟨rfl, ⟨nd, rfl⟩⟩; refine ⟨_, rfl, ?_⟩))
      go_loopg [9] k (fun kq v9 w' => ∃ (x9_1 : Int) (x195000_1 : List Int) (x195001_1 : Bool) (u195000 : Value), v9 = .int .i64 x9_1 ∧ Aside0 (transeptlaw23_UpgradeSafe.l0 kq (wrap64 (1 + (Int.tmod (wrap64 ((Int.tmod a0 9) + 9)) 9))) l1 x9_1 a2_0 a2_1 a2_2 a2_3 l2_4 x195000_1 x195001_1 = some r) ∧ Aside0 (kq ≤ k) ∧ Aside0 (Kd.R (Kd.int .i64) 3 w' w.heap.size (fun _ => True) u195000 x195000_1) ∧ Aside0 (w'.heap[gb187]? = some (.cells #[.int .i64 a2_0, .int .i64 a2_1, .int .i64 a2_2, .int .i64 a2_3, (.slice A2_4 l2_4.length c2_4)] 43 (0, 0))) ∧ Aside0 (w'.heap[gb194]? = some (.cells #[u195000, .bool x195001_1] 26 (0, 0))) ∧ Aside0 (Below w.heap.size w w'))
      case atStart => exact ⟨(0), (t189), (t192), (.slice Ao13 t189.length co13), (by first | rfl | (simp; done) | (simp [*]; done)), H', ⟨Nat.le_refl _⟩, ⟨by (with_reducible repeat (first | apply Kd.R_alloc | apply Kd.R_drewN | apply Kd.R_drew)); exact Kd.R_mono (Kd.R_far (p := ⟨gb194, 1, none⟩) (Kd.R_far (p := ⟨gb194, 0, none⟩) (Kd.R_types HO191.out BK194.out (by decide)) (fun _ hk => hk.2) (.slice Ao13 t189.length co13)) (fun _ hk => hk.2) (.bool t192)) (fun _ hk => trivial)⟩, ⟨by (with_reducible repeat (first | refine blk_drewN ?_ _ | refine blk_drew ?_ | refine blk_alloc ?_ _)); refine blk_far ?_ NB187_194.out _; (with_reducible repeat (first | refine blk_drewN ?_ _ | refine blk_drew ?_ | refine blk_alloc ?_ _)); refine blk_far ?_ NB187_194.out _; (with_reducible repeat (first | refine blk_drewN ?_ _ | refine blk_drew ?_ | refine blk_alloc ?_ _)); exact BK187.out⟩, ⟨by (with_reducible repeat (first | refine blk_drewN ?_ _ | refine blk_drew ?_ | refine blk_alloc ?_ _)); refine blk_put (cs := #[.slice Ao13 t189.length co13, .bool false]) ?_ 1 _ rfl; (with_reducible repeat (first | refine blk_drewN ?_ _ | refine blk_drew ?_ | refine blk_alloc ?_ _)); refine blk_put (cs := #[.slice none 0 0, .bool false]) ?_ 0 _ rfl; (with_reducible repeat (first | refine blk_drewN ?_ _ | refine blk_drew ?_ | refine blk_alloc ?_ _)); exact BK194.out⟩, ⟨by repeat (first | (with_reducible first | exact HB.out | apply below_alloc | apply pw_below_drewN | apply below_drew1 | refine below_set ?_ GE187.out | refine below_set ?_ GE194.out) | exact HB.out)⟩⟩
      case round =>
        as_aux_lemma =>
        clear H'
        try clear c1
        try clear c2
        try clear p2
        try clear c5
        try clear c6
        try clear p6
        try clear c7
        try clear c8
        try clear c8b0
        try clear c8b1
        try clear c14
        try clear c15
        try clear hcz15_0
        try clear hcz15_1
        try clear hfz15_0
        try clear hfz15_1
        obtain ⟨x9_1, x195000_1, x195001_1, u195000, rfl, HA, HK1, HO_195000, BK187, BK194, HB⟩ := hrel
        cases gk with
        | zero => exact absurd HA.out (by simp [transeptlaw23_UpgradeSafe.l0])
        | succ k1 =>
          have H := HA.out
          clear HA
          simp only [transeptlaw23_UpgradeSafe.l0] at H
          have HC16 := Aside0.mk H
          clear H
          go_upto_region 8 with (fail)
          go_cut [43] (fun v43 wc => ∃ (kq : Nat) (x43_15 : Bool), v43 = .bool x43_15 ∧ Aside0 (transeptlaw23_UpgradeSafe.j1 kq (wrap64 (1 + (Int.tmod (wrap64 ((Int.tmod a0 9) + 9)) 9))) l1 x9_1 x43_15 a2_0 a2_1 a2_2 a2_3 l2_4 x195000_1 x195001_1 = some r) ∧ Aside0 (kq ≤ k1) ∧ Aside0 (Kd.R (Kd.int .i64) 3 wc w.heap.size (fun _ => True) u195000 x195000_1) ∧ Aside0 (wc.heap[gb187]? = some (.cells #[.int .i64 a2_0, .int .i64 a2_1, .int .i64 a2_2, .int .i64 a2_3, (.slice A2_4 l2_4.length c2_4)] 43 (0, 0))) ∧ Aside0 (wc.heap[gb194]? = some (.cells #[u195000, .bool x195001_1] 26 (0, 0))) ∧ Aside0 (Below w.heap.size w wc))
          case first =>
            as_aux_lemma =>
            have H := HC16.out
            clear HC16
            by_cases c17 : x9_1 < (l1.length : Int)
            · rw [if_pos c17] at H
              have c17b0 : decide (x9_1 < (l1.length : Int)) = true := decide_eq_true c17
              clear c17
              (first | rw [c17b0] | (simp only [i64_w, i32_w]; rw [c17b0]) | skip)
              have H' := Aside0.mk H
              clear H
              go_wp2
              go_meet
              case rel => exact ⟨_, (decide (x9_1 < 60)), (by first | rfl | (simp; done) | (simp [*]; done)), H', ⟨by have := HK1.out; first | omega | exact Nat.le_refl _⟩, ⟨by (with_reducible repeat (first | apply Kd.R_alloc | apply Kd.R_drewN | apply Kd.R_drew)); exact HO_195000.out⟩, ⟨by (with_reducible repeat (first | refine blk_drewN ?_ _ | refine blk_drew ?_ | refine blk_alloc ?_ _)); exact BK187.out⟩, ⟨by (with_reducible repeat (first | refine blk_drewN ?_ _ | refine blk_drew ?_ | refine blk_alloc ?_ _)); exact BK194.out⟩, ⟨by repeat (first | (with_reducible first | exact HB.out | apply below_alloc | apply pw_below_drewN | apply below_drew1 | refine below_set ?_ GE187.out | refine below_set ?_ GE194.out) | exact HB.out)⟩⟩
            · rw [if_neg c17] at H
              have c17b0 : decide (x9_1 < (l1.length : Int)) = false := decide_eq_false c17
              clear c17
              (first | rw [c17b0] | (simp only [i64_w, i32_w]; rw [c17b0]) | skip)
              have H' := Aside0.mk H
              clear H
              go_wp2
              go_meet
              case rel => exact ⟨_, (false), (by first | rfl | (simp; done) | (simp [*]; done)), H', ⟨by have := HK1.out; first | omega | exact Nat.le_refl _⟩, ⟨by (with_reducible repeat (first | apply Kd.R_alloc | apply Kd.R_drewN | apply Kd.R_drew)); exact HO_195000.out⟩, ⟨by (with_reducible repeat (first | refine blk_drewN ?_ _ | refine blk_drew ?_ | refine blk_alloc ?_ _)); exact BK187.out⟩, ⟨by (with_reducible repeat (first | refine blk_drewN ?_ _ | refine blk_drew ?_ | refine blk_alloc ?_ _)); exact BK194.out⟩, ⟨by repeat (first | (with_reducible first | exact HB.out | apply below_alloc | apply pw_below_drewN | apply below_drew1 | refine below_set ?_ GE187.out | refine below_set ?_ GE194.out) | exact HB.out)⟩⟩
          case rest =>
            as_aux_lemma =>
            clear HC16
            try clear c1
            try clear c2
            try clear p2
            try clear c5
            try clear c6
            try clear p6
            try clear c7
            try clear c8
            try clear c8b0
            try clear c8b1
            try clear c14
            try clear c15
            try clear c17
            try clear c17b0
            try clear hcz15_0
            try clear hcz15_1
            try clear hfz15_0
            try clear hfz15_1
            try clear p2
            try clear p6
            obtain ⟨kq, x43_15, rfl, HA, HJ15, HO_195000, BK187, BK194, HB⟩ := hcut
            cases kq with
            | zero => exact absurd HA.out (by simp [transeptlaw23_UpgradeSafe.j1])
            | succ kj15 =>
              have H := HA.out
              clear HA
              simp only [transeptlaw23_UpgradeSafe.j1] at H
              by_cases c18 : x43_15 = true
              · subst c18
                have H1 : (if 0 ≤ x9_1 then (if x9_1 < (l1.length : Int) then (if ((rd_T56 l1 x9_1).f0) = 0 then (if (wrap64 (1 + (Int.tmod (wrap64 ((Int.tmod a0 9) + 9)) 9))) = 0 then (none) else ((upgrade_Declare.f kj15 x195000_1 x195001_1 (Int.tmod (wrap64 ((Int.tmod ((rd_T56 l1 x9_1).f1) (wrap64 (1 + (Int.tmod (wrap64 ((Int.tmod a0 9) + 9)) 9)))) + (wrap64 (1 + (Int.tmod (wrap64 ((Int.tmod a0 9) + 9)) 9))))) (wrap64 (1 + (Int.tmod (wrap64 ((Int.tmod a0 9) + 9)) 9)))) ((rd_T56 l1 x9_1).f2)).bind fun bt200 => (transeptlaw23_UpgradeSafe.j2 kj15 (wrap64 (1 + (Int.tmod (wrap64 ((Int.tmod a0 9) + 9)) 9))) l1 x9_1 bt200.2.2 a2_0 a2_1 a2_2 a2_3 l2_4 x195000_1 x195001_1 bt200.1 bt200.2.1))) else ((upgrade_Activate.f x195000_1 x195001_1).bind fun bt205 => (transeptlaw23_UpgradeSafe.j2 kj15 (wrap64 (1 + (Int.tmod (wrap64 ((Int.tmod a0 9) + 9)) 9))) l1 x9_1 bt205.2.2 a2_0 a2_1 a2_2 a2_3 l2_4 x195000_1 x195001_1 bt205.1 bt205.2.1))) else (none)) else (none)) = some r := by rw [if_pos rfl] at H; exact H
                clear H
                have H := H1
                clear H1
                by_cases c19 : 0 ≤ x9_1
                · rw [if_pos c19] at H
                  have c19b0 : decide (0 ≤ x9_1) = true := decide_eq_true c19
                  clear c19
                  by_cases c20 : x9_1 < (l1.length : Int)
                  · rw [if_pos c20] at H
                    have c20b0 : decide (x9_1 < (l1.length : Int)) = true := decide_eq_true c20
                    clear c20
                    have HC21 := Aside0.mk H
                    clear H
                    have hnb22 := NB194_187.out
                    have hnc22 := NB187_194.out
                    have hcz23_0 : wc.cell? ⟨gb194, 0, none⟩ = some (u195000) := (blk_cell BK194.out 0).trans rfl
                    have hcz23_1 : wc.cell? ⟨gb194, 1, none⟩ = some (.bool x195001_1) := (blk_cell BK194.out 1).trans rfl
                    have hfz23_0 := blk_frozen BK194.out 0
                    have hfz23_1 := blk_frozen BK194.out 1
                    go_upto_if 52 with (first | ((with_reducible refine gate_dst (N := 10) rfl ?_); (try (refine gate_guard (by rfl) ?_; dsimp only)); refine box_event ?hg (N := 10) ?hd (cs := #[.slice none 0 0, .bool false]) (t := 26) ?hr ?_; (case hd => rfl); (case hg => rfl); (case hr => first | (go_simp; done) | (go_simp; rfl)); intro gb196 hg w24 hbox hb; have n0_ := Aside0.mk (Kd.R_below (by (with_reducible repeat (first | apply Kd.R_alloc | apply Kd.R_drewN | apply Kd.R_drew)); exact HO_195000.out) hb); have n1_ := Aside0.mk (blk_below (g := gb187) (o := .cells #[.int .i64 a2_0, .int .i64 a2_1, .int .i64 a2_2, .int .i64 a2_3, .slice A2_4 l2_4.length c2_4] 43 (0, 0)) (by (with_reducible repeat (first | refine blk_drewN ?_ _ | refine blk_drew ?_ | refine blk_alloc ?_ _)); exact BK187.out) hb); have n2_ := Aside0.mk (blk_below (g := gb194) (o := .cells #[u195000, .bool x195001_1] 26 (0, 0)) (by (with_reducible repeat (first | refine blk_drewN ?_ _ | refine blk_drew ?_ | refine blk_alloc ?_ _)); exact BK194.out) hb); have n3_ := Aside0.mk (below_step (by repeat (first | (with_reducible first | exact HB.out | apply below_alloc | apply pw_below_drewN | apply below_drew1 | refine below_set ?_ GE187.out | refine below_set ?_ GE194.out) | exact HB.out)) hb); have n4_ := Aside0.mk (hbox); have n5_ := Aside0.mk ((by rw [hg]; exact (below_size (by repeat (first | (with_reducible first | exact HB.out | apply below_alloc | apply pw_below_drewN | apply below_drew1 | refine below_set ?_ GE187.out | refine below_set ?_ GE194.out) | exact HB.out))) : w.heap.size ≤ gb196)); have n6_ := Aside0.mk ((by rw [hg]; exact (below_size (by repeat (first | (with_reducible first | exact HB.out | apply below_alloc | apply pw_below_drewN | apply below_drew1 | refine below_set ?_ GE187.out | refine below_set ?_ GE194.out) | exact HB.out))) : w.heap.size ≤ gb196)); have n7_ := Aside0.mk ((by rw [hg]; exact Nat.ne_of_lt (blk_lt (g := gb187) (o := .cells #[.int .i64 a2_0, .int .i64 a2_1, .int .i64 a2_2, .int .i64 a2_3, .slice A2_4 l2_4.length c2_4] 43 (0, 0)) (by (with_reducible repeat (first | refine blk_drewN ?_ _ | refine blk_drew ?_ | refine blk_alloc ?_ _)); exact BK187.out)) : gb187 ≠ gb196)); have n8_ := Aside0.mk ((by rw [hg]; exact Nat.ne_of_gt (blk_lt (g := gb187) (o := .cells #[.int .i64 a2_0, .int .i64 a2_1, .int .i64 a2_2, .int .i64 a2_3, .slice A2_4 l2_4.length c2_4] 43 (0, 0)) (by (with_reducible repeat (first | refine blk_drewN ?_ _ | refine blk_drew ?_ | refine blk_alloc ?_ _)); exact BK187.out)) : gb196 ≠ gb187)); have n9_ := Aside0.mk ((by rw [hg]; exact Nat.ne_of_lt (blk_lt (g := gb194) (o := .cells #[u195000, .bool x195001_1] 26 (0, 0)) (by (with_reducible repeat (first | refine blk_drewN ?_ _ | refine blk_drew ?_ | refine blk_alloc ?_ _)); exact BK194.out)) : gb194 ≠ gb196)); have n10_ := Aside0.mk ((by rw [hg]; exact Nat.ne_of_gt (blk_lt (g := gb194) (o := .cells #[u195000, .bool x195001_1] 26 (0, 0)) (by (with_reducible repeat (first | refine blk_drewN ?_ _ | refine blk_drew ?_ | refine blk_alloc ?_ _)); exact BK194.out)) : gb196 ≠ gb194)); clear HO_195000; clear BK187; clear BK194; clear HB; have HO_195000 := n0_; have BK187 := n1_; have BK194 := n2_; have HB := n3_; have BK196 := n4_; have GW196 := n5_; have GE196 := n6_; have NB187_196 := n7_; have NB196_187 := n8_; have NB194_196 := n9_; have NB196_194 := n10_; clear n0_ n1_ n2_ n3_ n4_ n5_ n6_ n7_ n8_ n9_ n10_; clear hb hbox hg; obtain ⟨Ao25, co25, eo25⟩ := Kd.R_slice HO_195000.out; subst eo25; have hnb26 := NB196_187.out; have hnc26 := NB187_196.out; have hnb27 := NB196_194.out; have hnc27 := NB194_196.out; have hcz28_0 : w24.cell? ⟨gb196, 0, none⟩ = some (.slice none 0 0) := (blk_cell BK196.out 0).trans rfl; have hcz28_1 : w24.cell? ⟨gb196, 1, none⟩ = some (.bool false) := (blk_cell BK196.out 1).trans rfl; have hfz28_0 := blk_frozen BK196.out 0; have hfz28_1 := blk_frozen BK196.out 1; have p197 : 0 ≤ (x9_1 : Int) := of_decide_eq_true (by first | (with_reducible assumption) | assumption); have q197 : x9_1 < (l1.length : Int) := of_decide_eq_true (by first | (with_reducible assumption) | assumption); obtain ⟨ad197, e197, hx197_0, hx197_1, hx197_2⟩ := at_T56 HR1.out x9_1 p197 q197; cases e197; have hn197_0 : ad197.block ≠ gb196 := Nat.ne_of_lt (Nat.lt_of_lt_of_le (by have := World.block_lt_of_cell? _ _ hx197_0; first | rwa [add_block] at this | exact this) GW196.out); have hn197_1 : ad197.block ≠ gb196 := Nat.ne_of_lt (Nat.lt_of_lt_of_le (by have := World.block_lt_of_cell? _ _ hx197_0; first | rwa [add_block] at this | exact this) GW196.out); replace hx197_0 := (HB.out.cell (World.block_lt_of_cell? w _ hx197_0)).trans hx197_0; replace hx197_1 := (HB.out.cell (World.block_lt_of_cell? w _ hx197_1)).trans hx197_1; replace hx197_2 := (HB.out.cell (World.block_lt_of_cell? w _ hx197_2)).trans hx197_2; replace hx197_0 := (cell_far (p := ⟨gb196, 0, none⟩) (by first | (rw [add_block]; exact hn197_0) | (show (Addr.add _ _).block ≠ _; rw [add_block]; exact hn197_0) | exact hn197_0) (.slice Ao25 x195000_1.length co25)).trans hx197_0; replace hx197_1 := (cell_far (p := ⟨gb196, 0, none⟩) (by first | (rw [add_block]; exact hn197_0) | (show (Addr.add _ _).block ≠ _; rw [add_block]; exact hn197_0) | exact hn197_0) (.slice Ao25 x195000_1.length co25)).trans hx197_1; replace hx197_2 := (cell_far (p := ⟨gb196, 0, none⟩) (by first | (rw [add_block]; exact hn197_0) | (show (Addr.add _ _).block ≠ _; rw [add_block]; exact hn197_0) | exact hn197_0) (.slice Ao25 x195000_1.length co25)).trans hx197_2; replace hx197_0 := (cell_far (p := ⟨gb196, 1, none⟩) (by first | (rw [add_block]; exact hn197_1) | (show (Addr.add _ _).block ≠ _; rw [add_block]; exact hn197_1) | exact hn197_1) (.bool x195001_1)).trans hx197_0; replace hx197_1 := (cell_far (p := ⟨gb196, 1, none⟩) (by first | (rw [add_block]; exact hn197_1) | (show (Addr.add _ _).block ≠ _; rw [add_block]; exact hn197_1) | exact hn197_1) (.bool x195001_1)).trans hx197_1; replace hx197_2 := (cell_far (p := ⟨gb196, 1, none⟩) (by first | (rw [add_block]; exact hn197_1) | (show (Addr.add _ _).block ≠ _; rw [add_block]; exact hn197_1) | exact hn197_1) (.bool x195001_1)).trans hx197_2; clear hn197_0; clear hn197_1; replace p197 := eq_true p197; replace q197 := eq_true q197))
                    (try simp only [Act.put, List.setIfInBounds_toArray, List.set_cons_zero, List.set_cons_succ])
                    go_cut [11] (fun v11 wc => ∃ (kq : Nat) (x11_20 : Int) (x197000_20 : List Int) (x197001_20 : Bool) (u197000 : Value), v11 = .int .i64 x11_20 ∧ Aside0 (transeptlaw23_UpgradeSafe.j2 kq (wrap64 (1 + (Int.tmod (wrap64 ((Int.tmod a0 9) + 9)) 9))) l1 x9_1 x11_20 a2_0 a2_1 a2_2 a2_3 l2_4 x195000_1 x195001_1 x197000_20 x197001_20 = some r) ∧ Aside0 (kq ≤ kj15) ∧ Aside0 (Kd.R (Kd.int .i64) 3 wc w.heap.size (fun _ => True) (.slice Ao25 x195000_1.length co25) x195000_1) ∧ Aside0 (Kd.R (Kd.int .i64) 3 wc w.heap.size (fun _ => True) u197000 x197000_20) ∧ Aside0 (wc.heap[gb187]? = some (.cells #[.int .i64 a2_0, .int .i64 a2_1, .int .i64 a2_2, .int .i64 a2_3, (.slice A2_4 l2_4.length c2_4)] 43 (0, 0))) ∧ Aside0 (wc.heap[gb194]? = some (.cells #[(.slice Ao25 x195000_1.length co25), .bool x195001_1] 26 (0, 0))) ∧ Aside0 (wc.heap[gb196]? = some (.cells #[u197000, .bool x197001_20] 26 (0, 0))) ∧ Aside0 (Below w.heap.size w wc))
                    case first =>
                      as_aux_lemma =>
                      have H := HC21.out
                      clear HC21
                      by_cases c29 : ((rd_T56 l1 x9_1).f0) = 0
                      · rw [if_pos c29] at H
                        have c29b0 : (((rd_T56 l1 x9_1).f0) == 0) = true := beq_iff_eq.mpr c29
                        have c29b1 : (((rd_T56 l1 x9_1).f0) != 0) = false := bne_eq_false_iff_eq.mpr c29
                        clear c29
                        (first | rw [c29b0] | (simp only [i64_w, i32_w]; rw [c29b0]) | skip)
                        by_cases c30 : (wrap64 (1 + (Int.tmod (wrap64 ((Int.tmod a0 9) + 9)) 9))) = 0
                        · rw [if_pos c30] at H
                          exact absurd H (by simp)
                        · rw [if_neg c30] at H
                          have c30b0 : ((wrap64 (1 + (Int.tmod (wrap64 ((Int.tmod a0 9) + 9)) 9))) == 0) = false := beq_eq_false_iff_ne.mpr c30
                          have c30b1 : ((wrap64 (1 + (Int.tmod (wrap64 ((Int.tmod a0 9) + 9)) 9))) != 0) = true := bne_iff_ne.mpr c30
                          replace H := Option.bind_eq_some_iff.mp H
                          obtain ⟨⟨t200, t203, t204⟩, A310, H⟩ := H
                          replace H : (transeptlaw23_UpgradeSafe.j2 kj15 (wrap64 (1 + (Int.tmod (wrap64 ((Int.tmod a0 9) + 9)) 9))) l1 x9_1 t204 a2_0 a2_1 a2_2 a2_3 l2_4 x195000_1 x195001_1 t200 t203) = some r := H
                          have A31 := Aside0.mk A310
                          clear A310
                          have H' := Aside0.mk H
                          clear H
                          try go_wp2
                          have n0_ : Aside0 (Kd.R (Kd.int .i64) 3 ((w24.setCell ⟨gb196, 0, none⟩ (.slice Ao25 x195000_1.length co25)).setCell ⟨gb196, 1, none⟩ (.bool x195001_1)) w.heap.size (fun _ => True) (.slice Ao25 x195000_1.length co25) x195000_1) := ⟨by (with_reducible repeat (first | apply Kd.R_alloc | apply Kd.R_drewN | apply Kd.R_drew)); exact Kd.R_mono (Kd.R_far (p := ⟨gb196, 1, none⟩) (Kd.R_far (p := ⟨gb196, 0, none⟩) (Kd.R_types HO_195000.out BK196.out (by decide)) (fun _ hk => hk.2) (.slice Ao25 x195000_1.length co25)) (fun _ hk => hk.2) (.bool x195001_1)) (fun _ hk => trivial)⟩
                          have n1_ : Aside0 (((w24.setCell ⟨gb196, 0, none⟩ (.slice Ao25 x195000_1.length co25)).setCell ⟨gb196, 1, none⟩ (.bool x195001_1)).heap[gb187]? = some (.cells #[.int .i64 a2_0, .int .i64 a2_1, .int .i64 a2_2, .int .i64 a2_3, .slice A2_4 l2_4.length c2_4] 43 (0, 0))) := ⟨by (with_reducible repeat (first | refine blk_drewN ?_ _ | refine blk_drew ?_ | refine blk_alloc ?_ _)); refine blk_far ?_ NB187_196.out _; (with_reducible repeat (first | refine blk_drewN ?_ _ | refine blk_drew ?_ | refine blk_alloc ?_ _)); refine blk_far ?_ NB187_196.out _; (with_reducible repeat (first | refine blk_drewN ?_ _ | refine blk_drew ?_ | refine blk_alloc ?_ _)); exact BK187.out⟩
                          have n2_ : Aside0 (((w24.setCell ⟨gb196, 0, none⟩ (.slice Ao25 x195000_1.length co25)).setCell ⟨gb196, 1, none⟩ (.bool x195001_1)).heap[gb194]? = some (.cells #[.slice Ao25 x195000_1.length co25, .bool x195001_1] 26 (0, 0))) := ⟨by (with_reducible repeat (first | refine blk_drewN ?_ _ | refine blk_drew ?_ | refine blk_alloc ?_ _)); refine blk_far ?_ NB194_196.out _; (with_reducible repeat (first | refine blk_drewN ?_ _ | refine blk_drew ?_ | refine blk_alloc ?_ _)); refine blk_far ?_ NB194_196.out _; (with_reducible repeat (first | refine blk_drewN ?_ _ | refine blk_drew ?_ | refine blk_alloc ?_ _)); exact BK194.out⟩
                          have n3_ : Aside0 (((w24.setCell ⟨gb196, 0, none⟩ (.slice Ao25 x195000_1.length co25)).setCell ⟨gb196, 1, none⟩ (.bool x195001_1)).heap[gb196]? = some (.cells #[.slice Ao25 x195000_1.length co25, .bool x195001_1] 26 (0, 0))) := ⟨by (with_reducible repeat (first | refine blk_drewN ?_ _ | refine blk_drew ?_ | refine blk_alloc ?_ _)); refine blk_put (cs := #[.slice Ao25 x195000_1.length co25, .bool false]) ?_ 1 _ rfl; (with_reducible repeat (first | refine blk_drewN ?_ _ | refine blk_drew ?_ | refine blk_alloc ?_ _)); refine blk_put (cs := #[.slice none 0 0, .bool false]) ?_ 0 _ rfl; (with_reducible repeat (first | refine blk_drewN ?_ _ | refine blk_drew ?_ | refine blk_alloc ?_ _)); exact BK196.out⟩
                          have n4_ : Aside0 (Below w.heap.size w ((w24.setCell ⟨gb196, 0, none⟩ (.slice Ao25 x195000_1.length co25)).setCell ⟨gb196, 1, none⟩ (.bool x195001_1))) := ⟨by repeat (first | (with_reducible first | exact HB.out | apply below_alloc | apply pw_below_drewN | apply below_drew1 | refine below_set ?_ GE187.out | refine below_set ?_ GE194.out | refine below_set ?_ GE196.out) | exact HB.out)⟩
                          (try clear HO_195000)
                          (try clear BK187)
                          (try clear BK194)
                          (try clear BK196)
                          (try clear HB)
                          generalize ((w24.setCell ⟨gb196, 0, none⟩ (.slice Ao25 x195000_1.length co25)).setCell ⟨gb196, 1, none⟩ (.bool x195001_1)) = w32 at n0_ n1_ n2_ n3_ n4_ ⊢
                          have HO_195000 := n0_
                          have BK187 := n1_
                          have BK194 := n2_
                          have BK196 := n3_
                          have HB := n4_
                          clear n0_ n1_ n2_ n3_ n4_
                          have n0_ := Aside0.mk (Kd.R_drew HO_195000.out)
                          have n1_ := Aside0.mk (blk_drew BK187.out)
                          have n2_ := Aside0.mk (blk_drew BK194.out)
                          have n3_ := Aside0.mk (blk_drew BK196.out)
                          have n4_ := Aside0.mk (below_drew1 HB.out)
                          clear HO_195000
                          clear BK187
                          clear BK194
                          clear BK196
                          clear HB
                          have HO_195000 := n0_
                          have BK187 := n1_
                          have BK194 := n2_
                          have BK196 := n3_
                          have HB := n4_
                          clear n0_ n1_ n2_ n3_ n4_
                          have p198 : 0 ≤ (x9_1 : Int) := of_decide_eq_true (by first | (with_reducible assumption) | assumption)
                          have q198 : x9_1 < (l1.length : Int) := of_decide_eq_true (by first | (with_reducible assumption) | assumption)
                          obtain ⟨ad198, e198, hx198_0, hx198_1, hx198_2⟩ := at_T56 HR1.out x9_1 p198 q198
                          have hw198_2 := hx198_2
                          have hw198_1 := hx198_1
                          have hw198_0 := hx198_0
                          obtain rfl : ad197 = ad198 := (by injection e198)
                          replace hx198_0 := (HB.out.cell (World.block_lt_of_cell? w _ hx198_0)).trans hx198_0
                          replace hx198_1 := (HB.out.cell (World.block_lt_of_cell? w _ hx198_1)).trans hx198_1
                          replace hx198_2 := (HB.out.cell (World.block_lt_of_cell? w _ hx198_2)).trans hx198_2
                          replace p198 := eq_true p198
                          replace q198 := eq_true q198
                          have p199 : 0 ≤ (x9_1 : Int) := of_decide_eq_true (by first | (with_reducible assumption) | assumption)
                          have q199 : x9_1 < (l1.length : Int) := of_decide_eq_true (by first | (with_reducible assumption) | assumption)
                          obtain ⟨ad199, e199, hx199_0, hx199_1, hx199_2⟩ := at_T56 HR1.out x9_1 p199 q199
                          have hw199_2 := hx199_2
                          have hw199_1 := hx199_1
                          have hw199_0 := hx199_0
                          obtain rfl : ad197 = ad199 := (by injection e199)
                          replace hx199_0 := (HB.out.cell (World.block_lt_of_cell? w _ hx199_0)).trans hx199_0
                          replace hx199_1 := (HB.out.cell (World.block_lt_of_cell? w _ hx199_1)).trans hx199_1
                          replace hx199_2 := (HB.out.cell (World.block_lt_of_cell? w _ hx199_2)).trans hx199_2
                          replace p199 := eq_true p199
                          replace q199 := eq_true q199
                          refine start_ (n := 23) (S := fun w' => w'.cell? ⟨gb194, 0, none⟩ = some (.slice Ao25 x195000_1.length co25) ∧ w'.cell? ⟨gb194, 1, none⟩ = some (.bool x195001_1) ∧ w'.cell? (ad197.add ((x9_1).toNat * 3)) = some (.int .i64 ((rd_T56 l1 x9_1).f0)) ∧ w'.cell? ⟨(ad197.add ((x9_1).toNat * 3)).block, (ad197.add ((x9_1).toNat * 3)).off + 1, none⟩ = some (.int .i64 ((rd_T56 l1 x9_1).f1)) ∧ w'.cell? ⟨(ad197.add ((x9_1).toNat * 3)).block, (ad197.add ((x9_1).toNat * 3)).off + 2, none⟩ = some (.int .i64 ((rd_T56 l1 x9_1).f2)) ∧ w'.cell? (ad197.add ((x9_1).toNat * 3)) = some (.int .i64 ((rd_T56 l1 x9_1).f0)) ∧ w'.cell? ⟨(ad197.add ((x9_1).toNat * 3)).block, (ad197.add ((x9_1).toNat * 3)).off + 1, none⟩ = some (.int .i64 ((rd_T56 l1 x9_1).f1)) ∧ w'.cell? ⟨(ad197.add ((x9_1).toNat * 3)).block, (ad197.add ((x9_1).toNat * 3)).off + 2, none⟩ = some (.int .i64 ((rd_T56 l1 x9_1).f2))) (ds := []) #[false, false, false, false, false, false, false, false, false, false, false, false, false, false, false, false, false, false, false, false, false, false, false] (by kernel_rfl) rfl rfl ⟨(blk_cell BK194.out 0).trans rfl, (blk_cell BK194.out 1).trans rfl, ((HB.out.cell (World.block_lt_of_cell? w _ hw198_0)).trans hw198_0), ((HB.out.cell (World.block_lt_of_cell? w _ hw198_1)).trans hw198_1), ((HB.out.cell (World.block_lt_of_cell? w _ hw198_2)).trans hw198_2), ((HB.out.cell (World.block_lt_of_cell? w _ hw199_0)).trans hw199_0), ((HB.out.cell (World.block_lt_of_cell? w _ hw199_1)).trans hw199_1), ((HB.out.cell (World.block_lt_of_cell? w _ hw199_2)).trans hw199_2)⟩ (fun hHeld => ?_); refine with_tabW transeptlaw23_UpgradeSafe.tab12 transeptlaw23_UpgradeSafe.bits12 (fun HT_ HW_ => ?_)
                          generalize w32.drew = w33 at HO_195000 BK187 BK194 BK196 HB hx198_0 hx198_1 hx198_2 hx199_0 hx199_1 hx199_2 hHeld ⊢
                          refine pure_ (i := 1) (N := some 55) (v := ?_) (a' := ?_) #[false, true, false, false, false, false, false, false, false, false, false, false, false, false, false, false, false, false, false, false, false, false, false] rfl rfl (any_of HT_.out (by kernel_rfl)) (fun _ _ _ h => h) (Or.inl ⟨by rfl, ?_⟩) ?_ ?_
                          rotate_left
                          · intro w'
                            go_simp
                            with_reducible rfl
                          rotate_left
                          · simp only [Act.put, List.setIfInBounds_toArray, List.set_cons_zero, List.set_cons_succ, i64_w, i32_w]
                            rfl
                          refine pure_ (i := 2) (N := some 56) (v := ?_) (a' := ?_) #[false, true, true, false, false, false, false, false, false, false, false, false, false, false, false, false, false, false, false, false, false, false, false] rfl rfl (any_of HT_.out (by kernel_rfl)) (fun _ _ _ h => h) (Or.inl ⟨by rfl, ?_⟩) ?_ ?_
                          rotate_left
                          · intro w'
                            go_simp
                            with_reducible rfl
                          rotate_left
                          · simp only [Act.put, List.setIfInBounds_toArray, List.set_cons_zero, List.set_cons_succ, i64_w, i32_w]
                            rfl
                          refine pure_ (i := 3) (N := some 57) (v := ?_) (a' := ?_) #[false, true, true, true, false, false, false, false, false, false, false, false, false, false, false, false, false, false, false, false, false, false, false] rfl rfl (any_of HT_.out (by kernel_rfl)) (fun _ _ _ h => h) (Or.inl ⟨by rfl, ?_⟩) ?_ ?_
                          rotate_left
                          · intro w'
                            go_simp
                            with_reducible rfl
                          rotate_left
                          · simp only [Act.put, List.setIfInBounds_toArray, List.set_cons_zero, List.set_cons_succ, i64_w, i32_w]
                            rfl
                          refine pure_ (i := 4) (N := some 58) (v := ?_) (a' := ?_) #[false, true, true, true, true, false, false, false, false, false, false, false, false, false, false, false, false, false, false, false, false, false, false] rfl rfl (any_of HT_.out (by kernel_rfl)) (fun _ _ _ h => h) (Or.inl ⟨by rfl, ?_⟩) ?_ ?_
                          rotate_left
                          · intro w'
                            go_simp
                            with_reducible rfl
                          rotate_left
                          · simp only [Act.put, List.setIfInBounds_toArray, List.set_cons_zero, List.set_cons_succ, i64_w, i32_w]
                            rfl
                          refine pure_ (i := 6) (N := some 60) (v := ?_) (a' := ?_) #[false, true, true, true, true, false, true, false, false, false, false, false, false, false, false, false, false, false, false, false, false, false, false] rfl rfl (any_of HT_.out (by kernel_rfl)) (fun _ _ _ h => h) (Or.inl ⟨by rfl, ?_⟩) ?_ ?_
                          rotate_left
                          · intro w'
                            go_simp
                            with_reducible rfl
                          rotate_left
                          · simp only [Act.put, List.setIfInBounds_toArray, List.set_cons_zero, List.set_cons_succ, i64_w, i32_w]
                            rfl
                          refine pure_ (i := 8) (N := some 62) (v := ?_) (a' := ?_) #[false, true, true, true, true, false, true, false, true, false, false, false, false, false, false, false, false, false, false, false, false, false, false] rfl rfl (any_of HT_.out (by kernel_rfl)) (fun _ _ _ h => h) (Or.inl ⟨by rfl, ?_⟩) ?_ ?_
                          rotate_left
                          · intro w'
                            go_simp
                            with_reducible rfl
                          rotate_left
                          · simp only [Act.put, List.setIfInBounds_toArray, List.set_cons_zero, List.set_cons_succ, i64_w, i32_w]
                            rfl
                          refine pure_ (i := 10) (N := some 64) (v := ?_) (a' := ?_) #[false, true, true, true, true, false, true, false, true, false, true, false, false, false, false, false, false, false, false, false, false, false, false] rfl rfl (any_of HT_.out (by kernel_rfl)) (fun _ _ _ h => h) (Or.inl ⟨by rfl, ?_⟩) ?_ ?_
                          rotate_left
                          · intro w'
                            go_simp
                            with_reducible rfl
                          rotate_left
                          · simp only [Act.put, List.setIfInBounds_toArray, List.set_cons_zero, List.set_cons_succ, i64_w, i32_w]
                            rfl
                          refine pure_ (i := 12) (N := some 66) (v := ?_) (a' := ?_) #[false, true, true, true, true, false, true, false, true, false, true, false, true, false, false, false, false, false, false, false, false, false, false] rfl rfl (any_of HT_.out (by kernel_rfl)) (fun _ _ _ h => h) (Or.inl ⟨by rfl, ?_⟩) ?_ ?_
                          rotate_left
                          · intro w'
                            go_simp
                            with_reducible rfl
                          rotate_left
                          · simp only [Act.put, List.setIfInBounds_toArray, List.set_cons_zero, List.set_cons_succ, i64_w, i32_w]
                            rfl
                          refine pure_ (i := 13) (N := some 67) (v := ?_) (a' := ?_) #[false, true, true, true, true, false, true, false, true, false, true, false, true, true, false, false, false, false, false, false, false, false, false] rfl rfl (any_of HT_.out (by kernel_rfl)) (fun _ _ _ h => h) (Or.inl ⟨by rfl, ?_⟩) ?_ ?_
                          rotate_left
                          · intro w'
                            go_simp
                            with_reducible rfl
                          rotate_left
                          · simp only [Act.put, List.setIfInBounds_toArray, List.set_cons_zero, List.set_cons_succ, i64_w, i32_w]
                            rfl
                          refine pure_ (i := 14) (N := some 68) (v := ?_) (a' := ?_) #[false, true, true, true, true, false, true, false, true, false, true, false, true, true, true, false, false, false, false, false, false, false, false] rfl rfl (any_of HT_.out (by kernel_rfl)) (fun _ _ _ h => h) (Or.inl ⟨by rfl, ?_⟩) ?_ ?_
                          rotate_left
                          · intro w'
                            go_simp
                            with_reducible rfl
                          rotate_left
                          · simp only [Act.put, List.setIfInBounds_toArray, List.set_cons_zero, List.set_cons_succ, i64_w, i32_w]
                            rfl
                          refine pure_ (i := 15) (N := some 69) (v := ?_) (a' := ?_) #[false, true, true, true, true, false, true, false, true, false, true, false, true, true, true, true, false, false, false, false, false, false, false] rfl rfl (any_of HT_.out (by kernel_rfl)) (fun _ _ _ h => h) (Or.inl ⟨by rfl, ?_⟩) ?_ ?_
                          rotate_left
                          · intro w'
                            go_simp
                            with_reducible rfl
                          rotate_left
                          · simp only [Act.put, List.setIfInBounds_toArray, List.set_cons_zero, List.set_cons_succ, i64_w, i32_w]
                            rfl
                          refine take_ (i := 0) (N := some 54) (v := ?_) (a' := ?_) #[true, true, true, true, true, false, true, false, true, false, true, false, true, true, true, true, false, false, false, false, false, false, false] rfl rfl (take_ofW HT_.out HW_.out (by kernel_rfl)) (fun _ _ _ h => h) (Or.inl ⟨by rfl, ?_⟩) hHeld ?_ ?_
                          rotate_left
                          · rintro w' ⟨s0, s1, s2, s3, s4, s5, s6, s7⟩
                            go_simp
                            with_reducible rfl
                          rotate_left
                          · simp only [Act.put, List.setIfInBounds_toArray, List.set_cons_zero, List.set_cons_succ, i64_w, i32_w]
                            rfl
                          refine take_ (i := 5) (N := some 59) (v := ?_) (a' := ?_) #[true, true, true, true, true, true, true, false, true, false, true, false, true, true, true, true, false, false, false, false, false, false, false] rfl rfl (take_ofW HT_.out HW_.out (by kernel_rfl)) (fun _ _ _ h => h) (Or.inl ⟨by rfl, ?_⟩) hHeld ?_ ?_
                          rotate_left
                          · rintro w' ⟨s0, s1, s2, s3, s4, s5, s6, s7⟩
                            go_simp
                            with_reducible rfl
                          rotate_left
                          · simp only [Act.put, List.setIfInBounds_toArray, List.set_cons_zero, List.set_cons_succ, i64_w, i32_w]
                            rfl
                          refine pure_ (i := 7) (N := some 61) (v := ?_) (a' := ?_) #[true, true, true, true, true, true, true, true, true, false, true, false, true, true, true, true, false, false, false, false, false, false, false] rfl rfl (any_of HT_.out (by kernel_rfl)) (fun _ _ _ h => h) (Or.inl ⟨by rfl, ?_⟩) ?_ ?_
                          rotate_left
                          · intro w'
                            go_simp
                            with_reducible rfl
                          rotate_left
                          · simp only [Act.put, List.setIfInBounds_toArray, List.set_cons_zero, List.set_cons_succ, i64_w, i32_w]
                            rfl
                          refine pure_ (i := 9) (N := some 63) (v := ?_) (a' := ?_) #[true, true, true, true, true, true, true, true, true, true, true, false, true, true, true, true, false, false, false, false, false, false, false] rfl rfl (any_of HT_.out (by kernel_rfl)) (fun _ _ _ h => h) (Or.inl ⟨by rfl, ?_⟩) ?_ ?_
                          rotate_left
                          · intro w'
                            go_simp
                            with_reducible rfl
                          rotate_left
                          · simp only [Act.put, List.setIfInBounds_toArray, List.set_cons_zero, List.set_cons_succ, i64_w, i32_w]
                            rfl
                          refine pure_ (i := 11) (N := some 65) (v := ?_) (a' := ?_) #[true, true, true, true, true, true, true, true, true, true, true, true, true, true, true, true, false, false, false, false, false, false, false] rfl rfl (any_of HT_.out (by kernel_rfl)) (fun _ _ _ h => h) (Or.inl ⟨by rfl, ?_⟩) ?_ ?_
                          rotate_left
                          · intro w'
                            go_simp
                            with_reducible rfl
                          rotate_left
                          · simp only [Act.put, List.setIfInBounds_toArray, List.set_cons_zero, List.set_cons_succ, i64_w, i32_w]
                            rfl
                          refine take_ (i := 16) (N := some 70) (v := ?_) (a' := ?_) #[true, true, true, true, true, true, true, true, true, true, true, true, true, true, true, true, true, false, false, false, false, false, false] rfl rfl (take_ofW HT_.out HW_.out (by kernel_rfl)) (fun _ _ _ h => h) (Or.inl ⟨by rfl, ?_⟩) hHeld ?_ ?_
                          rotate_left
                          · rintro w' ⟨s0, s1, s2, s3, s4, s5, s6, s7⟩
                            go_simp
                            with_reducible rfl
                          rotate_left
                          · simp only [Act.put, List.setIfInBounds_toArray, List.set_cons_zero, List.set_cons_succ, i64_w, i32_w]
                            rfl
                          refine one_ (i := 17) (N := some 71) #[true, true, true, true, true, true, true, true, true, true, true, true, true, true, true, true, true, true, false, false, false, false, false] rfl rfl (one_of HT_.out (by kernel_rfl)) (by decide) (fun K hK => ?_)
                          refine goes_ Try.func9 (by kernel_rfl) rfl #[.agg #[.slice Ao25 x195000_1.length co25, .bool x195001_1], .int .i64 (Int.tmod (wrap64 ((Int.tmod ((rd_T56 l1 x9_1).f1) (wrap64 (1 + (Int.tmod (wrap64 ((Int.tmod a0 9) + 9)) 9)))) + (wrap64 (1 + (Int.tmod (wrap64 ((Int.tmod a0 9) + 9)) 9))))) (wrap64 (1 + (Int.tmod (wrap64 ((Int.tmod a0 9) + 9)) 9)))), .int .i64 ((rd_T56 l1 x9_1).f2)] (by rfl) rfl rfl (by (try simp only [List.map_toArray, List.map_cons, List.map_nil]); first | done | rfl | (simp only [List.length_drop, List.length_take]; rfl)) ?_
                          with_reducible refine (upgrade_Declare.calls kj15 _ _ x195000_1 x195001_1 (Int.tmod (wrap64 ((Int.tmod ((rd_T56 l1 x9_1).f1) (wrap64 (1 + (Int.tmod (wrap64 ((Int.tmod a0 9) + 9)) 9)))) + (wrap64 (1 + (Int.tmod (wrap64 ((Int.tmod a0 9) + 9)) 9))))) (wrap64 (1 + (Int.tmod (wrap64 ((Int.tmod a0 9) + 9)) 9)))) ((rd_T56 l1 x9_1).f2) t200 t203 t204 _ ?side1 ?side2 A31.out).mono ?_
                          (case side1 => repeat (first | exact (Kd.R_reads' HO_195000.out).2.2 | (with_reducible refine Kd.C_alloc ?_ _) | (with_reducible refine Kd.C_drewN ?_ _) | (with_reducible refine Kd.C_drew ?_)))
                          (case side2 => exact (Kd.R_reads' HO_195000.out).2.1)
                          rintro e w34 ⟨v201, rfl, ho0, hb⟩
                          refine ⟨_, rfl, ?_⟩
                          have n0_ := Aside0.mk (Kd.R_elder' (by (with_reducible repeat (first | apply Kd.R_alloc | apply Kd.R_drewN | apply Kd.R_drew)); exact HO_195000.out) (Kd.R_base ho0) hb)
                          have n1_ := Aside0.mk (Kd.R_lower (Kd.R_new' ho0 (Kd.R_lt (by (with_reducible repeat (first | apply Kd.R_alloc | apply Kd.R_drewN | apply Kd.R_drew)); exact HO_195000.out))) (below_size (by repeat (first | (with_reducible first | exact HB.out | apply below_alloc | apply pw_below_drewN | apply below_drew1 | refine below_set ?_ GE187.out | refine below_set ?_ GE194.out | refine below_set ?_ GE196.out) | exact HB.out))))
                          have n2_ := Aside0.mk (blk_below (g := gb187) (o := .cells #[.int .i64 a2_0, .int .i64 a2_1, .int .i64 a2_2, .int .i64 a2_3, .slice A2_4 l2_4.length c2_4] 43 (0, 0)) (by (with_reducible repeat (first | refine blk_drewN ?_ _ | refine blk_drew ?_ | refine blk_alloc ?_ _)); exact BK187.out) hb)
                          have n3_ := Aside0.mk (blk_below (g := gb194) (o := .cells #[.slice Ao25 x195000_1.length co25, .bool x195001_1] 26 (0, 0)) (by (with_reducible repeat (first | refine blk_drewN ?_ _ | refine blk_drew ?_ | refine blk_alloc ?_ _)); exact BK194.out) hb)
                          have n4_ := Aside0.mk (blk_below (g := gb196) (o := .cells #[.slice Ao25 x195000_1.length co25, .bool x195001_1] 26 (0, 0)) (by (with_reducible repeat (first | refine blk_drewN ?_ _ | refine blk_drew ?_ | refine blk_alloc ?_ _)); exact BK196.out) hb)
                          have n5_ := Aside0.mk (below_step (by repeat (first | (with_reducible first | exact HB.out | apply below_alloc | apply pw_below_drewN | apply below_drew1 | refine below_set ?_ GE187.out | refine below_set ?_ GE194.out | refine below_set ?_ GE196.out) | exact HB.out)) hb)
                          clear HO_195000
                          clear BK187
                          clear BK194
                          clear BK196
                          clear HB
                          have HO_195000 := n0_
                          have HO202 := n1_
                          have BK187 := n2_
                          have BK194 := n3_
                          have BK196 := n4_
                          have HB := n5_
                          clear n0_ n1_ n2_ n3_ n4_ n5_
                          (try clear hb)
                          (try clear hb2)
                          (try clear hk)
                          (try clear hi)
                          (try clear ho0)
                          obtain ⟨Ao35, co35, eo35⟩ := Kd.R_slice HO202.out
                          (first | subst eo35 | (injection eo35 with f1_ f2_ f3_; have f4_ := f1_.symm; have f5_ := f3_.symm; clear f1_ f2_ f3_; subst f4_; subst f5_))
                          refine hK.out _ _ ⟨(blk_cell BK194.out 0).trans rfl, (blk_cell BK194.out 1).trans rfl, ((HB.out.cell (World.block_lt_of_cell? w _ hw198_0)).trans hw198_0), ((HB.out.cell (World.block_lt_of_cell? w _ hw198_1)).trans hw198_1), ((HB.out.cell (World.block_lt_of_cell? w _ hw198_2)).trans hw198_2), ((HB.out.cell (World.block_lt_of_cell? w _ hw199_0)).trans hw199_0), ((HB.out.cell (World.block_lt_of_cell? w _ hw199_1)).trans hw199_1), ((HB.out.cell (World.block_lt_of_cell? w _ hw199_2)).trans hw199_2)⟩ (fun hHeld => ?_)
                          clear hK K
                          refine norm_ (a' := ?_) ?_ ?_
                          rotate_left
                          · show Act.put _ (some 71) _ = _
                            simp only [Act.put, List.setIfInBounds_toArray, List.set_cons_zero, List.set_cons_succ, i64_w, i32_w]
                            rfl
                          refine pure_ (i := 18) (N := some 53) (v := ?_) (a' := ?_) #[true, true, true, true, true, true, true, true, true, true, true, true, true, true, true, true, true, true, true, false, false, false, false] rfl rfl (any_of HT_.out (by kernel_rfl)) (fun _ _ _ h => h) (Or.inl ⟨by rfl, ?_⟩) ?_ ?_
                          rotate_left
                          · intro w'
                            go_simp
                            with_reducible rfl
                          rotate_left
                          · simp only [Act.put, List.setIfInBounds_toArray, List.set_cons_zero, List.set_cons_succ, i64_w, i32_w]
                            rfl
                          refine pure_ (i := 19) (N := some 72) (v := ?_) (a' := ?_) #[true, true, true, true, true, true, true, true, true, true, true, true, true, true, true, true, true, true, true, true, false, false, false] rfl rfl (any_of HT_.out (by kernel_rfl)) (fun _ _ _ h => h) (Or.inl ⟨by rfl, ?_⟩) ?_ ?_
                          rotate_left
                          · intro w'
                            go_simp
                            with_reducible rfl
                          rotate_left
                          · simp only [Act.put, List.setIfInBounds_toArray, List.set_cons_zero, List.set_cons_succ, i64_w, i32_w]
                            rfl
                          refine pure_ (i := 20) (N := some 73) (v := ?_) (a' := ?_) #[true, true, true, true, true, true, true, true, true, true, true, true, true, true, true, true, true, true, true, true, true, false, false] rfl rfl (any_of HT_.out (by kernel_rfl)) (fun _ _ _ h => h) (Or.inl ⟨by rfl, ?_⟩) ?_ ?_
                          rotate_left
                          · intro w'
                            go_simp
                            with_reducible rfl
                          rotate_left
                          · simp only [Act.put, List.setIfInBounds_toArray, List.set_cons_zero, List.set_cons_succ, i64_w, i32_w]
                            rfl
                          refine one_ (i := 21) (N := none) #[true, true, true, true, true, true, true, true, true, true, true, true, true, true, true, true, true, true, true, true, true, true, false] rfl rfl (one_of HT_.out (by kernel_rfl)) (by decide) (fun K hK => ?_)
                          have hs36 : w34.cell? ⟨gb196, 0, none⟩ = some (.slice Ao25 x195000_1.length co25) := (blk_cell BK196.out 0).trans rfl
                          have hfs36 := blk_frozen BK196.out 0
                          have hns36_0 := NB187_196.out
                          have hns36_1 := NB194_196.out
                          have hms36_0 := NB196_187.out
                          have hms36_1 := NB196_194.out
                          have hs37 : w34.cell? ⟨gb196, 1, none⟩ = some (.bool x195001_1) := (blk_cell BK196.out 1).trans rfl
                          have hfs37 := blk_frozen BK196.out 1
                          have hns37_0 := NB187_196.out
                          have hns37_1 := NB194_196.out
                          have hms37_0 := NB196_187.out
                          have hms37_1 := NB196_194.out
                          refine skip_ (w1 := ?_) (by rfl) rfl ?_ ?_
                          rotate_left
                          · go_simp
                            rfl
                          refine hK.out _ _ ⟨((cell_far (p := ⟨gb196, _, none⟩) NB194_196.out _).trans (((cell_far (p := ⟨gb196, _, none⟩) NB194_196.out _).trans (hHeld.1)))), ((cell_far (p := ⟨gb196, _, none⟩) NB194_196.out _).trans (((cell_far (p := ⟨gb196, _, none⟩) NB194_196.out _).trans (hHeld.2.1)))), ((cell_far (p := ⟨gb196, _, none⟩) (by first | exact Nat.ne_of_lt (Nat.lt_of_lt_of_le (by have := World.block_lt_of_cell? _ _ hw198_0; first | rwa [add_block] at this | exact this) GW196.out) | (rw [add_block]; exact Nat.ne_of_lt (Nat.lt_of_lt_of_le (by have := World.block_lt_of_cell? _ _ hw198_0; first | rwa [add_block] at this | exact this) GW196.out)) | (show (Addr.add _ _).block ≠ _; rw [add_block]; exact Nat.ne_of_lt (Nat.lt_of_lt_of_le (by have := World.block_lt_of_cell? _ _ hw198_0; first | rwa [add_block] at this | exact this) GW196.out)) | (dsimp only; exact Nat.ne_of_lt (Nat.lt_of_lt_of_le (by have := World.block_lt_of_cell? _ _ hw198_0; first | rwa [add_block] at this | exact this) GW196.out))) _).trans (((cell_far (p := ⟨gb196, _, none⟩) (by first | exact Nat.ne_of_lt (Nat.lt_of_lt_of_le (by have := World.block_lt_of_cell? _ _ hw198_0; first | rwa [add_block] at this | exact this) GW196.out) | (rw [add_block]; exact Nat.ne_of_lt (Nat.lt_of_lt_of_le (by have := World.block_lt_of_cell? _ _ hw198_0; first | rwa [add_block] at this | exact this) GW196.out)) | (show (Addr.add _ _).block ≠ _; rw [add_block]; exact Nat.ne_of_lt (Nat.lt_of_lt_of_le (by have := World.block_lt_of_cell? _ _ hw198_0; first | rwa [add_block] at this | exact this) GW196.out)) | (dsimp only; exact Nat.ne_of_lt (Nat.lt_of_lt_of_le (by have := World.block_lt_of_cell? _ _ hw198_0; first | rwa [add_block] at this | exact this) GW196.out))) _).trans (hHeld.2.2.1)))), ((cell_far (p := ⟨gb196, _, none⟩) (by first | exact Nat.ne_of_lt (Nat.lt_of_lt_of_le (by have := World.block_lt_of_cell? _ _ hw198_1; first | rwa [add_block] at this | exact this) GW196.out) | (rw [add_block]; exact Nat.ne_of_lt (Nat.lt_of_lt_of_le (by have := World.block_lt_of_cell? _ _ hw198_1; first | rwa [add_block] at this | exact this) GW196.out)) | (show (Addr.add _ _).block ≠ _; rw [add_block]; exact Nat.ne_of_lt (Nat.lt_of_lt_of_le (by have := World.block_lt_of_cell? _ _ hw198_1; first | rwa [add_block] at this | exact this) GW196.out)) | (dsimp only; exact Nat.ne_of_lt (Nat.lt_of_lt_of_le (by have := World.block_lt_of_cell? _ _ hw198_1; first | rwa [add_block] at this | exact this) GW196.out))) _).trans (((cell_far (p := ⟨gb196, _, none⟩) (by first | exact Nat.ne_of_lt (Nat.lt_of_lt_of_le (by have := World.block_lt_of_cell? _ _ hw198_1; first | rwa [add_block] at this | exact this) GW196.out) | (rw [add_block]; exact Nat.ne_of_lt (Nat.lt_of_lt_of_le (by have := World.block_lt_of_cell? _ _ hw198_1; first | rwa [add_block] at this | exact this) GW196.out)) | (show (Addr.add _ _).block ≠ _; rw [add_block]; exact Nat.ne_of_lt (Nat.lt_of_lt_of_le (by have := World.block_lt_of_cell? _ _ hw198_1; first | rwa [add_block] at this | exact this) GW196.out)) | (dsimp only; exact Nat.ne_of_lt (Nat.lt_of_lt_of_le (by have := World.block_lt_of_cell? _ _ hw198_1; first | rwa [add_block] at this | exact this) GW196.out))) _).trans (hHeld.2.2.2.1)))), ((cell_far (p := ⟨gb196, _, none⟩) (by first | exact Nat.ne_of_lt (Nat.lt_of_lt_of_le (by have := World.block_lt_of_cell? _ _ hw198_2; first | rwa [add_block] at this | exact this) GW196.out) | (rw [add_block]; exact Nat.ne_of_lt (Nat.lt_of_lt_of_le (by have := World.block_lt_of_cell? _ _ hw198_2; first | rwa [add_block] at this | exact this) GW196.out)) | (show (Addr.add _ _).block ≠ _; rw [add_block]; exact Nat.ne_of_lt (Nat.lt_of_lt_of_le (by have := World.block_lt_of_cell? _ _ hw198_2; first | rwa [add_block] at this | exact this) GW196.out)) | (dsimp only; exact Nat.ne_of_lt (Nat.lt_of_lt_of_le (by have := World.block_lt_of_cell? _ _ hw198_2; first | rwa [add_block] at this | exact this) GW196.out))) _).trans (((cell_far (p := ⟨gb196, _, none⟩) (by first | exact Nat.ne_of_lt (Nat.lt_of_lt_of_le (by have := World.block_lt_of_cell? _ _ hw198_2; first | rwa [add_block] at this | exact this) GW196.out) | (rw [add_block]; exact Nat.ne_of_lt (Nat.lt_of_lt_of_le (by have := World.block_lt_of_cell? _ _ hw198_2; first | rwa [add_block] at this | exact this) GW196.out)) | (show (Addr.add _ _).block ≠ _; rw [add_block]; exact Nat.ne_of_lt (Nat.lt_of_lt_of_le (by have := World.block_lt_of_cell? _ _ hw198_2; first | rwa [add_block] at this | exact this) GW196.out)) | (dsimp only; exact Nat.ne_of_lt (Nat.lt_of_lt_of_le (by have := World.block_lt_of_cell? _ _ hw198_2; first | rwa [add_block] at this | exact this) GW196.out))) _).trans (hHeld.2.2.2.2.1)))), ((cell_far (p := ⟨gb196, _, none⟩) (by first | exact Nat.ne_of_lt (Nat.lt_of_lt_of_le (by have := World.block_lt_of_cell? _ _ hw199_0; first | rwa [add_block] at this | exact this) GW196.out) | (rw [add_block]; exact Nat.ne_of_lt (Nat.lt_of_lt_of_le (by have := World.block_lt_of_cell? _ _ hw199_0; first | rwa [add_block] at this | exact this) GW196.out)) | (show (Addr.add _ _).block ≠ _; rw [add_block]; exact Nat.ne_of_lt (Nat.lt_of_lt_of_le (by have := World.block_lt_of_cell? _ _ hw199_0; first | rwa [add_block] at this | exact this) GW196.out)) | (dsimp only; exact Nat.ne_of_lt (Nat.lt_of_lt_of_le (by have := World.block_lt_of_cell? _ _ hw199_0; first | rwa [add_block] at this | exact this) GW196.out))) _).trans (((cell_far (p := ⟨gb196, _, none⟩) (by first | exact Nat.ne_of_lt (Nat.lt_of_lt_of_le (by have := World.block_lt_of_cell? _ _ hw199_0; first | rwa [add_block] at this | exact this) GW196.out) | (rw [add_block]; exact Nat.ne_of_lt (Nat.lt_of_lt_of_le (by have := World.block_lt_of_cell? _ _ hw199_0; first | rwa [add_block] at this | exact this) GW196.out)) | (show (Addr.add _ _).block ≠ _; rw [add_block]; exact Nat.ne_of_lt (Nat.lt_of_lt_of_le (by have := World.block_lt_of_cell? _ _ hw199_0; first | rwa [add_block] at this | exact this) GW196.out)) | (dsimp only; exact Nat.ne_of_lt (Nat.lt_of_lt_of_le (by have := World.block_lt_of_cell? _ _ hw199_0; first | rwa [add_block] at this | exact this) GW196.out))) _).trans (hHeld.2.2.2.2.2.1)))), ((cell_far (p := ⟨gb196, _, none⟩) (by first | exact Nat.ne_of_lt (Nat.lt_of_lt_of_le (by have := World.block_lt_of_cell? _ _ hw199_1; first | rwa [add_block] at this | exact this) GW196.out) | (rw [add_block]; exact Nat.ne_of_lt (Nat.lt_of_lt_of_le (by have := World.block_lt_of_cell? _ _ hw199_1; first | rwa [add_block] at this | exact this) GW196.out)) | (show (Addr.add _ _).block ≠ _; rw [add_block]; exact Nat.ne_of_lt (Nat.lt_of_lt_of_le (by have := World.block_lt_of_cell? _ _ hw199_1; first | rwa [add_block] at this | exact this) GW196.out)) | (dsimp only; exact Nat.ne_of_lt (Nat.lt_of_lt_of_le (by have := World.block_lt_of_cell? _ _ hw199_1; first | rwa [add_block] at this | exact this) GW196.out))) _).trans (((cell_far (p := ⟨gb196, _, none⟩) (by first | exact Nat.ne_of_lt (Nat.lt_of_lt_of_le (by have := World.block_lt_of_cell? _ _ hw199_1; first | rwa [add_block] at this | exact this) GW196.out) | (rw [add_block]; exact Nat.ne_of_lt (Nat.lt_of_lt_of_le (by have := World.block_lt_of_cell? _ _ hw199_1; first | rwa [add_block] at this | exact this) GW196.out)) | (show (Addr.add _ _).block ≠ _; rw [add_block]; exact Nat.ne_of_lt (Nat.lt_of_lt_of_le (by have := World.block_lt_of_cell? _ _ hw199_1; first | rwa [add_block] at this | exact this) GW196.out)) | (dsimp only; exact Nat.ne_of_lt (Nat.lt_of_lt_of_le (by have := World.block_lt_of_cell? _ _ hw199_1; first | rwa [add_block] at this | exact this) GW196.out))) _).trans (hHeld.2.2.2.2.2.2.1)))), ((cell_far (p := ⟨gb196, _, none⟩) (by first | exact Nat.ne_of_lt (Nat.lt_of_lt_of_le (by have := World.block_lt_of_cell? _ _ hw199_2; first | rwa [add_block] at this | exact this) GW196.out) | (rw [add_block]; exact Nat.ne_of_lt (Nat.lt_of_lt_of_le (by have := World.block_lt_of_cell? _ _ hw199_2; first | rwa [add_block] at this | exact this) GW196.out)) | (show (Addr.add _ _).block ≠ _; rw [add_block]; exact Nat.ne_of_lt (Nat.lt_of_lt_of_le (by have := World.block_lt_of_cell? _ _ hw199_2; first | rwa [add_block] at this | exact this) GW196.out)) | (dsimp only; exact Nat.ne_of_lt (Nat.lt_of_lt_of_le (by have := World.block_lt_of_cell? _ _ hw199_2; first | rwa [add_block] at this | exact this) GW196.out))) _).trans (((cell_far (p := ⟨gb196, _, none⟩) (by first | exact Nat.ne_of_lt (Nat.lt_of_lt_of_le (by have := World.block_lt_of_cell? _ _ hw199_2; first | rwa [add_block] at this | exact this) GW196.out) | (rw [add_block]; exact Nat.ne_of_lt (Nat.lt_of_lt_of_le (by have := World.block_lt_of_cell? _ _ hw199_2; first | rwa [add_block] at this | exact this) GW196.out)) | (show (Addr.add _ _).block ≠ _; rw [add_block]; exact Nat.ne_of_lt (Nat.lt_of_lt_of_le (by have := World.block_lt_of_cell? _ _ hw199_2; first | rwa [add_block] at this | exact this) GW196.out)) | (dsimp only; exact Nat.ne_of_lt (Nat.lt_of_lt_of_le (by have := World.block_lt_of_cell? _ _ hw199_2; first | rwa [add_block] at this | exact this) GW196.out))) _).trans (hHeld.2.2.2.2.2.2.2))))⟩ (fun hHeld => ?_)
                          clear hK K
                          refine pure_ (i := 22) (N := some 11) (v := ?_) (a' := ?_) #[true, true, true, true, true, true, true, true, true, true, true, true, true, true, true, true, true, true, true, true, true, true, true] rfl rfl (any_of HT_.out (by kernel_rfl)) (fun _ _ _ h => h) (Or.inl ⟨by rfl, ?_⟩) ?_ ?_
                          rotate_left
                          · intro w'
                            go_simp
                            with_reducible rfl
                          rotate_left
                          · simp only [Act.put, List.setIfInBounds_toArray, List.set_cons_zero, List.set_cons_succ, i64_w, i32_w]
                            rfl
                          refine done_ (done_of HT_.out (by kernel_rfl)) ?_
                          try go_wp2
                          go_meet
                          case rel => exact ⟨_, (t204), (t200), (t203), (.slice Ao35 t200.length co35), (by first | rfl | (simp; done) | (simp [*]; done)), H', ⟨by have := HK1.out; have := HJ15.out; first | omega | exact Nat.le_refl _⟩, ⟨by (with_reducible repeat (first | apply Kd.R_alloc | apply Kd.R_drewN | apply Kd.R_drew)); exact Kd.R_mono (Kd.R_far (p := ⟨gb196, 1, none⟩) (Kd.R_far (p := ⟨gb196, 0, none⟩) (Kd.R_types HO_195000.out BK196.out (by decide)) (fun _ hk => hk.2) (.slice Ao35 t200.length co35)) (fun _ hk => hk.2) (.bool t203)) (fun _ hk => trivial)⟩, ⟨by (with_reducible repeat (first | apply Kd.R_alloc | apply Kd.R_drewN | apply Kd.R_drew)); exact Kd.R_mono (Kd.R_far (p := ⟨gb196, 1, none⟩) (Kd.R_far (p := ⟨gb196, 0, none⟩) (Kd.R_types HO202.out BK196.out (by decide)) (fun _ hk => hk.2) (.slice Ao35 t200.length co35)) (fun _ hk => hk.2) (.bool t203)) (fun _ hk => trivial)⟩, ⟨by (with_reducible repeat (first | refine blk_drewN ?_ _ | refine blk_drew ?_ | refine blk_alloc ?_ _)); refine blk_far ?_ NB187_196.out _; (with_reducible repeat (first | refine blk_drewN ?_ _ | refine blk_drew ?_ | refine blk_alloc ?_ _)); refine blk_far ?_ NB187_196.out _; (with_reducible repeat (first | refine blk_drewN ?_ _ | refine blk_drew ?_ | refine blk_alloc ?_ _)); exact BK187.out⟩, ⟨by (with_reducible repeat (first | refine blk_drewN ?_ _ | refine blk_drew ?_ | refine blk_alloc ?_ _)); refine blk_far ?_ NB194_196.out _; (with_reducible repeat (first | refine blk_drewN ?_ _ | refine blk_drew ?_ | refine blk_alloc ?_ _)); refine blk_far ?_ NB194_196.out _; (with_reducible repeat (first | refine blk_drewN ?_ _ | refine blk_drew ?_ | refine blk_alloc ?_ _)); exact BK194.out⟩, ⟨by (with_reducible repeat (first | refine blk_drewN ?_ _ | refine blk_drew ?_ | refine blk_alloc ?_ _)); refine blk_put (cs := #[.slice Ao35 t200.length co35, .bool x195001_1]) ?_ 1 _ rfl; (with_reducible repeat (first | refine blk_drewN ?_ _ | refine blk_drew ?_ | refine blk_alloc ?_ _)); refine blk_put (cs := #[.slice Ao25 x195000_1.length co25, .bool x195001_1]) ?_ 0 _ rfl; (with_reducible repeat (first | refine blk_drewN ?_ _ | refine blk_drew ?_ | refine blk_alloc ?_ _)); exact BK196.out⟩, ⟨by repeat (first | (with_reducible first | exact HB.out | apply below_alloc | apply pw_below_drewN | apply below_drew1 | refine below_set ?_ GE187.out | refine below_set ?_ GE194.out | refine below_set ?_ GE196.out) | exact HB.out)⟩⟩
                      · rw [if_neg c29] at H
                        have c29b0 : (((rd_T56 l1 x9_1).f0) == 0) = false := beq_eq_false_iff_ne.mpr c29
                        have c29b1 : (((rd_T56 l1 x9_1).f0) != 0) = true := bne_iff_ne.mpr c29
                        (first | rw [c29b0] | (simp only [i64_w, i32_w]; rw [c29b0]) | skip)
                        replace H := Option.bind_eq_some_iff.mp H
                        obtain ⟨⟨t205, t208, t209⟩, A380, H⟩ := H
                        replace H : (transeptlaw23_UpgradeSafe.j2 kj15 (wrap64 (1 + (Int.tmod (wrap64 ((Int.tmod a0 9) + 9)) 9))) l1 x9_1 t209 a2_0 a2_1 a2_2 a2_3 l2_4 x195000_1 x195001_1 t205 t208) = some r := H
                        have A38 := Aside0.mk A380
                        clear A380
                        have H' := Aside0.mk H
                        clear H
                        have hnb39 := NB194_187.out
                        have hnc39 := NB187_194.out
                        have hnb40 := NB194_196.out
                        have hnc40 := NB196_194.out
                        have hcz41_0 : w24.cell? ⟨gb194, 0, none⟩ = some (.slice Ao25 x195000_1.length co25) := (blk_cell BK194.out 0).trans rfl
                        have hcz41_1 : w24.cell? ⟨gb194, 1, none⟩ = some (.bool x195001_1) := (blk_cell BK194.out 1).trans rfl
                        have hfz41_0 := blk_frozen BK194.out 0
                        have hfz41_1 := blk_frozen BK194.out 1
                        go_wp2_with (first | ((with_reducible refine gate_callee (f := 11) rfl ?_); refine goesL_ (some 76) rfl rfl Try.func11 (by kernel_rfl) rfl #[.agg #[.slice Ao25 x195000_1.length co25, .bool x195001_1]] rfl (by (try simp only [List.map_toArray, List.map_cons, List.map_nil]); first | done | rfl | (simp only [List.length_drop, List.length_take]; rfl)) ?_; (with_reducible refine (upgrade_Activate.calls _ _ x195000_1 x195001_1 t205 t208 t209 _ ?side1 ?side2 A38.out).mono ?_); (case side1 => refine (Kd.R_reads' (e := 3) (base := w.heap.size) (ok := fun k_ => True) (n := x195000_1.length) (c := co25) ?_).2.2; exact (by (with_reducible repeat (first | apply Kd.R_alloc | apply Kd.R_drewN | apply Kd.R_drew)); exact (Kd.R_mono (Kd.R_far (p := ⟨gb196, 1, none⟩) (Kd.R_far (p := ⟨gb196, 0, none⟩) (Kd.R_types HO_195000.out BK196.out (by decide)) (fun _ hk => hk.2) (.slice Ao25 x195000_1.length co25)) (fun _ hk => hk.2) (.bool x195001_1)) (fun _ h_ => h_.1)))); (case side2 => exact (Kd.R_reads' HO_195000.out).2.1); rintro e w42 ⟨v206, rfl, ho0, hb⟩; refine ⟨_, rfl, ?_⟩; have n0_ := Aside0.mk (Kd.R_elder' (by (with_reducible repeat (first | apply Kd.R_alloc | apply Kd.R_drewN | apply Kd.R_drew)); exact (Kd.R_mono (Kd.R_far (p := ⟨gb196, 1, none⟩) (Kd.R_far (p := ⟨gb196, 0, none⟩) (Kd.R_types HO_195000.out BK196.out (by decide)) (fun _ hk => hk.2) (.slice Ao25 x195000_1.length co25)) (fun _ hk => hk.2) (.bool x195001_1)) (fun _ h_ => h_.1))) (Kd.R_base ho0) hb); have n1_ := Aside0.mk (Kd.R_lower (Kd.R_new' ho0 (Kd.R_lt (by (with_reducible repeat (first | apply Kd.R_alloc | apply Kd.R_drewN | apply Kd.R_drew)); exact (Kd.R_mono (Kd.R_far (p := ⟨gb196, 1, none⟩) (Kd.R_far (p := ⟨gb196, 0, none⟩) (Kd.R_types HO_195000.out BK196.out (by decide)) (fun _ hk => hk.2) (.slice Ao25 x195000_1.length co25)) (fun _ hk => hk.2) (.bool x195001_1)) (fun _ h_ => h_.1))))) (below_size (by repeat (first | (with_reducible first | exact HB.out | apply below_alloc | apply pw_below_drewN | apply below_drew1 | refine below_set ?_ GE187.out | refine below_set ?_ GE194.out | refine below_set ?_ GE196.out) | exact HB.out)))); have n2_ := Aside0.mk (blk_below (g := gb187) (o := .cells #[.int .i64 a2_0, .int .i64 a2_1, .int .i64 a2_2, .int .i64 a2_3, .slice A2_4 l2_4.length c2_4] 43 (0, 0)) (by (with_reducible repeat (first | refine blk_drewN ?_ _ | refine blk_drew ?_ | refine blk_alloc ?_ _)); refine blk_far ?_ NB187_196.out _; (with_reducible repeat (first | refine blk_drewN ?_ _ | refine blk_drew ?_ | refine blk_alloc ?_ _)); refine blk_far ?_ NB187_196.out _; (with_reducible repeat (first | refine blk_drewN ?_ _ | refine blk_drew ?_ | refine blk_alloc ?_ _)); exact BK187.out) hb); have n3_ := Aside0.mk (blk_below (g := gb194) (o := .cells #[.slice Ao25 x195000_1.length co25, .bool x195001_1] 26 (0, 0)) (by (with_reducible repeat (first | refine blk_drewN ?_ _ | refine blk_drew ?_ | refine blk_alloc ?_ _)); refine blk_far ?_ NB194_196.out _; (with_reducible repeat (first | refine blk_drewN ?_ _ | refine blk_drew ?_ | refine blk_alloc ?_ _)); refine blk_far ?_ NB194_196.out _; (with_reducible repeat (first | refine blk_drewN ?_ _ | refine blk_drew ?_ | refine blk_alloc ?_ _)); exact BK194.out) hb); have n4_ := Aside0.mk (blk_below (g := gb196) (o := .cells #[.slice Ao25 x195000_1.length co25, .bool x195001_1] 26 (0, 0)) (by (with_reducible repeat (first | refine blk_drewN ?_ _ | refine blk_drew ?_ | refine blk_alloc ?_ _)); refine blk_put (cs := #[.slice Ao25 x195000_1.length co25, .bool false]) ?_ 1 _ rfl; (with_reducible repeat (first | refine blk_drewN ?_ _ | refine blk_drew ?_ | refine blk_alloc ?_ _)); refine blk_put (cs := #[.slice none 0 0, .bool false]) ?_ 0 _ rfl; (with_reducible repeat (first | refine blk_drewN ?_ _ | refine blk_drew ?_ | refine blk_alloc ?_ _)); exact BK196.out) hb); have n5_ := Aside0.mk (below_step (by repeat (first | (with_reducible first | exact HB.out | apply below_alloc | apply pw_below_drewN | apply below_drew1 | refine below_set ?_ GE187.out | refine below_set ?_ GE194.out | refine below_set ?_ GE196.out) | exact HB.out)) hb); clear HO_195000; clear BK187; clear BK194; clear BK196; clear HB; have HO_195000 := n0_; have HO207 := n1_; have BK187 := n2_; have BK194 := n3_; have BK196 := n4_; have HB := n5_; clear n0_ n1_ n2_ n3_ n4_ n5_; (try clear hb); (try clear hb2); (try clear hk); (try clear hi); (try clear ho0); obtain ⟨Ao43, co43, eo43⟩ := Kd.R_slice HO207.out; subst eo43; have hnb44 := NB196_187.out; have hnc44 := NB187_196.out; have hcz45_0 : w42.cell? ⟨gb196, 0, none⟩ = some (.slice Ao25 x195000_1.length co25) := (blk_cell BK196.out 0).trans rfl; have hcz45_1 : w42.cell? ⟨gb196, 1, none⟩ = some (.bool x195001_1) := (blk_cell BK196.out 1).trans rfl; have hfz45_0 := blk_frozen BK196.out 0; have hfz45_1 := blk_frozen BK196.out 1))
                        go_meet
                        case rel => exact ⟨_, (t209), (t205), (t208), (.slice Ao43 t205.length co43), (by first | rfl | (simp; done) | (simp [*]; done)), H', ⟨by have := HK1.out; have := HJ15.out; first | omega | exact Nat.le_refl _⟩, ⟨by (with_reducible repeat (first | apply Kd.R_alloc | apply Kd.R_drewN | apply Kd.R_drew)); exact Kd.R_mono (Kd.R_far (p := ⟨gb196, 1, none⟩) (Kd.R_far (p := ⟨gb196, 0, none⟩) (Kd.R_types HO_195000.out BK196.out (by decide)) (fun _ hk => hk.2) (.slice Ao43 t205.length co43)) (fun _ hk => hk.2) (.bool t208)) (fun _ hk => trivial)⟩, ⟨by (with_reducible repeat (first | apply Kd.R_alloc | apply Kd.R_drewN | apply Kd.R_drew)); exact Kd.R_mono (Kd.R_far (p := ⟨gb196, 1, none⟩) (Kd.R_far (p := ⟨gb196, 0, none⟩) (Kd.R_types HO207.out BK196.out (by decide)) (fun _ hk => hk.2) (.slice Ao43 t205.length co43)) (fun _ hk => hk.2) (.bool t208)) (fun _ hk => trivial)⟩, ⟨by (with_reducible repeat (first | refine blk_drewN ?_ _ | refine blk_drew ?_ | refine blk_alloc ?_ _)); refine blk_far ?_ NB187_196.out _; (with_reducible repeat (first | refine blk_drewN ?_ _ | refine blk_drew ?_ | refine blk_alloc ?_ _)); refine blk_far ?_ NB187_196.out _; (with_reducible repeat (first | refine blk_drewN ?_ _ | refine blk_drew ?_ | refine blk_alloc ?_ _)); exact BK187.out⟩, ⟨by (with_reducible repeat (first | refine blk_drewN ?_ _ | refine blk_drew ?_ | refine blk_alloc ?_ _)); refine blk_far ?_ NB194_196.out _; (with_reducible repeat (first | refine blk_drewN ?_ _ | refine blk_drew ?_ | refine blk_alloc ?_ _)); refine blk_far ?_ NB194_196.out _; (with_reducible repeat (first | refine blk_drewN ?_ _ | refine blk_drew ?_ | refine blk_alloc ?_ _)); exact BK194.out⟩, ⟨by (with_reducible repeat (first | refine blk_drewN ?_ _ | refine blk_drew ?_ | refine blk_alloc ?_ _)); refine blk_put (cs := #[.slice Ao43 t205.length co43, .bool x195001_1]) ?_ 1 _ rfl; (with_reducible repeat (first | refine blk_drewN ?_ _ | refine blk_drew ?_ | refine blk_alloc ?_ _)); refine blk_put (cs := #[.slice Ao25 x195000_1.length co25, .bool x195001_1]) ?_ 0 _ rfl; (with_reducible repeat (first | refine blk_drewN ?_ _ | refine blk_drew ?_ | refine blk_alloc ?_ _)); exact BK196.out⟩, ⟨by repeat (first | (with_reducible first | exact HB.out | apply below_alloc | apply pw_below_drewN | apply below_drew1 | refine below_set ?_ GE187.out | refine below_set ?_ GE194.out | refine below_set ?_ GE196.out) | exact HB.out)⟩⟩
                    case rest =>
                      as_aux_lemma =>
                      clear HC21
                      try clear c1
                      try clear p1
                      try clear q1
                      try clear hx1
                      try clear c2
                      try clear p2
                      try clear c3
                      try clear c4
                      try clear c5
                      try clear c6
                      try clear p6
                      try clear c7
                      try clear c8
                      try clear c8b0
                      try clear c8b1
                      try clear c9
                      try clear c11
                      try clear c14
                      try clear c15
                      try clear c17
                      try clear c17b0
                      try clear c18
                      try clear c19
                      try clear c19b0
                      try clear p19
                      try clear q19
                      try clear hx19
                      try clear c20
                      try clear c20b0
                      try clear c22
                      try clear c26
                      try clear c27
                      try clear c29
                      try clear c29b0
                      try clear c29b1
                      try clear c30
                      try clear c30b0
                      try clear c30b1
                      try clear c39
                      try clear c40
                      try clear c44
                      try clear hcz15_0
                      try clear hcz15_1
                      try clear hcz23_0
                      try clear hcz23_1
                      try clear hcz28_0
                      try clear hcz28_1
                      try clear hcz41_0
                      try clear hcz41_1
                      try clear hcz45_0
                      try clear hcz45_1
                      try clear hfz15_0
                      try clear hfz15_1
                      try clear hfz23_0
                      try clear hfz23_1
                      try clear hfz28_0
                      try clear hfz28_1
                      try clear hfz41_0
                      try clear hfz41_1
                      try clear hfz45_0
                      try clear hfz45_1
                      try clear hx197_0
                      try clear hx197_1
                      try clear hx197_2
                      try clear hx198_0
                      try clear hx198_1
                      try clear hx198_2
                      try clear hx199_0
                      try clear hx199_1
                      try clear hx199_2
                      try clear p197
                      try clear p198
                      try clear p199
                      try clear p2
                      try clear p6
                      try clear q197
                      try clear q198
                      try clear q199
                      obtain ⟨kq, x11_20, x197000_20, x197001_20, u197000, rfl, HA, HJ20, HO_195000, HO_197000, BK187, BK194, BK196, HB⟩ := hcut
                      cases kq with
                      | zero => exact absurd HA.out (by simp [transeptlaw23_UpgradeSafe.j2])
                      | succ kj20 =>
                        have H := HA.out
                        clear HA
                        simp only [transeptlaw23_UpgradeSafe.j2] at H
                        replace H := Option.bind_eq_some_iff.mp H
                        obtain ⟨t210, A460, H⟩ := H
                        replace H : (if t210 = 0 then (if x195001_1 = true then (if x197001_20 = true then (if (x197000_20.length : Int) = (wrap64 (1 + (Int.tmod (wrap64 ((Int.tmod a0 9) + 9)) 9))) then (transeptlaw23_UpgradeSafe.j3 kj20 (wrap64 (1 + (Int.tmod (wrap64 ((Int.tmod a0 9) + 9)) 9))) l1 x9_1 a2_0 a2_1 a2_2 a2_3 l2_4 x197000_20 x197001_20) else (none)) else (none)) else (if (x197000_20.length : Int) = (wrap64 (1 + (Int.tmod (wrap64 ((Int.tmod a0 9) + 9)) 9))) then (transeptlaw23_UpgradeSafe.j3 kj20 (wrap64 (1 + (Int.tmod (wrap64 ((Int.tmod a0 9) + 9)) 9))) l1 x9_1 a2_0 a2_1 a2_2 a2_3 l2_4 x197000_20 x197001_20) else (none))) else (transeptlaw23_UpgradeSafe.j3 kj20 (wrap64 (1 + (Int.tmod (wrap64 ((Int.tmod a0 9) + 9)) 9))) l1 x9_1 a2_0 a2_1 a2_2 a2_3 l2_4 x195000_1 x195001_1)) = some r := H
                        have A46 := Aside0.mk A460
                        clear A460
                        have HC47 := Aside0.mk H
                        clear H
                        go_upto_if 81 with (first | ((with_reducible refine gate_callee (f := 14) rfl ?_); refine goesL_ (some 80) rfl rfl Try.func14 (by kernel_rfl) rfl #[.int .i64 x11_20] rfl (by (try simp only [List.map_toArray, List.map_cons, List.map_nil]); first | done | rfl | (simp only [List.length_drop, List.length_take]; rfl)) ?_; (with_reducible refine (transeptlaw23_num.calls x11_20 t210 _ A46.out).mono ?_); rintro e w' ⟨rfl, ⟨nd, rfl⟩⟩; refine ⟨_, rfl, ?_⟩))
                        (try simp only [Act.put, List.setIfInBounds_toArray, List.set_cons_zero, List.set_cons_succ])
                        go_cut [] (fun wc => ∃ (kq : Nat) (x195000_46 : List Int) (x195001_46 : Bool) (u195000 : Value), Aside0 (transeptlaw23_UpgradeSafe.j3 kq (wrap64 (1 + (Int.tmod (wrap64 ((Int.tmod a0 9) + 9)) 9))) l1 x9_1 a2_0 a2_1 a2_2 a2_3 l2_4 x195000_46 x195001_46 = some r) ∧ Aside0 (kq ≤ kj20) ∧ Aside0 (Kd.R (Kd.int .i64) 3 wc w.heap.size (fun _ => True) u195000 x195000_46) ∧ Aside0 (Kd.R (Kd.int .i64) 3 wc w.heap.size (fun _ => True) u197000 x197000_20) ∧ Aside0 (wc.heap[gb187]? = some (.cells #[.int .i64 a2_0, .int .i64 a2_1, .int .i64 a2_2, .int .i64 a2_3, (.slice A2_4 l2_4.length c2_4)] 43 (0, 0))) ∧ Aside0 (wc.heap[gb194]? = some (.cells #[u195000, .bool x195001_46] 26 (0, 0))) ∧ Aside0 (wc.heap[gb196]? = some (.cells #[u197000, .bool x197001_20] 26 (0, 0))) ∧ Aside0 (Below w.heap.size w wc))
                        case first =>
                          as_aux_lemma =>
                          have H := HC47.out
                          clear HC47
                          by_cases c48 : t210 = 0
                          · rw [if_pos c48] at H
                            have c48b0 : (t210 == 0) = true := beq_iff_eq.mpr c48
                            have c48b1 : (t210 != 0) = false := bne_eq_false_iff_eq.mpr c48
                            clear c48
                            (first | rw [c48b0] | (simp only [i64_w, i32_w]; rw [c48b0]) | skip)
                            by_cases c49 : x195001_1 = true
                            · subst c49
                              have H1 : (if x197001_20 = true then (if (x197000_20.length : Int) = (wrap64 (1 + (Int.tmod (wrap64 ((Int.tmod a0 9) + 9)) 9))) then (transeptlaw23_UpgradeSafe.j3 kj20 (wrap64 (1 + (Int.tmod (wrap64 ((Int.tmod a0 9) + 9)) 9))) l1 x9_1 a2_0 a2_1 a2_2 a2_3 l2_4 x197000_20 x197001_20) else (none)) else (none)) = some r := by rw [if_pos rfl] at H; exact H
                              clear H
                              have H := H1
                              clear H1
                              by_cases c50 : x197001_20 = true
                              · subst c50
                                have H1 : (if (x197000_20.length : Int) = (wrap64 (1 + (Int.tmod (wrap64 ((Int.tmod a0 9) + 9)) 9))) then (transeptlaw23_UpgradeSafe.j3 kj20 (wrap64 (1 + (Int.tmod (wrap64 ((Int.tmod a0 9) + 9)) 9))) l1 x9_1 a2_0 a2_1 a2_2 a2_3 l2_4 x197000_20 true) else (none)) = some r := by rw [if_pos rfl] at H; exact H
                                clear H
                                have H := H1
                                clear H1
                                by_cases c51 : (x197000_20.length : Int) = (wrap64 (1 + (Int.tmod (wrap64 ((Int.tmod a0 9) + 9)) 9)))
                                · rw [if_pos c51] at H
                                  have c51b0 : ((x197000_20.length : Int) == (wrap64 (1 + (Int.tmod (wrap64 ((Int.tmod a0 9) + 9)) 9)))) = true := beq_iff_eq.mpr c51
                                  have c51b1 : ((x197000_20.length : Int) != (wrap64 (1 + (Int.tmod (wrap64 ((Int.tmod a0 9) + 9)) 9)))) = false := bne_eq_false_iff_eq.mpr c51
                                  clear c51
                                  have H' := Aside0.mk H
                                  clear H
                                  have hnb52 := NB194_187.out
                                  have hnc52 := NB187_194.out
                                  have hnb53 := NB194_196.out
                                  have hnc53 := NB196_194.out
                                  have hcz54_0 : wc.cell? ⟨gb194, 0, none⟩ = some (.slice Ao25 x195000_1.length co25) := (blk_cell BK194.out 0).trans rfl
                                  have hcz54_1 : wc.cell? ⟨gb194, 1, none⟩ = some (.bool true) := (blk_cell BK194.out 1).trans rfl
                                  have hfz54_0 := blk_frozen BK194.out 0
                                  have hfz54_1 := blk_frozen BK194.out 1
                                  have hnb55 := NB196_187.out
                                  have hnc55 := NB187_196.out
                                  have hcz56_0 : wc.cell? ⟨gb196, 0, none⟩ = some (u197000) := (blk_cell BK196.out 0).trans rfl
                                  have hcz56_1 : wc.cell? ⟨gb196, 1, none⟩ = some (.bool true) := (blk_cell BK196.out 1).trans rfl
                                  have hfz56_0 := blk_frozen BK196.out 0
                                  have hfz56_1 := blk_frozen BK196.out 1
                                  obtain ⟨Ao57, co57, eo57⟩ := Kd.R_slice HO_197000.out
                                  subst eo57
                                  go_wp2
                                  go_meet
                                  case rel => exact ⟨_, (x197000_20), (true), (.slice Ao57 x197000_20.length co57), H', ⟨by have := HK1.out; have := HJ15.out; have := HJ20.out; first | omega | exact Nat.le_refl _⟩, ⟨by (with_reducible repeat (first | apply Kd.R_alloc | apply Kd.R_drewN | apply Kd.R_drew)); exact Kd.R_mono (Kd.R_far (p := ⟨gb194, 1, none⟩) (Kd.R_far (p := ⟨gb194, 0, none⟩) (Kd.R_types HO_197000.out BK194.out (by decide)) (fun _ hk => hk.2) (.slice Ao57 x197000_20.length co57)) (fun _ hk => hk.2) (.bool true)) (fun _ hk => trivial)⟩, ⟨by (with_reducible repeat (first | apply Kd.R_alloc | apply Kd.R_drewN | apply Kd.R_drew)); exact Kd.R_mono (Kd.R_far (p := ⟨gb194, 1, none⟩) (Kd.R_far (p := ⟨gb194, 0, none⟩) (Kd.R_types HO_197000.out BK194.out (by decide)) (fun _ hk => hk.2) (.slice Ao57 x197000_20.length co57)) (fun _ hk => hk.2) (.bool true)) (fun _ hk => trivial)⟩, ⟨by (with_reducible repeat (first | refine blk_drewN ?_ _ | refine blk_drew ?_ | refine blk_alloc ?_ _)); refine blk_far ?_ NB187_194.out _; (with_reducible repeat (first | refine blk_drewN ?_ _ | refine blk_drew ?_ | refine blk_alloc ?_ _)); refine blk_far ?_ NB187_194.out _; (with_reducible repeat (first | refine blk_drewN ?_ _ | refine blk_drew ?_ | refine blk_alloc ?_ _)); exact BK187.out⟩, ⟨by (with_reducible repeat (first | refine blk_drewN ?_ _ | refine blk_drew ?_ | refine blk_alloc ?_ _)); refine blk_put (cs := #[.slice Ao57 x197000_20.length co57, .bool true]) ?_ 1 _ rfl; (with_reducible repeat (first | refine blk_drewN ?_ _ | refine blk_drew ?_ | refine blk_alloc ?_ _)); refine blk_put (cs := #[.slice Ao25 x195000_1.length co25, .bool true]) ?_ 0 _ rfl; (with_reducible repeat (first | refine blk_drewN ?_ _ | refine blk_drew ?_ | refine blk_alloc ?_ _)); exact BK194.out⟩, ⟨by (with_reducible repeat (first | refine blk_drewN ?_ _ | refine blk_drew ?_ | refine blk_alloc ?_ _)); refine blk_far ?_ NB196_194.out _; (with_reducible repeat (first | refine blk_drewN ?_ _ | refine blk_drew ?_ | refine blk_alloc ?_ _)); refine blk_far ?_ NB196_194.out _; (with_reducible repeat (first | refine blk_drewN ?_ _ | refine blk_drew ?_ | refine blk_alloc ?_ _)); exact BK196.out⟩, ⟨by repeat (first | (with_reducible first | exact HB.out | apply below_alloc | apply pw_below_drewN | apply below_drew1 | refine below_set ?_ GE187.out | refine below_set ?_ GE194.out | refine below_set ?_ GE196.out) | exact HB.out)⟩⟩
                                · rw [if_neg c51] at H
                                  exact absurd H (by simp)
                              · replace c50 := Bool.eq_false_iff.mpr c50
                                subst c50
                                have H1 : (none) = some r := by rw [if_neg (show ¬ (false = true) by decide)] at H; exact H
                                clear H
                                have H := H1
                                clear H1
                                exact absurd H (by simp)
                            · replace c49 := Bool.eq_false_iff.mpr c49
                              subst c49
                              have H1 : (if (x197000_20.length : Int) = (wrap64 (1 + (Int.tmod (wrap64 ((Int.tmod a0 9) + 9)) 9))) then (transeptlaw23_UpgradeSafe.j3 kj20 (wrap64 (1 + (Int.tmod (wrap64 ((Int.tmod a0 9) + 9)) 9))) l1 x9_1 a2_0 a2_1 a2_2 a2_3 l2_4 x197000_20 x197001_20) else (none)) = some r := by rw [if_neg (show ¬ (false = true) by decide)] at H; exact H
                              clear H
                              have H := H1
                              clear H1
                              by_cases c58 : (x197000_20.length : Int) = (wrap64 (1 + (Int.tmod (wrap64 ((Int.tmod a0 9) + 9)) 9)))
                              · rw [if_pos c58] at H
                                have c58b0 : ((x197000_20.length : Int) == (wrap64 (1 + (Int.tmod (wrap64 ((Int.tmod a0 9) + 9)) 9)))) = true := beq_iff_eq.mpr c58
                                have c58b1 : ((x197000_20.length : Int) != (wrap64 (1 + (Int.tmod (wrap64 ((Int.tmod a0 9) + 9)) 9)))) = false := bne_eq_false_iff_eq.mpr c58
                                clear c58
                                have H' := Aside0.mk H
                                clear H
                                have hnb59 := NB194_187.out
                                have hnc59 := NB187_194.out
                                have hnb60 := NB194_196.out
                                have hnc60 := NB196_194.out
                                have hcz61_0 : wc.cell? ⟨gb194, 0, none⟩ = some (.slice Ao25 x195000_1.length co25) := (blk_cell BK194.out 0).trans rfl
                                have hcz61_1 : wc.cell? ⟨gb194, 1, none⟩ = some (.bool false) := (blk_cell BK194.out 1).trans rfl
                                have hfz61_0 := blk_frozen BK194.out 0
                                have hfz61_1 := blk_frozen BK194.out 1
                                have hnb62 := NB196_187.out
                                have hnc62 := NB187_196.out
                                have hcz63_0 : wc.cell? ⟨gb196, 0, none⟩ = some (u197000) := (blk_cell BK196.out 0).trans rfl
                                have hcz63_1 : wc.cell? ⟨gb196, 1, none⟩ = some (.bool x197001_20) := (blk_cell BK196.out 1).trans rfl
                                have hfz63_0 := blk_frozen BK196.out 0
                                have hfz63_1 := blk_frozen BK196.out 1
                                obtain ⟨Ao64, co64, eo64⟩ := Kd.R_slice HO_197000.out
                                subst eo64
                                go_wp2
                                go_meet
                                case rel => exact ⟨_, (x197000_20), (x197001_20), (.slice Ao64 x197000_20.length co64), H', ⟨by have := HK1.out; have := HJ15.out; have := HJ20.out; first | omega | exact Nat.le_refl _⟩, ⟨by (with_reducible repeat (first | apply Kd.R_alloc | apply Kd.R_drewN | apply Kd.R_drew)); exact Kd.R_mono (Kd.R_far (p := ⟨gb194, 1, none⟩) (Kd.R_far (p := ⟨gb194, 0, none⟩) (Kd.R_types HO_197000.out BK194.out (by decide)) (fun _ hk => hk.2) (.slice Ao64 x197000_20.length co64)) (fun _ hk => hk.2) (.bool x197001_20)) (fun _ hk => trivial)⟩, ⟨by (with_reducible repeat (first | apply Kd.R_alloc | apply Kd.R_drewN | apply Kd.R_drew)); exact Kd.R_mono (Kd.R_far (p := ⟨gb194, 1, none⟩) (Kd.R_far (p := ⟨gb194, 0, none⟩) (Kd.R_types HO_197000.out BK194.out (by decide)) (fun _ hk => hk.2) (.slice Ao64 x197000_20.length co64)) (fun _ hk => hk.2) (.bool x197001_20)) (fun _ hk => trivial)⟩, ⟨by (with_reducible repeat (first | refine blk_drewN ?_ _ | refine blk_drew ?_ | refine blk_alloc ?_ _)); refine blk_far ?_ NB187_194.out _; (with_reducible repeat (first | refine blk_drewN ?_ _ | refine blk_drew ?_ | refine blk_alloc ?_ _)); refine blk_far ?_ NB187_194.out _; (with_reducible repeat (first | refine blk_drewN ?_ _ | refine blk_drew ?_ | refine blk_alloc ?_ _)); exact BK187.out⟩, ⟨by (with_reducible repeat (first | refine blk_drewN ?_ _ | refine blk_drew ?_ | refine blk_alloc ?_ _)); refine blk_put (cs := #[.slice Ao64 x197000_20.length co64, .bool false]) ?_ 1 _ rfl; (with_reducible repeat (first | refine blk_drewN ?_ _ | refine blk_drew ?_ | refine blk_alloc ?_ _)); refine blk_put (cs := #[.slice Ao25 x195000_1.length co25, .bool false]) ?_ 0 _ rfl; (with_reducible repeat (first | refine blk_drewN ?_ _ | refine blk_drew ?_ | refine blk_alloc ?_ _)); exact BK194.out⟩, ⟨by (with_reducible repeat (first | refine blk_drewN ?_ _ | refine blk_drew ?_ | refine blk_alloc ?_ _)); refine blk_far ?_ NB196_194.out _; (with_reducible repeat (first | refine blk_drewN ?_ _ | refine blk_drew ?_ | refine blk_alloc ?_ _)); refine blk_far ?_ NB196_194.out _; (with_reducible repeat (first | refine blk_drewN ?_ _ | refine blk_drew ?_ | refine blk_alloc ?_ _)); exact BK196.out⟩, ⟨by repeat (first | (with_reducible first | exact HB.out | apply below_alloc | apply pw_below_drewN | apply below_drew1 | refine below_set ?_ GE187.out | refine below_set ?_ GE194.out | refine below_set ?_ GE196.out) | exact HB.out)⟩⟩
                              · rw [if_neg c58] at H
                                exact absurd H (by simp)
                          · rw [if_neg c48] at H
                            have c48b0 : (t210 == 0) = false := beq_eq_false_iff_ne.mpr c48
                            have c48b1 : (t210 != 0) = true := bne_iff_ne.mpr c48
                            (first | rw [c48b0] | (simp only [i64_w, i32_w]; rw [c48b0]) | skip)
                            have H' := Aside0.mk H
                            clear H
                            go_wp2
                            go_meet
                            case rel => exact ⟨_, (x195000_1), (x195001_1), (.slice Ao25 x195000_1.length co25), H', ⟨by have := HK1.out; have := HJ15.out; have := HJ20.out; first | omega | exact Nat.le_refl _⟩, ⟨by (with_reducible repeat (first | apply Kd.R_alloc | apply Kd.R_drewN | apply Kd.R_drew)); exact HO_195000.out⟩, ⟨by (with_reducible repeat (first | apply Kd.R_alloc | apply Kd.R_drewN | apply Kd.R_drew)); exact HO_197000.out⟩, ⟨by (with_reducible repeat (first | refine blk_drewN ?_ _ | refine blk_drew ?_ | refine blk_alloc ?_ _)); exact BK187.out⟩, ⟨by (with_reducible repeat (first | refine blk_drewN ?_ _ | refine blk_drew ?_ | refine blk_alloc ?_ _)); exact BK194.out⟩, ⟨by (with_reducible repeat (first | refine blk_drewN ?_ _ | refine blk_drew ?_ | refine blk_alloc ?_ _)); exact BK196.out⟩, ⟨by repeat (first | (with_reducible first | exact HB.out | apply below_alloc | apply pw_below_drewN | apply below_drew1 | refine below_set ?_ GE187.out | refine below_set ?_ GE194.out | refine below_set ?_ GE196.out) | exact HB.out)⟩⟩
                        case rest =>
                          as_aux_lemma =>
                          clear HC47
                          try clear c1
                          try clear p1
                          try clear q1
                          try clear hx1
                          try clear c2
                          try clear p2
                          try clear c3
                          try clear c4
                          try clear c5
                          try clear c6
                          try clear p6
                          try clear c7
                          try clear c8
                          try clear c8b0
                          try clear c8b1
                          try clear c9
                          try clear c11
                          try clear c14
                          try clear c15
                          try clear c17
                          try clear c17b0
                          try clear c18
                          try clear c19
                          try clear c19b0
                          try clear p19
                          try clear q19
                          try clear hx19
                          try clear c20
                          try clear c20b0
                          try clear c22
                          try clear c26
                          try clear c27
                          try clear c29
                          try clear c29b0
                          try clear c29b1
                          try clear c30
                          try clear c30b0
                          try clear c30b1
                          try clear c39
                          try clear c40
                          try clear c44
                          try clear c48
                          try clear c48b0
                          try clear c48b1
                          try clear c49
                          try clear c50
                          try clear c51
                          try clear c51b0
                          try clear c51b1
                          try clear c52
                          try clear c53
                          try clear c55
                          try clear c58
                          try clear c58b0
                          try clear c58b1
                          try clear c59
                          try clear c60
                          try clear c62
                          try clear p64
                          try clear hcz15_0
                          try clear hcz15_1
                          try clear hcz23_0
                          try clear hcz23_1
                          try clear hcz28_0
                          try clear hcz28_1
                          try clear hcz41_0
                          try clear hcz41_1
                          try clear hcz45_0
                          try clear hcz45_1
                          try clear hcz54_0
                          try clear hcz54_1
                          try clear hcz56_0
                          try clear hcz56_1
                          try clear hcz61_0
                          try clear hcz61_1
                          try clear hcz63_0
                          try clear hcz63_1
                          try clear hfz15_0
                          try clear hfz15_1
                          try clear hfz23_0
                          try clear hfz23_1
                          try clear hfz28_0
                          try clear hfz28_1
                          try clear hfz41_0
                          try clear hfz41_1
                          try clear hfz45_0
                          try clear hfz45_1
                          try clear hfz54_0
                          try clear hfz54_1
                          try clear hfz56_0
                          try clear hfz56_1
                          try clear hfz61_0
                          try clear hfz61_1
                          try clear hfz63_0
                          try clear hfz63_1
                          try clear hx197_0
                          try clear hx197_1
                          try clear hx197_2
                          try clear hx198_0
                          try clear hx198_1
                          try clear hx198_2
                          try clear hx199_0
                          try clear hx199_1
                          try clear hx199_2
                          try clear p1
                          try clear p19
                          try clear p197
                          try clear p198
                          try clear p199
                          try clear p2
                          try clear p6
                          try clear q1
                          try clear q19
                          try clear q197
                          try clear q198
                          try clear q199
                          obtain ⟨kq, x195000_46, x195001_46, u195000, HA, HJ46, HO_195000, HO_197000, BK187, BK194, BK196, HB⟩ := hcut
                          cases kq with
                          | zero => exact absurd HA.out (by simp [transeptlaw23_UpgradeSafe.j3])
                          | succ kj46 =>
                            have H := HA.out
                            clear HA
                            simp only [transeptlaw23_UpgradeSafe.j3] at H
                            have H' := Aside0.mk H
                            clear H
                            go_wp2
                            go_loopg [12, 13] kj46 (fun kq v12 v13 w' => ∃ (x12_5 : Bool) (x13_5 : Int), v12 = .bool x12_5 ∧ v13 = .int .i64 x13_5 ∧ Aside0 (transeptlaw23_UpgradeSafe.l1 kq (wrap64 (1 + (Int.tmod (wrap64 ((Int.tmod a0 9) + 9)) 9))) l1 x9_1 x12_5 x13_5 a2_0 a2_1 a2_2 a2_3 l2_4 x195000_46 x195001_46 = some r) ∧ Aside0 (kq ≤ kj46) ∧ Aside0 (Kd.R (Kd.int .i64) 3 w' w.heap.size (fun _ => True) u195000 x195000_46) ∧ Aside0 (Kd.R (Kd.int .i64) 3 w' w.heap.size (fun _ => True) u197000 x197000_20) ∧ Aside0 (w'.heap[gb187]? = some (.cells #[.int .i64 a2_0, .int .i64 a2_1, .int .i64 a2_2, .int .i64 a2_3, (.slice A2_4 l2_4.length c2_4)] 43 (0, 0))) ∧ Aside0 (w'.heap[gb194]? = some (.cells #[u195000, .bool x195001_46] 26 (0, 0))) ∧ Aside0 (w'.heap[gb196]? = some (.cells #[u197000, .bool x197001_20] 26 (0, 0))) ∧ Aside0 (Below w.heap.size w w'))
                            case atStart => exact ⟨(true), (0), (by first | rfl | (simp; done) | (simp [*]; done)), (by first | rfl | (simp; done) | (simp [*]; done)), H', ⟨Nat.le_refl _⟩, ⟨by (with_reducible repeat (first | apply Kd.R_alloc | apply Kd.R_drewN | apply Kd.R_drew)); exact HO_195000.out⟩, ⟨by (with_reducible repeat (first | apply Kd.R_alloc | apply Kd.R_drewN | apply Kd.R_drew)); exact HO_197000.out⟩, ⟨by (with_reducible repeat (first | refine blk_drewN ?_ _ | refine blk_drew ?_ | refine blk_alloc ?_ _)); exact BK187.out⟩, ⟨by (with_reducible repeat (first | refine blk_drewN ?_ _ | refine blk_drew ?_ | refine blk_alloc ?_ _)); exact BK194.out⟩, ⟨by (with_reducible repeat (first | refine blk_drewN ?_ _ | refine blk_drew ?_ | refine blk_alloc ?_ _)); exact BK196.out⟩, ⟨by repeat (first | (with_reducible first | exact HB.out | apply below_alloc | apply pw_below_drewN | apply below_drew1 | refine below_set ?_ GE187.out | refine below_set ?_ GE194.out | refine below_set ?_ GE196.out) | exact HB.out)⟩⟩
                            case round =>
                              as_aux_lemma =>
                              clear H'
                              try clear c1
                              try clear p1
                              try clear q1
                              try clear hx1
                              try clear c2
                              try clear p2
                              try clear c3
                              try clear c4
                              try clear c5
                              try clear c6
                              try clear p6
                              try clear c7
                              try clear c8
                              try clear c8b0
                              try clear c8b1
                              try clear c9
                              try clear c11
                              try clear c14
                              try clear c15
                              try clear c17
                              try clear c17b0
                              try clear c18
                              try clear c19
                              try clear c19b0
                              try clear p19
                              try clear q19
                              try clear hx19
                              try clear c20
                              try clear c20b0
                              try clear c22
                              try clear c26
                              try clear c27
                              try clear c29
                              try clear c29b0
                              try clear c29b1
                              try clear c30
                              try clear c30b0
                              try clear c30b1
                              try clear c39
                              try clear c40
                              try clear c44
                              try clear c48
                              try clear c48b0
                              try clear c48b1
                              try clear c49
                              try clear c50
                              try clear c51
                              try clear c51b0
                              try clear c51b1
                              try clear c52
                              try clear c53
                              try clear c55
                              try clear c58
                              try clear c58b0
                              try clear c58b1
                              try clear c59
                              try clear c60
                              try clear c62
                              try clear p64
                              try clear hcz15_0
                              try clear hcz15_1
                              try clear hcz23_0
                              try clear hcz23_1
                              try clear hcz28_0
                              try clear hcz28_1
                              try clear hcz41_0
                              try clear hcz41_1
                              try clear hcz45_0
                              try clear hcz45_1
                              try clear hcz54_0
                              try clear hcz54_1
                              try clear hcz56_0
                              try clear hcz56_1
                              try clear hcz61_0
                              try clear hcz61_1
                              try clear hcz63_0
                              try clear hcz63_1
                              try clear hfz15_0
                              try clear hfz15_1
                              try clear hfz23_0
                              try clear hfz23_1
                              try clear hfz28_0
                              try clear hfz28_1
                              try clear hfz41_0
                              try clear hfz41_1
                              try clear hfz45_0
                              try clear hfz45_1
                              try clear hfz54_0
                              try clear hfz54_1
                              try clear hfz56_0
                              try clear hfz56_1
                              try clear hfz61_0
                              try clear hfz61_1
                              try clear hfz63_0
                              try clear hfz63_1
                              try clear hx197_0
                              try clear hx197_1
                              try clear hx197_2
                              try clear hx198_0
                              try clear hx198_1
                              try clear hx198_2
                              try clear hx199_0
                              try clear hx199_1
                              try clear hx199_2
                              try clear p1
                              try clear p19
                              try clear p197
                              try clear p198
                              try clear p199
                              try clear p2
                              try clear p6
                              try clear p64
                              try clear q1
                              try clear q19
                              try clear q197
                              try clear q198
                              try clear q199
                              obtain ⟨x12_5, x13_5, rfl, rfl, HA, HK5, HO_195000, HO_197000, BK187, BK194, BK196, HB⟩ := hrel
                              cases gk with
                              | zero => exact absurd HA.out (by simp [transeptlaw23_UpgradeSafe.l1])
                              | succ k5 =>
                                have H := HA.out
                                clear HA
                                simp only [transeptlaw23_UpgradeSafe.l1] at H
                                by_cases c65 : x13_5 < (wrap64 (1 + (Int.tmod (wrap64 ((Int.tmod a0 9) + 9)) 9)))
                                · rw [if_pos c65] at H
                                  have c65b0 : decide (x13_5 < (wrap64 (1 + (Int.tmod (wrap64 ((Int.tmod a0 9) + 9)) 9)))) = true := decide_eq_true c65
                                  clear c65
                                  have HC66 := Aside0.mk H
                                  clear H
                                  go_upto_region 22 with (fail)
                                  go_cut [12] (fun v12 wc => ∃ (kq : Nat) (x12_65 : Bool), v12 = .bool x12_65 ∧ Aside0 (transeptlaw23_UpgradeSafe.j5 kq (wrap64 (1 + (Int.tmod (wrap64 ((Int.tmod a0 9) + 9)) 9))) l1 x9_1 x12_65 x13_5 a2_0 a2_1 a2_2 a2_3 l2_4 x195000_46 x195001_46 = some r) ∧ Aside0 (kq ≤ k5) ∧ Aside0 (Kd.R (Kd.int .i64) 3 wc w.heap.size (fun _ => True) u195000 x195000_46) ∧ Aside0 (Kd.R (Kd.int .i64) 3 wc w.heap.size (fun _ => True) u197000 x197000_20) ∧ Aside0 (wc.heap[gb187]? = some (.cells #[.int .i64 a2_0, .int .i64 a2_1, .int .i64 a2_2, .int .i64 a2_3, (.slice A2_4 l2_4.length c2_4)] 43 (0, 0))) ∧ Aside0 (wc.heap[gb194]? = some (.cells #[u195000, .bool x195001_46] 26 (0, 0))) ∧ Aside0 (wc.heap[gb196]? = some (.cells #[u197000, .bool x197001_20] 26 (0, 0))) ∧ Aside0 (Below w.heap.size w wc))
                                  case first =>
                                    as_aux_lemma =>
                                    have H := HC66.out
                                    clear HC66
                                    by_cases c67 : x12_5 = true
                                    · subst c67
                                      have H1 : (if 0 ≤ x13_5 then (if x13_5 < (x195000_46.length : Int) then (transeptlaw23_UpgradeSafe.j5 k5 (wrap64 (1 + (Int.tmod (wrap64 ((Int.tmod a0 9) + 9)) 9))) l1 x9_1 ((rd x195000_46 x13_5) == 2) x13_5 a2_0 a2_1 a2_2 a2_3 l2_4 x195000_46 x195001_46) else (none)) else (none)) = some r := by rw [if_pos rfl] at H; exact H
                                      clear H
                                      have H := H1
                                      clear H1
                                      by_cases c68 : 0 ≤ x13_5
                                      · rw [if_pos c68] at H
                                        have c68b0 : decide (0 ≤ x13_5) = true := decide_eq_true c68
                                        clear c68
                                        (first | rw [c68b0] | (simp only [i64_w, i32_w]; rw [c68b0]) | skip)
                                        by_cases c69 : x13_5 < (x195000_46.length : Int)
                                        · rw [if_pos c69] at H
                                          have c69b0 : decide (x13_5 < (x195000_46.length : Int)) = true := decide_eq_true c69
                                          clear c69
                                          have H' := Aside0.mk H
                                          clear H
                                          have hnb70 := NB194_187.out
                                          have hnc70 := NB187_194.out
                                          have hnb71 := NB194_196.out
                                          have hnc71 := NB196_194.out
                                          have hcz72_0 : wr.cell? ⟨gb194, 0, none⟩ = some (u195000) := (blk_cell BK194.out 0).trans rfl
                                          have hcz72_1 : wr.cell? ⟨gb194, 1, none⟩ = some (.bool x195001_46) := (blk_cell BK194.out 1).trans rfl
                                          have hfz72_0 := blk_frozen BK194.out 0
                                          have hfz72_1 := blk_frozen BK194.out 1
                                          obtain ⟨Ao73, co73, eo73⟩ := Kd.R_slice HO_195000.out
                                          subst eo73
                                          have p211 : 0 ≤ (x13_5 : Int) := of_decide_eq_true (by first | (with_reducible assumption) | assumption)
                                          have q211 : x13_5 < (x195000_46.length : Int) := of_decide_eq_true (by first | (with_reducible assumption) | assumption)
                                          obtain ⟨ad211, e211, hx211_0⟩ := Kd.at_int (Kd.R_reads' HO_195000.out).2.2 x13_5 p211 q211
                                          cases e211
                                          replace p211 := eq_true p211
                                          replace q211 := eq_true q211
                                          go_wp2
                                          go_meet
                                          case rel => exact ⟨_, (((rd x195000_46 x13_5) == 2)), (by first | rfl | (simp; done) | (simp [*]; done)), H', ⟨by have := HK1.out; have := HJ15.out; have := HJ20.out; have := HJ46.out; have := HK5.out; first | omega | exact Nat.le_refl _⟩, ⟨by (with_reducible repeat (first | apply Kd.R_alloc | apply Kd.R_drewN | apply Kd.R_drew)); exact HO_195000.out⟩, ⟨by (with_reducible repeat (first | apply Kd.R_alloc | apply Kd.R_drewN | apply Kd.R_drew)); exact HO_197000.out⟩, ⟨by (with_reducible repeat (first | refine blk_drewN ?_ _ | refine blk_drew ?_ | refine blk_alloc ?_ _)); exact BK187.out⟩, ⟨by (with_reducible repeat (first | refine blk_drewN ?_ _ | refine blk_drew ?_ | refine blk_alloc ?_ _)); exact BK194.out⟩, ⟨by (with_reducible repeat (first | refine blk_drewN ?_ _ | refine blk_drew ?_ | refine blk_alloc ?_ _)); exact BK196.out⟩, ⟨by repeat (first | (with_reducible first | exact HB.out | apply below_alloc | apply pw_below_drewN | apply below_drew1 | refine below_set ?_ GE187.out | refine below_set ?_ GE194.out | refine below_set ?_ GE196.out) | exact HB.out)⟩⟩
                                        · rw [if_neg c69] at H
                                          exact absurd H (by simp)
                                      · rw [if_neg c68] at H
                                        exact absurd H (by simp)
                                    · replace c67 := Bool.eq_false_iff.mpr c67
                                      subst c67
                                      have H1 : (transeptlaw23_UpgradeSafe.j5 k5 (wrap64 (1 + (Int.tmod (wrap64 ((Int.tmod a0 9) + 9)) 9))) l1 x9_1 false x13_5 a2_0 a2_1 a2_2 a2_3 l2_4 x195000_46 x195001_46) = some r := by rw [if_neg (show ¬ (false = true) by decide)] at H; exact H
                                      clear H
                                      have H := H1
                                      clear H1
                                      have H' := Aside0.mk H
                                      clear H
                                      go_wp2
                                      go_meet
                                      case rel => exact ⟨_, (false), (by first | rfl | (simp; done) | (simp [*]; done)), H', ⟨by have := HK1.out; have := HJ15.out; have := HJ20.out; have := HJ46.out; have := HK5.out; first | omega | exact Nat.le_refl _⟩, ⟨by (with_reducible repeat (first | apply Kd.R_alloc | apply Kd.R_drewN | apply Kd.R_drew)); exact HO_195000.out⟩, ⟨by (with_reducible repeat (first | apply Kd.R_alloc | apply Kd.R_drewN | apply Kd.R_drew)); exact HO_197000.out⟩, ⟨by (with_reducible repeat (first | refine blk_drewN ?_ _ | refine blk_drew ?_ | refine blk_alloc ?_ _)); exact BK187.out⟩, ⟨by (with_reducible repeat (first | refine blk_drewN ?_ _ | refine blk_drew ?_ | refine blk_alloc ?_ _)); exact BK194.out⟩, ⟨by (with_reducible repeat (first | refine blk_drewN ?_ _ | refine blk_drew ?_ | refine blk_alloc ?_ _)); exact BK196.out⟩, ⟨by repeat (first | (with_reducible first | exact HB.out | apply below_alloc | apply pw_below_drewN | apply below_drew1 | refine below_set ?_ GE187.out | refine below_set ?_ GE194.out | refine below_set ?_ GE196.out) | exact HB.out)⟩⟩
                                  case rest =>
                                    as_aux_lemma =>
                                    clear HC66
                                    try clear c1
                                    try clear p1
                                    try clear q1
                                    try clear hx1
                                    try clear c2
                                    try clear p2
                                    try clear q2
                                    try clear hx2
                                    try clear c3
                                    try clear c4
                                    try clear c5
                                    try clear c6
                                    try clear p6
                                    try clear c7
                                    try clear c8
                                    try clear c8b0
                                    try clear c8b1
                                    try clear c9
                                    try clear c11
                                    try clear c14
                                    try clear c15
                                    try clear c17
                                    try clear c17b0
                                    try clear c18
                                    try clear c19
                                    try clear c19b0
                                    try clear p19
                                    try clear q19
                                    try clear hx19
                                    try clear c20
                                    try clear c20b0
                                    try clear p21
                                    try clear q21
                                    try clear hx21
                                    try clear c22
                                    try clear c26
                                    try clear c27
                                    try clear c29
                                    try clear c29b0
                                    try clear c29b1
                                    try clear c30
                                    try clear c30b0
                                    try clear c30b1
                                    try clear c39
                                    try clear c40
                                    try clear c44
                                    try clear c48
                                    try clear c48b0
                                    try clear c48b1
                                    try clear c49
                                    try clear c50
                                    try clear c51
                                    try clear c51b0
                                    try clear c51b1
                                    try clear c52
                                    try clear c53
                                    try clear c55
                                    try clear c58
                                    try clear c58b0
                                    try clear c58b1
                                    try clear c59
                                    try clear c60
                                    try clear c62
                                    try clear p64
                                    try clear c65
                                    try clear c65b0
                                    try clear c67
                                    try clear c68
                                    try clear c68b0
                                    try clear c69
                                    try clear c69b0
                                    try clear c70
                                    try clear c71
                                    try clear hcz15_0
                                    try clear hcz15_1
                                    try clear hcz23_0
                                    try clear hcz23_1
                                    try clear hcz28_0
                                    try clear hcz28_1
                                    try clear hcz41_0
                                    try clear hcz41_1
                                    try clear hcz45_0
                                    try clear hcz45_1
                                    try clear hcz54_0
                                    try clear hcz54_1
                                    try clear hcz56_0
                                    try clear hcz56_1
                                    try clear hcz61_0
                                    try clear hcz61_1
                                    try clear hcz63_0
                                    try clear hcz63_1
                                    try clear hcz72_0
                                    try clear hcz72_1
                                    try clear hfz15_0
                                    try clear hfz15_1
                                    try clear hfz23_0
                                    try clear hfz23_1
                                    try clear hfz28_0
                                    try clear hfz28_1
                                    try clear hfz41_0
                                    try clear hfz41_1
                                    try clear hfz45_0
                                    try clear hfz45_1
                                    try clear hfz54_0
                                    try clear hfz54_1
                                    try clear hfz56_0
                                    try clear hfz56_1
                                    try clear hfz61_0
                                    try clear hfz61_1
                                    try clear hfz63_0
                                    try clear hfz63_1
                                    try clear hfz72_0
                                    try clear hfz72_1
                                    try clear hx197_0
                                    try clear hx197_1
                                    try clear hx197_2
                                    try clear hx198_0
                                    try clear hx198_1
                                    try clear hx198_2
                                    try clear hx199_0
                                    try clear hx199_1
                                    try clear hx199_2
                                    try clear hx211_0
                                    try clear p1
                                    try clear p19
                                    try clear p197
                                    try clear p198
                                    try clear p199
                                    try clear p2
                                    try clear p211
                                    try clear p6
                                    try clear p64
                                    try clear q1
                                    try clear q19
                                    try clear q197
                                    try clear q198
                                    try clear q199
                                    try clear q211
                                    obtain ⟨kq, x12_65, rfl, HA, HJ65, HO_195000, HO_197000, BK187, BK194, BK196, HB⟩ := hcut
                                    cases kq with
                                    | zero => exact absurd HA.out (by simp [transeptlaw23_UpgradeSafe.j5])
                                    | succ kj65 =>
                                      have H := HA.out
                                      clear HA
                                      simp only [transeptlaw23_UpgradeSafe.j5] at H
                                      have H' := Aside0.mk H
                                      clear H
                                      go_wp2
                                      go_loopg [14] kj65 (fun kq v14 w' => ∃ (x14_7 : Int), v14 = .int .i64 x14_7 ∧ Aside0 (transeptlaw23_UpgradeSafe.l2 kq (wrap64 (1 + (Int.tmod (wrap64 ((Int.tmod a0 9) + 9)) 9))) l1 x9_1 x12_65 x13_5 x14_7 a2_0 a2_1 a2_2 a2_3 l2_4 x195000_46 x195001_46 = some r) ∧ Aside0 (kq ≤ kj65) ∧ Aside0 (Kd.R (Kd.int .i64) 3 w' w.heap.size (fun _ => True) u195000 x195000_46) ∧ Aside0 (Kd.R (Kd.int .i64) 3 w' w.heap.size (fun _ => True) u197000 x197000_20) ∧ Aside0 (w'.heap[gb187]? = some (.cells #[.int .i64 a2_0, .int .i64 a2_1, .int .i64 a2_2, .int .i64 a2_3, (.slice A2_4 l2_4.length c2_4)] 43 (0, 0))) ∧ Aside0 (w'.heap[gb194]? = some (.cells #[u195000, .bool x195001_46] 26 (0, 0))) ∧ Aside0 (w'.heap[gb196]? = some (.cells #[u197000, .bool x197001_20] 26 (0, 0))) ∧ Aside0 (Below w.heap.size w w'))
                                      case atStart => exact ⟨(0), (by first | rfl | (simp; done) | (simp [*]; done)), H', ⟨Nat.le_refl _⟩, ⟨by (with_reducible repeat (first | apply Kd.R_alloc | apply Kd.R_drewN | apply Kd.R_drew)); exact HO_195000.out⟩, ⟨by (with_reducible repeat (first | apply Kd.R_alloc | apply Kd.R_drewN | apply Kd.R_drew)); exact HO_197000.out⟩, ⟨by (with_reducible repeat (first | refine blk_drewN ?_ _ | refine blk_drew ?_ | refine blk_alloc ?_ _)); exact BK187.out⟩, ⟨by (with_reducible repeat (first | refine blk_drewN ?_ _ | refine blk_drew ?_ | refine blk_alloc ?_ _)); exact BK194.out⟩, ⟨by (with_reducible repeat (first | refine blk_drewN ?_ _ | refine blk_drew ?_ | refine blk_alloc ?_ _)); exact BK196.out⟩, ⟨by repeat (first | (with_reducible first | exact HB.out | apply below_alloc | apply pw_below_drewN | apply below_drew1 | refine below_set ?_ GE187.out | refine below_set ?_ GE194.out | refine below_set ?_ GE196.out) | exact HB.out)⟩⟩
                                      case round =>
                                        as_aux_lemma =>
                                        clear H'
                                        try clear c1
                                        try clear p1
                                        try clear q1
                                        try clear hx1
                                        try clear c2
                                        try clear p2
                                        try clear q2
                                        try clear hx2
                                        try clear c3
                                        try clear c4
                                        try clear c5
                                        try clear c6
                                        try clear p6
                                        try clear c7
                                        try clear c8
                                        try clear c8b0
                                        try clear c8b1
                                        try clear c9
                                        try clear c11
                                        try clear c14
                                        try clear c15
                                        try clear c17
                                        try clear c17b0
                                        try clear c18
                                        try clear c19
                                        try clear c19b0
                                        try clear p19
                                        try clear q19
                                        try clear hx19
                                        try clear c20
                                        try clear c20b0
                                        try clear p21
                                        try clear q21
                                        try clear hx21
                                        try clear c22
                                        try clear c26
                                        try clear c27
                                        try clear c29
                                        try clear c29b0
                                        try clear c29b1
                                        try clear c30
                                        try clear c30b0
                                        try clear c30b1
                                        try clear c39
                                        try clear c40
                                        try clear c44
                                        try clear c48
                                        try clear c48b0
                                        try clear c48b1
                                        try clear c49
                                        try clear c50
                                        try clear c51
                                        try clear c51b0
                                        try clear c51b1
                                        try clear c52
                                        try clear c53
                                        try clear c55
                                        try clear c58
                                        try clear c58b0
                                        try clear c58b1
                                        try clear c59
                                        try clear c60
                                        try clear c62
                                        try clear p64
                                        try clear c65
                                        try clear c65b0
                                        try clear c67
                                        try clear c68
                                        try clear c68b0
                                        try clear c69
                                        try clear c69b0
                                        try clear c70
                                        try clear c71
                                        try clear hcz15_0
                                        try clear hcz15_1
                                        try clear hcz23_0
                                        try clear hcz23_1
                                        try clear hcz28_0
                                        try clear hcz28_1
                                        try clear hcz41_0
                                        try clear hcz41_1
                                        try clear hcz45_0
                                        try clear hcz45_1
                                        try clear hcz54_0
                                        try clear hcz54_1
                                        try clear hcz56_0
                                        try clear hcz56_1
                                        try clear hcz61_0
                                        try clear hcz61_1
                                        try clear hcz63_0
                                        try clear hcz63_1
                                        try clear hcz72_0
                                        try clear hcz72_1
                                        try clear hfz15_0
                                        try clear hfz15_1
                                        try clear hfz23_0
                                        try clear hfz23_1
                                        try clear hfz28_0
                                        try clear hfz28_1
                                        try clear hfz41_0
                                        try clear hfz41_1
                                        try clear hfz45_0
                                        try clear hfz45_1
                                        try clear hfz54_0
                                        try clear hfz54_1
                                        try clear hfz56_0
                                        try clear hfz56_1
                                        try clear hfz61_0
                                        try clear hfz61_1
                                        try clear hfz63_0
                                        try clear hfz63_1
                                        try clear hfz72_0
                                        try clear hfz72_1
                                        try clear hx197_0
                                        try clear hx197_1
                                        try clear hx197_2
                                        try clear hx198_0
                                        try clear hx198_1
                                        try clear hx198_2
                                        try clear hx199_0
                                        try clear hx199_1
                                        try clear hx199_2
                                        try clear hx211_0
                                        try clear p1
                                        try clear p19
                                        try clear p197
                                        try clear p198
                                        try clear p199
                                        try clear p2
                                        try clear p21
                                        try clear p211
                                        try clear p6
                                        try clear p64
                                        try clear q1
                                        try clear q19
                                        try clear q197
                                        try clear q198
                                        try clear q199
                                        try clear q2
                                        try clear q21
                                        try clear q211
                                        obtain ⟨x14_7, rfl, HA, HK7, HO_195000, HO_197000, BK187, BK194, BK196, HB⟩ := hrel
                                        cases gk with
                                        | zero => exact absurd HA.out (by simp [transeptlaw23_UpgradeSafe.l2])
                                        | succ k7 =>
                                          have H := HA.out
                                          clear HA
                                          simp only [transeptlaw23_UpgradeSafe.l2] at H
                                          by_cases c74 : x14_7 < (wrap64 (1 + (Int.tmod (wrap64 ((Int.tmod a0 9) + 9)) 9)))
                                          · rw [if_pos c74] at H
                                            have c74b0 : decide (x14_7 < (wrap64 (1 + (Int.tmod (wrap64 ((Int.tmod a0 9) + 9)) 9)))) = true := decide_eq_true c74
                                            clear c74
                                            replace H := Option.bind_eq_some_iff.mp H
                                            obtain ⟨⟨t212, t213⟩, A750, H⟩ := H
                                            replace H : ((transeptlaw23_num.f t213).bind fun t214 => (if t214 = 0 then (if 0 ≤ x13_5 then (if x13_5 < (x195000_46.length : Int) then (if t212 > (rd x195000_46 x13_5) then (none) else (if 0 ≤ x14_7 then (if x14_7 < (x195000_46.length : Int) then (if t212 > (rd x195000_46 x14_7) then (none) else (if t212 < 1 then (none) else (transeptlaw23_UpgradeSafe.l2 k7 (wrap64 (1 + (Int.tmod (wrap64 ((Int.tmod a0 9) + 9)) 9))) l1 x9_1 x12_65 x13_5 (wrap64 (x14_7 + 1)) a2_0 a2_1 a2_2 a2_3 l2_4 x195000_46 x195001_46))) else (none)) else (none))) else (none)) else (none)) else (none))) = some r := H
                                            have A75 := Aside0.mk A750
                                            clear A750
                                            replace H := Option.bind_eq_some_iff.mp H
                                            obtain ⟨t214, A760, H⟩ := H
                                            replace H : (if t214 = 0 then (if 0 ≤ x13_5 then (if x13_5 < (x195000_46.length : Int) then (if t212 > (rd x195000_46 x13_5) then (none) else (if 0 ≤ x14_7 then (if x14_7 < (x195000_46.length : Int) then (if t212 > (rd x195000_46 x14_7) then (none) else (if t212 < 1 then (none) else (transeptlaw23_UpgradeSafe.l2 k7 (wrap64 (1 + (Int.tmod (wrap64 ((Int.tmod a0 9) + 9)) 9))) l1 x9_1 x12_65 x13_5 (wrap64 (x14_7 + 1)) a2_0 a2_1 a2_2 a2_3 l2_4 x195000_46 x195001_46))) else (none)) else (none))) else (none)) else (none)) else (none)) = some r := H
                                            have A76 := Aside0.mk A760
                                            clear A760
                                            by_cases c77 : t214 = 0
                                            · rw [if_pos c77] at H
                                              have c77b0 : (t214 == 0) = true := beq_iff_eq.mpr c77
                                              have c77b1 : (t214 != 0) = false := bne_eq_false_iff_eq.mpr c77
                                              clear c77
                                              by_cases c78 : 0 ≤ x13_5
                                              · rw [if_pos c78] at H
                                                have c78b0 : decide (0 ≤ x13_5) = true := decide_eq_true c78
                                                clear c78
                                                by_cases c79 : x13_5 < (x195000_46.length : Int)
                                                · rw [if_pos c79] at H
                                                  have c79b0 : decide (x13_5 < (x195000_46.length : Int)) = true := decide_eq_true c79
                                                  clear c79
                                                  by_cases c80 : t212 > (rd x195000_46 x13_5)
                                                  · rw [if_pos c80] at H
                                                    exact absurd H (by simp)
                                                  · rw [if_neg c80] at H
                                                    have c80b0 : decide ((rd x195000_46 x13_5) < t212) = false := decide_eq_false c80
                                                    clear c80
                                                    by_cases c81 : 0 ≤ x14_7
                                                    · rw [if_pos c81] at H
                                                      have c81b0 : decide (0 ≤ x14_7) = true := decide_eq_true c81
                                                      clear c81
                                                      by_cases c82 : x14_7 < (x195000_46.length : Int)
                                                      · rw [if_pos c82] at H
                                                        have c82b0 : decide (x14_7 < (x195000_46.length : Int)) = true := decide_eq_true c82
                                                        clear c82
                                                        by_cases c83 : t212 > (rd x195000_46 x14_7)
                                                        · rw [if_pos c83] at H
                                                          exact absurd H (by simp)
                                                        · rw [if_neg c83] at H
                                                          have c83b0 : decide ((rd x195000_46 x14_7) < t212) = false := decide_eq_false c83
                                                          clear c83
                                                          by_cases c84 : t212 < 1
                                                          · rw [if_pos c84] at H
                                                            exact absurd H (by simp)
                                                          · rw [if_neg c84] at H
                                                            have c84b0 : decide (t212 < 1) = false := decide_eq_false c84
                                                            clear c84
                                                            have H' := Aside0.mk H
                                                            clear H
                                                            have hnb85 := NB194_187.out
                                                            have hnc85 := NB187_194.out
                                                            have hnb86 := NB194_196.out
                                                            have hnc86 := NB196_194.out
                                                            have hcz87_0 : wr.cell? ⟨gb194, 0, none⟩ = some (u195000) := (blk_cell BK194.out 0).trans rfl
                                                            have hcz87_1 : wr.cell? ⟨gb194, 1, none⟩ = some (.bool x195001_46) := (blk_cell BK194.out 1).trans rfl
                                                            have hfz87_0 := blk_frozen BK194.out 0
                                                            have hfz87_1 := blk_frozen BK194.out 1
                                                            obtain ⟨Ao88, co88, eo88⟩ := Kd.R_slice HO_195000.out
                                                            subst eo88
                                                            go_wp2_with (first | ((with_reducible refine gate_callee (f := 16) rfl ?_); refine goesL_ (some 120) rfl rfl Try.func16 (by kernel_rfl) rfl #[.agg #[.slice Ao88 x195000_46.length co88, .bool x195001_46], .int .i64 x13_5, .int .i64 x14_7] rfl (by (try simp only [List.map_toArray, List.map_cons, List.map_nil]); first | done | rfl | (simp only [List.length_drop, List.length_take]; rfl)) ?_; (with_reducible refine (upgrade_Wire.calls k7 _ _ x195000_46 x195001_46 x13_5 x14_7 t212 t213 _ ?side1 ?side2 A75.out).mono ?_); (case side1 => repeat (first | exact (Kd.R_reads' HO_195000.out).2.2 | (with_reducible refine Kd.C_alloc ?_ _) | (with_reducible refine Kd.C_drewN ?_ _) | (with_reducible refine Kd.C_drew ?_))); (case side2 => exact (Kd.R_reads' HO_195000.out).2.1); rintro e w89 ⟨rfl, hb⟩; refine ⟨_, rfl, ?_⟩; have n0_ := Aside0.mk (Kd.R_below (by (with_reducible repeat (first | apply Kd.R_alloc | apply Kd.R_drewN | apply Kd.R_drew)); exact HO_195000.out) hb); have n1_ := Aside0.mk (Kd.R_below (by (with_reducible repeat (first | apply Kd.R_alloc | apply Kd.R_drewN | apply Kd.R_drew)); exact HO_197000.out) hb); have n2_ := Aside0.mk (blk_below (g := gb187) (o := .cells #[.int .i64 a2_0, .int .i64 a2_1, .int .i64 a2_2, .int .i64 a2_3, .slice A2_4 l2_4.length c2_4] 43 (0, 0)) (by (with_reducible repeat (first | refine blk_drewN ?_ _ | refine blk_drew ?_ | refine blk_alloc ?_ _)); exact BK187.out) hb); have n3_ := Aside0.mk (blk_below (g := gb194) (o := .cells #[.slice Ao88 x195000_46.length co88, .bool x195001_46] 26 (0, 0)) (by (with_reducible repeat (first | refine blk_drewN ?_ _ | refine blk_drew ?_ | refine blk_alloc ?_ _)); exact BK194.out) hb); have n4_ := Aside0.mk (blk_below (g := gb196) (o := .cells #[u197000, .bool x197001_20] 26 (0, 0)) (by (with_reducible repeat (first | refine blk_drewN ?_ _ | refine blk_drew ?_ | refine blk_alloc ?_ _)); exact BK196.out) hb); have n5_ := Aside0.mk (below_step (by repeat (first | (with_reducible first | exact HB.out | apply below_alloc | apply pw_below_drewN | apply below_drew1 | refine below_set ?_ GE187.out | refine below_set ?_ GE194.out | refine below_set ?_ GE196.out) | exact HB.out)) hb); clear HO_195000; clear HO_197000; clear BK187; clear BK194; clear BK196; clear HB; have HO_195000 := n0_; have HO_197000 := n1_; have BK187 := n2_; have BK194 := n3_; have BK196 := n4_; have HB := n5_; clear n0_ n1_ n2_ n3_ n4_ n5_; (try clear hb); (try clear hb2); (try clear hk); (try clear hi)) | ((with_reducible refine gate_callee (f := 14) rfl ?_); refine goesL_ (some 124) rfl rfl Try.func14 (by kernel_rfl) rfl #[.int .i64 t213] rfl (by (try simp only [List.map_toArray, List.map_cons, List.map_nil]); first | done | rfl | (simp only [List.length_drop, List.length_take]; rfl)) ?_; (with_reducible refine (transeptlaw23_num.calls t213 t214 _ A76.out).mono ?_); rintro e w' ⟨rfl, ⟨nd, rfl⟩⟩; refine ⟨_, rfl, ?_⟩; have hcz90_0 : w89.cell? ⟨gb194, 0, none⟩ = some (.slice Ao88 x195000_46.length co88) := (blk_cell BK194.out 0).trans rfl; have hcz90_1 : w89.cell? ⟨gb194, 1, none⟩ = some (.bool x195001_46) := (blk_cell BK194.out 1).trans rfl; have hfz90_0 := blk_frozen BK194.out 0; have hfz90_1 := blk_frozen BK194.out 1; have p215 : 0 ≤ (x13_5 : Int) := of_decide_eq_true (by first | (with_reducible assumption) | assumption); have q215 : x13_5 < (x195000_46.length : Int) := of_decide_eq_true (by first | (with_reducible assumption) | assumption); obtain ⟨ad215, e215, hx215_0⟩ := Kd.at_int (Kd.R_reads' HO_195000.out).2.2 x13_5 p215 q215; cases e215; replace p215 := eq_true p215; replace q215 := eq_true q215; have p216 : 0 ≤ (x14_7 : Int) := of_decide_eq_true (by first | (with_reducible assumption) | assumption); have q216 : x14_7 < (x195000_46.length : Int) := of_decide_eq_true (by first | (with_reducible assumption) | assumption); obtain ⟨ad216, e216, hx216_0⟩ := Kd.at_int (Kd.R_reads' HO_195000.out).2.2 x14_7 p216 q216; obtain rfl : ad215 = ad216 := (by injection e216); replace p216 := eq_true p216; replace q216 := eq_true q216))
                                                            go_roundg k7
                                                            case measure => have := HK1.out; have := HJ15.out; have := HJ20.out; have := HJ46.out; have := HK5.out; have := HJ65.out; have := HK7.out; omega
                                                            case rel => exact ⟨(wrap64 (x14_7 + 1)), (by first | rfl | (simp; done) | (simp [*]; done)), H', ⟨by have := HK1.out; have := HJ15.out; have := HJ20.out; have := HJ46.out; have := HK5.out; have := HJ65.out; have := HK7.out; omega⟩, ⟨by (with_reducible repeat (first | apply Kd.R_alloc | apply Kd.R_drewN | apply Kd.R_drew)); exact HO_195000.out⟩, ⟨by (with_reducible repeat (first | apply Kd.R_alloc | apply Kd.R_drewN | apply Kd.R_drew)); exact HO_197000.out⟩, ⟨by (with_reducible repeat (first | refine blk_drewN ?_ _ | refine blk_drew ?_ | refine blk_alloc ?_ _)); exact BK187.out⟩, ⟨by (with_reducible repeat (first | refine blk_drewN ?_ _ | refine blk_drew ?_ | refine blk_alloc ?_ _)); exact BK194.out⟩, ⟨by (with_reducible repeat (first | refine blk_drewN ?_ _ | refine blk_drew ?_ | refine blk_alloc ?_ _)); exact BK196.out⟩, ⟨by repeat (first | (with_reducible first | exact HB.out | apply below_alloc | apply pw_below_drewN | apply below_drew1 | refine below_set ?_ GE187.out | refine below_set ?_ GE194.out | refine below_set ?_ GE196.out) | exact HB.out)⟩⟩
                                                      · rw [if_neg c82] at H
                                                        exact absurd H (by simp)
                                                    · rw [if_neg c81] at H
                                                      exact absurd H (by simp)
                                                · rw [if_neg c79] at H
                                                  exact absurd H (by simp)
                                              · rw [if_neg c78] at H
                                                exact absurd H (by simp)
                                            · rw [if_neg c77] at H
                                              exact absurd H (by simp)
                                          · rw [if_neg c74] at H
                                            have c74b0 : decide (x14_7 < (wrap64 (1 + (Int.tmod (wrap64 ((Int.tmod a0 9) + 9)) 9)))) = false := decide_eq_false c74
                                            clear c74
                                            have H' := Aside0.mk H
                                            clear H
                                            go_wp2
                                            go_roundg k7
                                            case measure => have := HK1.out; have := HJ15.out; have := HJ20.out; have := HJ46.out; have := HK5.out; have := HJ65.out; have := HK7.out; omega
                                            case rel => exact ⟨(x12_65), (wrap64 (x13_5 + 1)), (by first | rfl | (simp; done) | (simp [*]; done)), (by first | rfl | (simp; done) | (simp [*]; done)), H', ⟨by have := HK1.out; have := HJ15.out; have := HJ20.out; have := HJ46.out; have := HK5.out; have := HJ65.out; have := HK7.out; omega⟩, ⟨by (with_reducible repeat (first | apply Kd.R_alloc | apply Kd.R_drewN | apply Kd.R_drew)); exact HO_195000.out⟩, ⟨by (with_reducible repeat (first | apply Kd.R_alloc | apply Kd.R_drewN | apply Kd.R_drew)); exact HO_197000.out⟩, ⟨by (with_reducible repeat (first | refine blk_drewN ?_ _ | refine blk_drew ?_ | refine blk_alloc ?_ _)); exact BK187.out⟩, ⟨by (with_reducible repeat (first | refine blk_drewN ?_ _ | refine blk_drew ?_ | refine blk_alloc ?_ _)); exact BK194.out⟩, ⟨by (with_reducible repeat (first | refine blk_drewN ?_ _ | refine blk_drew ?_ | refine blk_alloc ?_ _)); exact BK196.out⟩, ⟨by repeat (first | (with_reducible first | exact HB.out | apply below_alloc | apply pw_below_drewN | apply below_drew1 | refine below_set ?_ GE187.out | refine below_set ?_ GE194.out | refine below_set ?_ GE196.out) | exact HB.out)⟩⟩
                                · rw [if_neg c65] at H
                                  have c65b0 : decide (x13_5 < (wrap64 (1 + (Int.tmod (wrap64 ((Int.tmod a0 9) + 9)) 9)))) = false := decide_eq_false c65
                                  clear c65
                                  have HC91 := Aside0.mk H
                                  clear H
                                  go_upto_region 29 with (fail)
                                  go_cut [153] (fun v153 wc => ∃ (kq : Nat) (x153_90 : Bool), v153 = .bool x153_90 ∧ Aside0 (transeptlaw23_UpgradeSafe.j7 kq (wrap64 (1 + (Int.tmod (wrap64 ((Int.tmod a0 9) + 9)) 9))) l1 x9_1 x12_5 x153_90 a2_0 a2_1 a2_2 a2_3 l2_4 x195000_46 x195001_46 = some r) ∧ Aside0 (kq ≤ k5) ∧ Aside0 (Kd.R (Kd.int .i64) 3 wc w.heap.size (fun _ => True) u195000 x195000_46) ∧ Aside0 (Kd.R (Kd.int .i64) 3 wc w.heap.size (fun _ => True) u197000 x197000_20) ∧ Aside0 (wc.heap[gb187]? = some (.cells #[.int .i64 a2_0, .int .i64 a2_1, .int .i64 a2_2, .int .i64 a2_3, (.slice A2_4 l2_4.length c2_4)] 43 (0, 0))) ∧ Aside0 (wc.heap[gb194]? = some (.cells #[u195000, .bool x195001_46] 26 (0, 0))) ∧ Aside0 (wc.heap[gb196]? = some (.cells #[u197000, .bool x197001_20] 26 (0, 0))) ∧ Aside0 (Below w.heap.size w wc))
                                  case first =>
                                    as_aux_lemma =>
                                    have H := HC91.out
                                    clear HC91
                                    by_cases c92 : x195001_46 = true
                                    · subst c92
                                      have H1 : (transeptlaw23_UpgradeSafe.j7 k5 (wrap64 (1 + (Int.tmod (wrap64 ((Int.tmod a0 9) + 9)) 9))) l1 x9_1 x12_5 (!x12_5) a2_0 a2_1 a2_2 a2_3 l2_4 x195000_46 true) = some r := by rw [if_pos rfl] at H; exact H
                                      clear H
                                      have H := H1
                                      clear H1
                                      have H' := Aside0.mk H
                                      clear H
                                      have hnb93 := NB194_187.out
                                      have hnc93 := NB187_194.out
                                      have hnb94 := NB194_196.out
                                      have hnc94 := NB196_194.out
                                      have hcz95_0 : wr.cell? ⟨gb194, 0, none⟩ = some (u195000) := (blk_cell BK194.out 0).trans rfl
                                      have hcz95_1 : wr.cell? ⟨gb194, 1, none⟩ = some (.bool true) := (blk_cell BK194.out 1).trans rfl
                                      have hfz95_0 := blk_frozen BK194.out 0
                                      have hfz95_1 := blk_frozen BK194.out 1
                                      go_wp2
                                      go_meet
                                      case rel => exact ⟨_, (!x12_5), (by first | rfl | (simp; done) | (simp [*]; done)), H', ⟨by have := HK1.out; have := HJ15.out; have := HJ20.out; have := HJ46.out; have := HK5.out; first | omega | exact Nat.le_refl _⟩, ⟨by (with_reducible repeat (first | apply Kd.R_alloc | apply Kd.R_drewN | apply Kd.R_drew)); exact HO_195000.out⟩, ⟨by (with_reducible repeat (first | apply Kd.R_alloc | apply Kd.R_drewN | apply Kd.R_drew)); exact HO_197000.out⟩, ⟨by (with_reducible repeat (first | refine blk_drewN ?_ _ | refine blk_drew ?_ | refine blk_alloc ?_ _)); exact BK187.out⟩, ⟨by (with_reducible repeat (first | refine blk_drewN ?_ _ | refine blk_drew ?_ | refine blk_alloc ?_ _)); exact BK194.out⟩, ⟨by (with_reducible repeat (first | refine blk_drewN ?_ _ | refine blk_drew ?_ | refine blk_alloc ?_ _)); exact BK196.out⟩, ⟨by repeat (first | (with_reducible first | exact HB.out | apply below_alloc | apply pw_below_drewN | apply below_drew1 | refine below_set ?_ GE187.out | refine below_set ?_ GE194.out | refine below_set ?_ GE196.out) | exact HB.out)⟩⟩
                                    · replace c92 := Bool.eq_false_iff.mpr c92
                                      subst c92
                                      have H1 : (transeptlaw23_UpgradeSafe.j7 k5 (wrap64 (1 + (Int.tmod (wrap64 ((Int.tmod a0 9) + 9)) 9))) l1 x9_1 x12_5 false a2_0 a2_1 a2_2 a2_3 l2_4 x195000_46 false) = some r := by rw [if_neg (show ¬ (false = true) by decide)] at H; exact H
                                      clear H
                                      have H := H1
                                      clear H1
                                      have H' := Aside0.mk H
                                      clear H
                                      have hnb96 := NB194_187.out
                                      have hnc96 := NB187_194.out
                                      have hnb97 := NB194_196.out
                                      have hnc97 := NB196_194.out
                                      have hcz98_0 : wr.cell? ⟨gb194, 0, none⟩ = some (u195000) := (blk_cell BK194.out 0).trans rfl
                                      have hcz98_1 : wr.cell? ⟨gb194, 1, none⟩ = some (.bool false) := (blk_cell BK194.out 1).trans rfl
                                      have hfz98_0 := blk_frozen BK194.out 0
                                      have hfz98_1 := blk_frozen BK194.out 1
                                      go_wp2
                                      go_meet
                                      case rel => exact ⟨_, (false), (by first | rfl | (simp; done) | (simp [*]; done)), H', ⟨by have := HK1.out; have := HJ15.out; have := HJ20.out; have := HJ46.out; have := HK5.out; first | omega | exact Nat.le_refl _⟩, ⟨by (with_reducible repeat (first | apply Kd.R_alloc | apply Kd.R_drewN | apply Kd.R_drew)); exact HO_195000.out⟩, ⟨by (with_reducible repeat (first | apply Kd.R_alloc | apply Kd.R_drewN | apply Kd.R_drew)); exact HO_197000.out⟩, ⟨by (with_reducible repeat (first | refine blk_drewN ?_ _ | refine blk_drew ?_ | refine blk_alloc ?_ _)); exact BK187.out⟩, ⟨by (with_reducible repeat (first | refine blk_drewN ?_ _ | refine blk_drew ?_ | refine blk_alloc ?_ _)); exact BK194.out⟩, ⟨by (with_reducible repeat (first | refine blk_drewN ?_ _ | refine blk_drew ?_ | refine blk_alloc ?_ _)); exact BK196.out⟩, ⟨by repeat (first | (with_reducible first | exact HB.out | apply below_alloc | apply pw_below_drewN | apply below_drew1 | refine below_set ?_ GE187.out | refine below_set ?_ GE194.out | refine below_set ?_ GE196.out) | exact HB.out)⟩⟩
                                  case rest =>
                                    as_aux_lemma =>
                                    clear HC91
                                    try clear c1
                                    try clear p1
                                    try clear q1
                                    try clear hx1
                                    try clear c2
                                    try clear p2
                                    try clear q2
                                    try clear hx2
                                    try clear c3
                                    try clear c4
                                    try clear c5
                                    try clear c6
                                    try clear p6
                                    try clear c7
                                    try clear c8
                                    try clear c8b0
                                    try clear c8b1
                                    try clear c9
                                    try clear c11
                                    try clear c14
                                    try clear c15
                                    try clear c16
                                    try clear c17
                                    try clear c17b0
                                    try clear c18
                                    try clear c19
                                    try clear c19b0
                                    try clear p19
                                    try clear q19
                                    try clear hx19
                                    try clear c20
                                    try clear c20b0
                                    try clear p21
                                    try clear q21
                                    try clear hx21
                                    try clear c22
                                    try clear c26
                                    try clear c27
                                    try clear c29
                                    try clear c29b0
                                    try clear c29b1
                                    try clear c30
                                    try clear c30b0
                                    try clear c30b1
                                    try clear c39
                                    try clear c40
                                    try clear c44
                                    try clear c48
                                    try clear c48b0
                                    try clear c48b1
                                    try clear c49
                                    try clear c50
                                    try clear c51
                                    try clear c51b0
                                    try clear c51b1
                                    try clear c52
                                    try clear c53
                                    try clear c55
                                    try clear c58
                                    try clear c58b0
                                    try clear c58b1
                                    try clear c59
                                    try clear c60
                                    try clear c62
                                    try clear p64
                                    try clear c65
                                    try clear c65b0
                                    try clear c67
                                    try clear c68
                                    try clear c68b0
                                    try clear c69
                                    try clear c69b0
                                    try clear c70
                                    try clear c71
                                    try clear c74
                                    try clear c74b0
                                    try clear c77
                                    try clear c77b0
                                    try clear c77b1
                                    try clear c78
                                    try clear c78b0
                                    try clear c79
                                    try clear c79b0
                                    try clear c80
                                    try clear c80b0
                                    try clear c81
                                    try clear c81b0
                                    try clear c82
                                    try clear c82b0
                                    try clear c83
                                    try clear c83b0
                                    try clear c84
                                    try clear c84b0
                                    try clear c85
                                    try clear c86
                                    try clear c92
                                    try clear c93
                                    try clear c94
                                    try clear c96
                                    try clear c97
                                    try clear hcz15_0
                                    try clear hcz15_1
                                    try clear hcz23_0
                                    try clear hcz23_1
                                    try clear hcz28_0
                                    try clear hcz28_1
                                    try clear hcz41_0
                                    try clear hcz41_1
                                    try clear hcz45_0
                                    try clear hcz45_1
                                    try clear hcz54_0
                                    try clear hcz54_1
                                    try clear hcz56_0
                                    try clear hcz56_1
                                    try clear hcz61_0
                                    try clear hcz61_1
                                    try clear hcz63_0
                                    try clear hcz63_1
                                    try clear hcz72_0
                                    try clear hcz72_1
                                    try clear hcz87_0
                                    try clear hcz87_1
                                    try clear hcz90_0
                                    try clear hcz90_1
                                    try clear hcz95_0
                                    try clear hcz95_1
                                    try clear hcz98_0
                                    try clear hcz98_1
                                    try clear hfz15_0
                                    try clear hfz15_1
                                    try clear hfz23_0
                                    try clear hfz23_1
                                    try clear hfz28_0
                                    try clear hfz28_1
                                    try clear hfz41_0
                                    try clear hfz41_1
                                    try clear hfz45_0
                                    try clear hfz45_1
                                    try clear hfz54_0
                                    try clear hfz54_1
                                    try clear hfz56_0
                                    try clear hfz56_1
                                    try clear hfz61_0
                                    try clear hfz61_1
                                    try clear hfz63_0
                                    try clear hfz63_1
                                    try clear hfz72_0
                                    try clear hfz72_1
                                    try clear hfz87_0
                                    try clear hfz87_1
                                    try clear hfz90_0
                                    try clear hfz90_1
                                    try clear hfz95_0
                                    try clear hfz95_1
                                    try clear hfz98_0
                                    try clear hfz98_1
                                    try clear hx197_0
                                    try clear hx197_1
                                    try clear hx197_2
                                    try clear hx198_0
                                    try clear hx198_1
                                    try clear hx198_2
                                    try clear hx199_0
                                    try clear hx199_1
                                    try clear hx199_2
                                    try clear hx211_0
                                    try clear hx215_0
                                    try clear hx216_0
                                    try clear p1
                                    try clear p19
                                    try clear p197
                                    try clear p198
                                    try clear p199
                                    try clear p2
                                    try clear p21
                                    try clear p211
                                    try clear p215
                                    try clear p216
                                    try clear p6
                                    try clear p64
                                    try clear q1
                                    try clear q19
                                    try clear q197
                                    try clear q198
                                    try clear q199
                                    try clear q2
                                    try clear q21
                                    try clear q211
                                    try clear q215
                                    try clear q216
                                    obtain ⟨kq, x153_90, rfl, HA, HJ90, HO_195000, HO_197000, BK187, BK194, BK196, HB⟩ := hcut
                                    cases kq with
                                    | zero => exact absurd HA.out (by simp [transeptlaw23_UpgradeSafe.j7])
                                    | succ kj90 =>
                                      have H := HA.out
                                      clear HA
                                      simp only [transeptlaw23_UpgradeSafe.j7] at H
                                      by_cases c99 : x153_90 = true
                                      · subst c99
                                        have H1 : (none) = some r := by rw [if_pos rfl] at H; exact H
                                        clear H
                                        have H := H1
                                        clear H1
                                        exact absurd H (by simp)
                                      · replace c99 := Bool.eq_false_iff.mpr c99
                                        subst c99
                                        have H1 : ((upgrade_Record.f kj90 x195000_46 x195001_46 a2_0 a2_1 a2_2 a2_3 l2_4).bind fun bt217 => ((transeptlaw23_num.f bt217.2).bind fun t219 => (if t219 = 0 then ((command_Encode.f a2_0 a2_1 a2_2 a2_3 l2_4 bt217.1).bind fun bt220 => ((transeptlaw23_num.f bt220.2).bind fun t224 => (if t224 = 0 then (if bt217.1 = 2 then (if x12_5 = true then (if x195001_46 = true then (transeptlaw23_UpgradeSafe.l0 kj90 (wrap64 (1 + (Int.tmod (wrap64 ((Int.tmod a0 9) + 9)) 9))) l1 (wrap64 (x9_1 + 1)) a2_0 a2_1 a2_2 a2_3 l2_4 x195000_46 x195001_46) else (if a2_0 = 5 then (transeptlaw23_UpgradeSafe.l0 kj90 (wrap64 (1 + (Int.tmod (wrap64 ((Int.tmod a0 9) + 9)) 9))) l1 (wrap64 (x9_1 + 1)) a2_0 a2_1 a2_2 a2_3 l2_4 x195000_46 x195001_46) else (none))) else (none)) else (transeptlaw23_UpgradeSafe.l0 kj90 (wrap64 (1 + (Int.tmod (wrap64 ((Int.tmod a0 9) + 9)) 9))) l1 (wrap64 (x9_1 + 1)) a2_0 a2_1 a2_2 a2_3 l2_4 x195000_46 x195001_46)) else (none)))) else (transeptlaw23_UpgradeSafe.l0 kj90 (wrap64 (1 + (Int.tmod (wrap64 ((Int.tmod a0 9) + 9)) 9))) l1 (wrap64 (x9_1 + 1)) a2_0 a2_1 a2_2 a2_3 l2_4 x195000_46 x195001_46)))) = some r := by rw [if_neg (show ¬ (false = true) by decide)] at H; exact H
                                        clear H
                                        have H := H1
                                        clear H1
                                        replace H := Option.bind_eq_some_iff.mp H
                                        obtain ⟨⟨t217, t218⟩, A1000, H⟩ := H
                                        replace H : ((transeptlaw23_num.f t218).bind fun t219 => (if t219 = 0 then ((command_Encode.f a2_0 a2_1 a2_2 a2_3 l2_4 t217).bind fun bt220 => ((transeptlaw23_num.f bt220.2).bind fun t224 => (if t224 = 0 then (if t217 = 2 then (if x12_5 = true then (if x195001_46 = true then (transeptlaw23_UpgradeSafe.l0 kj90 (wrap64 (1 + (Int.tmod (wrap64 ((Int.tmod a0 9) + 9)) 9))) l1 (wrap64 (x9_1 + 1)) a2_0 a2_1 a2_2 a2_3 l2_4 x195000_46 x195001_46) else (if a2_0 = 5 then (transeptlaw23_UpgradeSafe.l0 kj90 (wrap64 (1 + (Int.tmod (wrap64 ((Int.tmod a0 9) + 9)) 9))) l1 (wrap64 (x9_1 + 1)) a2_0 a2_1 a2_2 a2_3 l2_4 x195000_46 x195001_46) else (none))) else (none)) else (transeptlaw23_UpgradeSafe.l0 kj90 (wrap64 (1 + (Int.tmod (wrap64 ((Int.tmod a0 9) + 9)) 9))) l1 (wrap64 (x9_1 + 1)) a2_0 a2_1 a2_2 a2_3 l2_4 x195000_46 x195001_46)) else (none)))) else (transeptlaw23_UpgradeSafe.l0 kj90 (wrap64 (1 + (Int.tmod (wrap64 ((Int.tmod a0 9) + 9)) 9))) l1 (wrap64 (x9_1 + 1)) a2_0 a2_1 a2_2 a2_3 l2_4 x195000_46 x195001_46))) = some r := H
                                        have A100 := Aside0.mk A1000
                                        clear A1000
                                        replace H := Option.bind_eq_some_iff.mp H
                                        obtain ⟨t219, A1010, H⟩ := H
                                        replace H : (if t219 = 0 then ((command_Encode.f a2_0 a2_1 a2_2 a2_3 l2_4 t217).bind fun bt220 => ((transeptlaw23_num.f bt220.2).bind fun t224 => (if t224 = 0 then (if t217 = 2 then (if x12_5 = true then (if x195001_46 = true then (transeptlaw23_UpgradeSafe.l0 kj90 (wrap64 (1 + (Int.tmod (wrap64 ((Int.tmod a0 9) + 9)) 9))) l1 (wrap64 (x9_1 + 1)) a2_0 a2_1 a2_2 a2_3 l2_4 x195000_46 x195001_46) else (if a2_0 = 5 then (transeptlaw23_UpgradeSafe.l0 kj90 (wrap64 (1 + (Int.tmod (wrap64 ((Int.tmod a0 9) + 9)) 9))) l1 (wrap64 (x9_1 + 1)) a2_0 a2_1 a2_2 a2_3 l2_4 x195000_46 x195001_46) else (none))) else (none)) else (transeptlaw23_UpgradeSafe.l0 kj90 (wrap64 (1 + (Int.tmod (wrap64 ((Int.tmod a0 9) + 9)) 9))) l1 (wrap64 (x9_1 + 1)) a2_0 a2_1 a2_2 a2_3 l2_4 x195000_46 x195001_46)) else (none)))) else (transeptlaw23_UpgradeSafe.l0 kj90 (wrap64 (1 + (Int.tmod (wrap64 ((Int.tmod a0 9) + 9)) 9))) l1 (wrap64 (x9_1 + 1)) a2_0 a2_1 a2_2 a2_3 l2_4 x195000_46 x195001_46)) = some r := H
                                        have A101 := Aside0.mk A1010
                                        clear A1010
                                        by_cases c102 : t219 = 0
                                        · rw [if_pos c102] at H
                                          have c102b0 : (t219 == 0) = true := beq_iff_eq.mpr c102
                                          have c102b1 : (t219 != 0) = false := bne_eq_false_iff_eq.mpr c102
                                          clear c102
                                          replace H := Option.bind_eq_some_iff.mp H
                                          obtain ⟨⟨t220, t223⟩, A1030, H⟩ := H
                                          replace H : ((transeptlaw23_num.f t223).bind fun t224 => (if t224 = 0 then (if t217 = 2 then (if x12_5 = true then (if x195001_46 = true then (transeptlaw23_UpgradeSafe.l0 kj90 (wrap64 (1 + (Int.tmod (wrap64 ((Int.tmod a0 9) + 9)) 9))) l1 (wrap64 (x9_1 + 1)) a2_0 a2_1 a2_2 a2_3 l2_4 x195000_46 x195001_46) else (if a2_0 = 5 then (transeptlaw23_UpgradeSafe.l0 kj90 (wrap64 (1 + (Int.tmod (wrap64 ((Int.tmod a0 9) + 9)) 9))) l1 (wrap64 (x9_1 + 1)) a2_0 a2_1 a2_2 a2_3 l2_4 x195000_46 x195001_46) else (none))) else (none)) else (transeptlaw23_UpgradeSafe.l0 kj90 (wrap64 (1 + (Int.tmod (wrap64 ((Int.tmod a0 9) + 9)) 9))) l1 (wrap64 (x9_1 + 1)) a2_0 a2_1 a2_2 a2_3 l2_4 x195000_46 x195001_46)) else (none))) = some r := H
                                          have A103 := Aside0.mk A1030
                                          clear A1030
                                          replace H := Option.bind_eq_some_iff.mp H
                                          obtain ⟨t224, A1040, H⟩ := H
                                          replace H : (if t224 = 0 then (if t217 = 2 then (if x12_5 = true then (if x195001_46 = true then (transeptlaw23_UpgradeSafe.l0 kj90 (wrap64 (1 + (Int.tmod (wrap64 ((Int.tmod a0 9) + 9)) 9))) l1 (wrap64 (x9_1 + 1)) a2_0 a2_1 a2_2 a2_3 l2_4 x195000_46 x195001_46) else (if a2_0 = 5 then (transeptlaw23_UpgradeSafe.l0 kj90 (wrap64 (1 + (Int.tmod (wrap64 ((Int.tmod a0 9) + 9)) 9))) l1 (wrap64 (x9_1 + 1)) a2_0 a2_1 a2_2 a2_3 l2_4 x195000_46 x195001_46) else (none))) else (none)) else (transeptlaw23_UpgradeSafe.l0 kj90 (wrap64 (1 + (Int.tmod (wrap64 ((Int.tmod a0 9) + 9)) 9))) l1 (wrap64 (x9_1 + 1)) a2_0 a2_1 a2_2 a2_3 l2_4 x195000_46 x195001_46)) else (none)) = some r := H
                                          have A104 := Aside0.mk A1040
                                          clear A1040
                                          by_cases c105 : t224 = 0
                                          · rw [if_pos c105] at H
                                            have c105b0 : (t224 == 0) = true := beq_iff_eq.mpr c105
                                            have c105b1 : (t224 != 0) = false := bne_eq_false_iff_eq.mpr c105
                                            clear c105
                                            by_cases c106 : t217 = 2
                                            · rw [if_pos c106] at H
                                              have c106b0 : (t217 == 2) = true := beq_iff_eq.mpr c106
                                              have c106b1 : (t217 != 2) = false := bne_eq_false_iff_eq.mpr c106
                                              clear c106
                                              by_cases c107 : x12_5 = true
                                              · subst c107
                                                have H1 : (if x195001_46 = true then (transeptlaw23_UpgradeSafe.l0 kj90 (wrap64 (1 + (Int.tmod (wrap64 ((Int.tmod a0 9) + 9)) 9))) l1 (wrap64 (x9_1 + 1)) a2_0 a2_1 a2_2 a2_3 l2_4 x195000_46 x195001_46) else (if a2_0 = 5 then (transeptlaw23_UpgradeSafe.l0 kj90 (wrap64 (1 + (Int.tmod (wrap64 ((Int.tmod a0 9) + 9)) 9))) l1 (wrap64 (x9_1 + 1)) a2_0 a2_1 a2_2 a2_3 l2_4 x195000_46 x195001_46) else (none))) = some r := by rw [if_pos rfl] at H; exact H
                                                clear H
                                                have H := H1
                                                clear H1
                                                by_cases c108 : x195001_46 = true
                                                · subst c108
                                                  have H1 : (transeptlaw23_UpgradeSafe.l0 kj90 (wrap64 (1 + (Int.tmod (wrap64 ((Int.tmod a0 9) + 9)) 9))) l1 (wrap64 (x9_1 + 1)) a2_0 a2_1 a2_2 a2_3 l2_4 x195000_46 true) = some r := by rw [if_pos rfl] at H; exact H
                                                  clear H
                                                  have H := H1
                                                  clear H1
                                                  have H' := Aside0.mk H
                                                  clear H
                                                  have hnb109 := NB194_187.out
                                                  have hnc109 := NB187_194.out
                                                  have hnb110 := NB194_196.out
                                                  have hnc110 := NB196_194.out
                                                  have hcz111_0 : wc.cell? ⟨gb194, 0, none⟩ = some (u195000) := (blk_cell BK194.out 0).trans rfl
                                                  have hcz111_1 : wc.cell? ⟨gb194, 1, none⟩ = some (.bool true) := (blk_cell BK194.out 1).trans rfl
                                                  have hfz111_0 := blk_frozen BK194.out 0
                                                  have hfz111_1 := blk_frozen BK194.out 1
                                                  have hnb112 := NB187_196.out
                                                  have hnc112 := NB196_187.out
                                                  have hcz113_0 : wc.cell? ⟨gb187, 0, none⟩ = some (.int .i64 a2_0) := (blk_cell BK187.out 0).trans rfl
                                                  have hcz113_1 : wc.cell? ⟨gb187, 1, none⟩ = some (.int .i64 a2_1) := (blk_cell BK187.out 1).trans rfl
                                                  have hcz113_2 : wc.cell? ⟨gb187, 2, none⟩ = some (.int .i64 a2_2) := (blk_cell BK187.out 2).trans rfl
                                                  have hcz113_3 : wc.cell? ⟨gb187, 3, none⟩ = some (.int .i64 a2_3) := (blk_cell BK187.out 3).trans rfl
                                                  have hcz113_4 : wc.cell? ⟨gb187, 4, none⟩ = some (.slice A2_4 l2_4.length c2_4) := (blk_cell BK187.out 4).trans rfl
                                                  have hfz113_0 := blk_frozen BK187.out 0
                                                  have hfz113_1 := blk_frozen BK187.out 1
                                                  have hfz113_2 := blk_frozen BK187.out 2
                                                  have hfz113_3 := blk_frozen BK187.out 3
                                                  have hfz113_4 := blk_frozen BK187.out 4
                                                  obtain ⟨Ao114, co114, eo114⟩ := Kd.R_slice HO_195000.out
                                                  subst eo114
                                                  go_wp2_with (first | ((with_reducible refine gate_callee (f := 18) rfl ?_); refine goesL_ (some 157) rfl rfl Try.func18 (by kernel_rfl) rfl #[.agg #[.slice Ao114 x195000_46.length co114, .bool true], .agg #[.int .i64 a2_0, .int .i64 a2_1, .int .i64 a2_2, .int .i64 a2_3, .slice A2_4 l2_4.length c2_4]] rfl (by (try simp only [List.map_toArray, List.map_cons, List.map_nil]); first | done | rfl | (simp only [List.length_drop, List.length_take]; rfl)) ?_; (with_reducible refine (upgrade_Record.calls kj90 _ _ x195000_46 true a2_0 a2_1 a2_2 a2_3 _ _ l2_4 t217 t218 _ ?side1 ?side2 ?side3 ?side4 A100.out).mono ?_); (case side1 => repeat (first | exact (Kd.R_reads' HO_195000.out).2.2 | (with_reducible refine Kd.C_alloc ?_ _) | (with_reducible refine Kd.C_drewN ?_ _) | (with_reducible refine Kd.C_drew ?_))); (case side2 => exact (Kd.R_reads' HO_195000.out).2.1); (case side3 => repeat (first | exact (Kd.C_below HR2_4.out HB.out) | (with_reducible refine Kd.C_alloc ?_ _) | (with_reducible refine Kd.C_drewN ?_ _) | (with_reducible refine Kd.C_drew ?_))); (case side4 => exact HC2_4.out); rintro e w115 ⟨rfl, hb⟩; refine ⟨_, rfl, ?_⟩; have n0_ := Aside0.mk (Kd.R_below (by (with_reducible repeat (first | apply Kd.R_alloc | apply Kd.R_drewN | apply Kd.R_drew)); exact HO_195000.out) hb); have n1_ := Aside0.mk (Kd.R_below (by (with_reducible repeat (first | apply Kd.R_alloc | apply Kd.R_drewN | apply Kd.R_drew)); exact HO_197000.out) hb); have n2_ := Aside0.mk (blk_below (g := gb187) (o := .cells #[.int .i64 a2_0, .int .i64 a2_1, .int .i64 a2_2, .int .i64 a2_3, .slice A2_4 l2_4.length c2_4] 43 (0, 0)) (by (with_reducible repeat (first | refine blk_drewN ?_ _ | refine blk_drew ?_ | refine blk_alloc ?_ _)); exact BK187.out) hb); have n3_ := Aside0.mk (blk_below (g := gb194) (o := .cells #[.slice Ao114 x195000_46.length co114, .bool true] 26 (0, 0)) (by (with_reducible repeat (first | refine blk_drewN ?_ _ | refine blk_drew ?_ | refine blk_alloc ?_ _)); exact BK194.out) hb); have n4_ := Aside0.mk (blk_below (g := gb196) (o := .cells #[u197000, .bool x197001_20] 26 (0, 0)) (by (with_reducible repeat (first | refine blk_drewN ?_ _ | refine blk_drew ?_ | refine blk_alloc ?_ _)); exact BK196.out) hb); have n5_ := Aside0.mk (below_step (by repeat (first | (with_reducible first | exact HB.out | apply below_alloc | apply pw_below_drewN | apply below_drew1 | refine below_set ?_ GE187.out | refine below_set ?_ GE194.out | refine below_set ?_ GE196.out) | exact HB.out)) hb); clear HO_195000; clear HO_197000; clear BK187; clear BK194; clear BK196; clear HB; have HO_195000 := n0_; have HO_197000 := n1_; have BK187 := n2_; have BK194 := n3_; have BK196 := n4_; have HB := n5_; clear n0_ n1_ n2_ n3_ n4_ n5_; (try clear hb); (try clear hb2); (try clear hk); (try clear hi)) | ((with_reducible refine gate_callee (f := 14) rfl ?_); refine goesL_ (some 161) rfl rfl Try.func14 (by kernel_rfl) rfl #[.int .i64 t218] rfl (by (try simp only [List.map_toArray, List.map_cons, List.map_nil]); first | done | rfl | (simp only [List.length_drop, List.length_take]; rfl)) ?_; (with_reducible refine (transeptlaw23_num.calls t218 t219 _ A101.out).mono ?_); rintro e w' ⟨rfl, ⟨nd, rfl⟩⟩; refine ⟨_, rfl, ?_⟩; have hcz116_0 : w115.cell? ⟨gb187, 0, none⟩ = some (.int .i64 a2_0) := (blk_cell BK187.out 0).trans rfl; have hcz116_1 : w115.cell? ⟨gb187, 1, none⟩ = some (.int .i64 a2_1) := (blk_cell BK187.out 1).trans rfl; have hcz116_2 : w115.cell? ⟨gb187, 2, none⟩ = some (.int .i64 a2_2) := (blk_cell BK187.out 2).trans rfl; have hcz116_3 : w115.cell? ⟨gb187, 3, none⟩ = some (.int .i64 a2_3) := (blk_cell BK187.out 3).trans rfl; have hcz116_4 : w115.cell? ⟨gb187, 4, none⟩ = some (.slice A2_4 l2_4.length c2_4) := (blk_cell BK187.out 4).trans rfl; have hfz116_0 := blk_frozen BK187.out 0; have hfz116_1 := blk_frozen BK187.out 1; have hfz116_2 := blk_frozen BK187.out 2; have hfz116_3 := blk_frozen BK187.out 3; have hfz116_4 := blk_frozen BK187.out 4) | ((with_reducible refine gate_callee (f := 23) rfl ?_); refine goesL_ (some 166) rfl rfl Try.func23 (by kernel_rfl) rfl #[.agg #[.int .i64 a2_0, .int .i64 a2_1, .int .i64 a2_2, .int .i64 a2_3, .slice A2_4 l2_4.length c2_4], .int .i64 t217] rfl (by (try simp only [List.map_toArray, List.map_cons, List.map_nil]); first | done | rfl | (simp only [List.length_drop, List.length_take]; rfl)) ?_; (with_reducible refine (command_Encode.calls a2_0 a2_1 a2_2 a2_3 _ _ l2_4 t217 t220 t223 _ ?side1 ?side2 A103.out).mono ?_); (case side1 => repeat (first | exact (Kd.C_below HR2_4.out (by repeat (first | (with_reducible first | exact HB.out | apply below_alloc | apply pw_below_drewN | apply below_drew1 | refine below_set ?_ GE187.out | refine below_set ?_ GE194.out | refine below_set ?_ GE196.out) | exact HB.out))) | (with_reducible refine Kd.C_alloc ?_ _) | (with_reducible refine Kd.C_drewN ?_ _) | (with_reducible refine Kd.C_drew ?_))); (case side2 => exact HC2_4.out); rintro e w117 ⟨v221, rfl, ho0, hb⟩; refine ⟨_, rfl, ?_⟩; have n0_ := Aside0.mk (Kd.R_below (by (with_reducible repeat (first | apply Kd.R_alloc | apply Kd.R_drewN | apply Kd.R_drew)); exact HO_195000.out) hb); have n1_ := Aside0.mk (Kd.R_below (by (with_reducible repeat (first | apply Kd.R_alloc | apply Kd.R_drewN | apply Kd.R_drew)); exact HO_197000.out) hb); have n2_ := Aside0.mk (Kd.R_lower ho0 (below_size (by repeat (first | (with_reducible first | exact HB.out | apply below_alloc | apply pw_below_drewN | apply below_drew1 | refine below_set ?_ GE187.out | refine below_set ?_ GE194.out | refine below_set ?_ GE196.out) | exact HB.out)))); have n3_ := Aside0.mk (blk_below (g := gb187) (o := .cells #[.int .i64 a2_0, .int .i64 a2_1, .int .i64 a2_2, .int .i64 a2_3, .slice A2_4 l2_4.length c2_4] 43 (0, 0)) (by (with_reducible repeat (first | refine blk_drewN ?_ _ | refine blk_drew ?_ | refine blk_alloc ?_ _)); exact BK187.out) hb); have n4_ := Aside0.mk (blk_below (g := gb194) (o := .cells #[.slice Ao114 x195000_46.length co114, .bool true] 26 (0, 0)) (by (with_reducible repeat (first | refine blk_drewN ?_ _ | refine blk_drew ?_ | refine blk_alloc ?_ _)); exact BK194.out) hb); have n5_ := Aside0.mk (blk_below (g := gb196) (o := .cells #[u197000, .bool x197001_20] 26 (0, 0)) (by (with_reducible repeat (first | refine blk_drewN ?_ _ | refine blk_drew ?_ | refine blk_alloc ?_ _)); exact BK196.out) hb); have n6_ := Aside0.mk (below_step (by repeat (first | (with_reducible first | exact HB.out | apply below_alloc | apply pw_below_drewN | apply below_drew1 | refine below_set ?_ GE187.out | refine below_set ?_ GE194.out | refine below_set ?_ GE196.out) | exact HB.out)) hb); clear HO_195000; clear HO_197000; clear BK187; clear BK194; clear BK196; clear HB; have HO_195000 := n0_; have HO_197000 := n1_; have HO222 := n2_; have BK187 := n3_; have BK194 := n4_; have BK196 := n5_; have HB := n6_; clear n0_ n1_ n2_ n3_ n4_ n5_ n6_; (try clear hb); (try clear hb2); (try clear hk); (try clear hi); (try clear ho0)) | ((with_reducible refine gate_callee (f := 14) rfl ?_); refine goesL_ (some 170) rfl rfl Try.func14 (by kernel_rfl) rfl #[.int .i64 t223] rfl (by (try simp only [List.map_toArray, List.map_cons, List.map_nil]); first | done | rfl | (simp only [List.length_drop, List.length_take]; rfl)) ?_; (with_reducible refine (transeptlaw23_num.calls t223 t224 _ A104.out).mono ?_); rintro e w' ⟨rfl, ⟨nd, rfl⟩⟩; refine ⟨_, rfl, ?_⟩; have hcz118_0 : w117.cell? ⟨gb194, 0, none⟩ = some (.slice Ao114 x195000_46.length co114) := (blk_cell BK194.out 0).trans rfl; have hcz118_1 : w117.cell? ⟨gb194, 1, none⟩ = some (.bool true) := (blk_cell BK194.out 1).trans rfl; have hfz118_0 := blk_frozen BK194.out 0; have hfz118_1 := blk_frozen BK194.out 1))
                                                  go_roundg kj90
                                                  case measure => have := HK1.out; have := HJ15.out; have := HJ20.out; have := HJ46.out; have := HK5.out; have := HJ90.out; omega
                                                  case rel => exact ⟨(wrap64 (x9_1 + 1)), (x195000_46), (true), (.slice Ao114 x195000_46.length co114), (by first | rfl | (simp; done) | (simp [*]; done)), H', ⟨by have := HK1.out; have := HJ15.out; have := HJ20.out; have := HJ46.out; have := HK5.out; have := HJ90.out; omega⟩, ⟨by (with_reducible repeat (first | apply Kd.R_alloc | apply Kd.R_drewN | apply Kd.R_drew)); exact HO_195000.out⟩, ⟨by (with_reducible repeat (first | refine blk_drewN ?_ _ | refine blk_drew ?_ | refine blk_alloc ?_ _)); exact BK187.out⟩, ⟨by (with_reducible repeat (first | refine blk_drewN ?_ _ | refine blk_drew ?_ | refine blk_alloc ?_ _)); exact BK194.out⟩, ⟨by repeat (first | (with_reducible first | exact HB.out | apply below_alloc | apply pw_below_drewN | apply below_drew1 | refine below_set ?_ GE187.out | refine below_set ?_ GE194.out | refine below_set ?_ GE196.out) | exact HB.out)⟩⟩
                                                · replace c108 := Bool.eq_false_iff.mpr c108
                                                  subst c108
                                                  have H1 : (if a2_0 = 5 then (transeptlaw23_UpgradeSafe.l0 kj90 (wrap64 (1 + (Int.tmod (wrap64 ((Int.tmod a0 9) + 9)) 9))) l1 (wrap64 (x9_1 + 1)) a2_0 a2_1 a2_2 a2_3 l2_4 x195000_46 false) else (none)) = some r := by rw [if_neg (show ¬ (false = true) by decide)] at H; exact H
                                                  clear H
                                                  have H := H1
                                                  clear H1
                                                  by_cases c119 : a2_0 = 5
                                                  · rw [if_pos c119] at H
                                                    have c119b0 : (a2_0 == 5) = true := beq_iff_eq.mpr c119
                                                    have c119b1 : (a2_0 != 5) = false := bne_eq_false_iff_eq.mpr c119
                                                    clear c119
                                                    have H' := Aside0.mk H
                                                    clear H
                                                    have hnb120 := NB194_187.out
                                                    have hnc120 := NB187_194.out
                                                    have hnb121 := NB194_196.out
                                                    have hnc121 := NB196_194.out
                                                    have hcz122_0 : wc.cell? ⟨gb194, 0, none⟩ = some (u195000) := (blk_cell BK194.out 0).trans rfl
                                                    have hcz122_1 : wc.cell? ⟨gb194, 1, none⟩ = some (.bool false) := (blk_cell BK194.out 1).trans rfl
                                                    have hfz122_0 := blk_frozen BK194.out 0
                                                    have hfz122_1 := blk_frozen BK194.out 1
                                                    have hnb123 := NB187_196.out
                                                    have hnc123 := NB196_187.out
                                                    have hcz124_0 : wc.cell? ⟨gb187, 0, none⟩ = some (.int .i64 a2_0) := (blk_cell BK187.out 0).trans rfl
                                                    have hcz124_1 : wc.cell? ⟨gb187, 1, none⟩ = some (.int .i64 a2_1) := (blk_cell BK187.out 1).trans rfl
                                                    have hcz124_2 : wc.cell? ⟨gb187, 2, none⟩ = some (.int .i64 a2_2) := (blk_cell BK187.out 2).trans rfl
                                                    have hcz124_3 : wc.cell? ⟨gb187, 3, none⟩ = some (.int .i64 a2_3) := (blk_cell BK187.out 3).trans rfl
                                                    have hcz124_4 : wc.cell? ⟨gb187, 4, none⟩ = some (.slice A2_4 l2_4.length c2_4) := (blk_cell BK187.out 4).trans rfl
                                                    have hfz124_0 := blk_frozen BK187.out 0
                                                    have hfz124_1 := blk_frozen BK187.out 1
                                                    have hfz124_2 := blk_frozen BK187.out 2
                                                    have hfz124_3 := blk_frozen BK187.out 3
                                                    have hfz124_4 := blk_frozen BK187.out 4
                                                    obtain ⟨Ao125, co125, eo125⟩ := Kd.R_slice HO_195000.out
                                                    subst eo125
                                                    go_wp2_with (first | ((with_reducible refine gate_callee (f := 18) rfl ?_); refine goesL_ (some 157) rfl rfl Try.func18 (by kernel_rfl) rfl #[.agg #[.slice Ao125 x195000_46.length co125, .bool false], .agg #[.int .i64 a2_0, .int .i64 a2_1, .int .i64 a2_2, .int .i64 a2_3, .slice A2_4 l2_4.length c2_4]] rfl (by (try simp only [List.map_toArray, List.map_cons, List.map_nil]); first | done | rfl | (simp only [List.length_drop, List.length_take]; rfl)) ?_; (with_reducible refine (upgrade_Record.calls kj90 _ _ x195000_46 false a2_0 a2_1 a2_2 a2_3 _ _ l2_4 t217 t218 _ ?side1 ?side2 ?side3 ?side4 A100.out).mono ?_); (case side1 => repeat (first | exact (Kd.R_reads' HO_195000.out).2.2 | (with_reducible refine Kd.C_alloc ?_ _) | (with_reducible refine Kd.C_drewN ?_ _) | (with_reducible refine Kd.C_drew ?_))); (case side2 => exact (Kd.R_reads' HO_195000.out).2.1); (case side3 => repeat (first | exact (Kd.C_below HR2_4.out HB.out) | (with_reducible refine Kd.C_alloc ?_ _) | (with_reducible refine Kd.C_drewN ?_ _) | (with_reducible refine Kd.C_drew ?_))); (case side4 => exact HC2_4.out); rintro e w126 ⟨rfl, hb⟩; refine ⟨_, rfl, ?_⟩; have n0_ := Aside0.mk (Kd.R_below (by (with_reducible repeat (first | apply Kd.R_alloc | apply Kd.R_drewN | apply Kd.R_drew)); exact HO_195000.out) hb); have n1_ := Aside0.mk (Kd.R_below (by (with_reducible repeat (first | apply Kd.R_alloc | apply Kd.R_drewN | apply Kd.R_drew)); exact HO_197000.out) hb); have n2_ := Aside0.mk (blk_below (g := gb187) (o := .cells #[.int .i64 a2_0, .int .i64 a2_1, .int .i64 a2_2, .int .i64 a2_3, .slice A2_4 l2_4.length c2_4] 43 (0, 0)) (by (with_reducible repeat (first | refine blk_drewN ?_ _ | refine blk_drew ?_ | refine blk_alloc ?_ _)); exact BK187.out) hb); have n3_ := Aside0.mk (blk_below (g := gb194) (o := .cells #[.slice Ao125 x195000_46.length co125, .bool false] 26 (0, 0)) (by (with_reducible repeat (first | refine blk_drewN ?_ _ | refine blk_drew ?_ | refine blk_alloc ?_ _)); exact BK194.out) hb); have n4_ := Aside0.mk (blk_below (g := gb196) (o := .cells #[u197000, .bool x197001_20] 26 (0, 0)) (by (with_reducible repeat (first | refine blk_drewN ?_ _ | refine blk_drew ?_ | refine blk_alloc ?_ _)); exact BK196.out) hb); have n5_ := Aside0.mk (below_step (by repeat (first | (with_reducible first | exact HB.out | apply below_alloc | apply pw_below_drewN | apply below_drew1 | refine below_set ?_ GE187.out | refine below_set ?_ GE194.out | refine below_set ?_ GE196.out) | exact HB.out)) hb); clear HO_195000; clear HO_197000; clear BK187; clear BK194; clear BK196; clear HB; have HO_195000 := n0_; have HO_197000 := n1_; have BK187 := n2_; have BK194 := n3_; have BK196 := n4_; have HB := n5_; clear n0_ n1_ n2_ n3_ n4_ n5_; (try clear hb); (try clear hb2); (try clear hk); (try clear hi)) | ((with_reducible refine gate_callee (f := 14) rfl ?_); refine goesL_ (some 161) rfl rfl Try.func14 (by kernel_rfl) rfl #[.int .i64 t218] rfl (by (try simp only [List.map_toArray, List.map_cons, List.map_nil]); first | done | rfl | (simp only [List.length_drop, List.length_take]; rfl)) ?_; (with_reducible refine (transeptlaw23_num.calls t218 t219 _ A101.out).mono ?_); rintro e w' ⟨rfl, ⟨nd, rfl⟩⟩; refine ⟨_, rfl, ?_⟩; have hcz127_0 : w126.cell? ⟨gb187, 0, none⟩ = some (.int .i64 a2_0) := (blk_cell BK187.out 0).trans rfl; have hcz127_1 : w126.cell? ⟨gb187, 1, none⟩ = some (.int .i64 a2_1) := (blk_cell BK187.out 1).trans rfl; have hcz127_2 : w126.cell? ⟨gb187, 2, none⟩ = some (.int .i64 a2_2) := (blk_cell BK187.out 2).trans rfl; have hcz127_3 : w126.cell? ⟨gb187, 3, none⟩ = some (.int .i64 a2_3) := (blk_cell BK187.out 3).trans rfl; have hcz127_4 : w126.cell? ⟨gb187, 4, none⟩ = some (.slice A2_4 l2_4.length c2_4) := (blk_cell BK187.out 4).trans rfl; have hfz127_0 := blk_frozen BK187.out 0; have hfz127_1 := blk_frozen BK187.out 1; have hfz127_2 := blk_frozen BK187.out 2; have hfz127_3 := blk_frozen BK187.out 3; have hfz127_4 := blk_frozen BK187.out 4) | ((with_reducible refine gate_callee (f := 23) rfl ?_); refine goesL_ (some 166) rfl rfl Try.func23 (by kernel_rfl) rfl #[.agg #[.int .i64 a2_0, .int .i64 a2_1, .int .i64 a2_2, .int .i64 a2_3, .slice A2_4 l2_4.length c2_4], .int .i64 t217] rfl (by (try simp only [List.map_toArray, List.map_cons, List.map_nil]); first | done | rfl | (simp only [List.length_drop, List.length_take]; rfl)) ?_; (with_reducible refine (command_Encode.calls a2_0 a2_1 a2_2 a2_3 _ _ l2_4 t217 t220 t223 _ ?side1 ?side2 A103.out).mono ?_); (case side1 => repeat (first | exact (Kd.C_below HR2_4.out (by repeat (first | (with_reducible first | exact HB.out | apply below_alloc | apply pw_below_drewN | apply below_drew1 | refine below_set ?_ GE187.out | refine below_set ?_ GE194.out | refine below_set ?_ GE196.out) | exact HB.out))) | (with_reducible refine Kd.C_alloc ?_ _) | (with_reducible refine Kd.C_drewN ?_ _) | (with_reducible refine Kd.C_drew ?_))); (case side2 => exact HC2_4.out); rintro e w128 ⟨v221, rfl, ho0, hb⟩; refine ⟨_, rfl, ?_⟩; have n0_ := Aside0.mk (Kd.R_below (by (with_reducible repeat (first | apply Kd.R_alloc | apply Kd.R_drewN | apply Kd.R_drew)); exact HO_195000.out) hb); have n1_ := Aside0.mk (Kd.R_below (by (with_reducible repeat (first | apply Kd.R_alloc | apply Kd.R_drewN | apply Kd.R_drew)); exact HO_197000.out) hb); have n2_ := Aside0.mk (Kd.R_lower ho0 (below_size (by repeat (first | (with_reducible first | exact HB.out | apply below_alloc | apply pw_below_drewN | apply below_drew1 | refine below_set ?_ GE187.out | refine below_set ?_ GE194.out | refine below_set ?_ GE196.out) | exact HB.out)))); have n3_ := Aside0.mk (blk_below (g := gb187) (o := .cells #[.int .i64 a2_0, .int .i64 a2_1, .int .i64 a2_2, .int .i64 a2_3, .slice A2_4 l2_4.length c2_4] 43 (0, 0)) (by (with_reducible repeat (first | refine blk_drewN ?_ _ | refine blk_drew ?_ | refine blk_alloc ?_ _)); exact BK187.out) hb); have n4_ := Aside0.mk (blk_below (g := gb194) (o := .cells #[.slice Ao125 x195000_46.length co125, .bool false] 26 (0, 0)) (by (with_reducible repeat (first | refine blk_drewN ?_ _ | refine blk_drew ?_ | refine blk_alloc ?_ _)); exact BK194.out) hb); have n5_ := Aside0.mk (blk_below (g := gb196) (o := .cells #[u197000, .bool x197001_20] 26 (0, 0)) (by (with_reducible repeat (first | refine blk_drewN ?_ _ | refine blk_drew ?_ | refine blk_alloc ?_ _)); exact BK196.out) hb); have n6_ := Aside0.mk (below_step (by repeat (first | (with_reducible first | exact HB.out | apply below_alloc | apply pw_below_drewN | apply below_drew1 | refine below_set ?_ GE187.out | refine below_set ?_ GE194.out | refine below_set ?_ GE196.out) | exact HB.out)) hb); clear HO_195000; clear HO_197000; clear BK187; clear BK194; clear BK196; clear HB; have HO_195000 := n0_; have HO_197000 := n1_; have HO222 := n2_; have BK187 := n3_; have BK194 := n4_; have BK196 := n5_; have HB := n6_; clear n0_ n1_ n2_ n3_ n4_ n5_ n6_; (try clear hb); (try clear hb2); (try clear hk); (try clear hi); (try clear ho0)) | ((with_reducible refine gate_callee (f := 14) rfl ?_); refine goesL_ (some 170) rfl rfl Try.func14 (by kernel_rfl) rfl #[.int .i64 t223] rfl (by (try simp only [List.map_toArray, List.map_cons, List.map_nil]); first | done | rfl | (simp only [List.length_drop, List.length_take]; rfl)) ?_; (with_reducible refine (transeptlaw23_num.calls t223 t224 _ A104.out).mono ?_); rintro e w' ⟨rfl, ⟨nd, rfl⟩⟩; refine ⟨_, rfl, ?_⟩; have hcz129_0 : w128.cell? ⟨gb194, 0, none⟩ = some (.slice Ao125 x195000_46.length co125) := (blk_cell BK194.out 0).trans rfl; have hcz129_1 : w128.cell? ⟨gb194, 1, none⟩ = some (.bool false) := (blk_cell BK194.out 1).trans rfl; have hfz129_0 := blk_frozen BK194.out 0; have hfz129_1 := blk_frozen BK194.out 1; have hcz130_0 : w128.cell? ⟨gb187, 0, none⟩ = some (.int .i64 a2_0) := (blk_cell BK187.out 0).trans rfl; have hcz130_1 : w128.cell? ⟨gb187, 1, none⟩ = some (.int .i64 a2_1) := (blk_cell BK187.out 1).trans rfl; have hcz130_2 : w128.cell? ⟨gb187, 2, none⟩ = some (.int .i64 a2_2) := (blk_cell BK187.out 2).trans rfl; have hcz130_3 : w128.cell? ⟨gb187, 3, none⟩ = some (.int .i64 a2_3) := (blk_cell BK187.out 3).trans rfl; have hcz130_4 : w128.cell? ⟨gb187, 4, none⟩ = some (.slice A2_4 l2_4.length c2_4) := (blk_cell BK187.out 4).trans rfl; have hfz130_0 := blk_frozen BK187.out 0; have hfz130_1 := blk_frozen BK187.out 1; have hfz130_2 := blk_frozen BK187.out 2; have hfz130_3 := blk_frozen BK187.out 3; have hfz130_4 := blk_frozen BK187.out 4))
                                                    go_roundg kj90
                                                    case measure => have := HK1.out; have := HJ15.out; have := HJ20.out; have := HJ46.out; have := HK5.out; have := HJ90.out; omega
                                                    case rel => exact ⟨(wrap64 (x9_1 + 1)), (x195000_46), (false), (.slice Ao125 x195000_46.length co125), (by first | rfl | (simp; done) | (simp [*]; done)), H', ⟨by have := HK1.out; have := HJ15.out; have := HJ20.out; have := HJ46.out; have := HK5.out; have := HJ90.out; omega⟩, ⟨by (with_reducible repeat (first | apply Kd.R_alloc | apply Kd.R_drewN | apply Kd.R_drew)); exact HO_195000.out⟩, ⟨by (with_reducible repeat (first | refine blk_drewN ?_ _ | refine blk_drew ?_ | refine blk_alloc ?_ _)); exact BK187.out⟩, ⟨by (with_reducible repeat (first | refine blk_drewN ?_ _ | refine blk_drew ?_ | refine blk_alloc ?_ _)); exact BK194.out⟩, ⟨by repeat (first | (with_reducible first | exact HB.out | apply below_alloc | apply pw_below_drewN | apply below_drew1 | refine below_set ?_ GE187.out | refine below_set ?_ GE194.out | refine below_set ?_ GE196.out) | exact HB.out)⟩⟩
                                                  · rw [if_neg c119] at H
                                                    exact absurd H (by simp)
                                              · replace c107 := Bool.eq_false_iff.mpr c107
                                                subst c107
                                                have H1 : (none) = some r := by rw [if_neg (show ¬ (false = true) by decide)] at H; exact H
                                                clear H
                                                have H := H1
                                                clear H1
                                                exact absurd H (by simp)
                                            · rw [if_neg c106] at H
                                              have c106b0 : (t217 == 2) = false := beq_eq_false_iff_ne.mpr c106
                                              have c106b1 : (t217 != 2) = true := bne_iff_ne.mpr c106
                                              have H' := Aside0.mk H
                                              clear H
                                              have hnb131 := NB194_187.out
                                              have hnc131 := NB187_194.out
                                              have hnb132 := NB194_196.out
                                              have hnc132 := NB196_194.out
                                              have hcz133_0 : wc.cell? ⟨gb194, 0, none⟩ = some (u195000) := (blk_cell BK194.out 0).trans rfl
                                              have hcz133_1 : wc.cell? ⟨gb194, 1, none⟩ = some (.bool x195001_46) := (blk_cell BK194.out 1).trans rfl
                                              have hfz133_0 := blk_frozen BK194.out 0
                                              have hfz133_1 := blk_frozen BK194.out 1
                                              have hnb134 := NB187_196.out
                                              have hnc134 := NB196_187.out
                                              have hcz135_0 : wc.cell? ⟨gb187, 0, none⟩ = some (.int .i64 a2_0) := (blk_cell BK187.out 0).trans rfl
                                              have hcz135_1 : wc.cell? ⟨gb187, 1, none⟩ = some (.int .i64 a2_1) := (blk_cell BK187.out 1).trans rfl
                                              have hcz135_2 : wc.cell? ⟨gb187, 2, none⟩ = some (.int .i64 a2_2) := (blk_cell BK187.out 2).trans rfl
                                              have hcz135_3 : wc.cell? ⟨gb187, 3, none⟩ = some (.int .i64 a2_3) := (blk_cell BK187.out 3).trans rfl
                                              have hcz135_4 : wc.cell? ⟨gb187, 4, none⟩ = some (.slice A2_4 l2_4.length c2_4) := (blk_cell BK187.out 4).trans rfl
                                              have hfz135_0 := blk_frozen BK187.out 0
                                              have hfz135_1 := blk_frozen BK187.out 1
                                              have hfz135_2 := blk_frozen BK187.out 2
                                              have hfz135_3 := blk_frozen BK187.out 3
                                              have hfz135_4 := blk_frozen BK187.out 4
                                              obtain ⟨Ao136, co136, eo136⟩ := Kd.R_slice HO_195000.out
                                              subst eo136
                                              go_wp2_with (first | ((with_reducible refine gate_callee (f := 18) rfl ?_); refine goesL_ (some 157) rfl rfl Try.func18 (by kernel_rfl) rfl #[.agg #[.slice Ao136 x195000_46.length co136, .bool x195001_46], .agg #[.int .i64 a2_0, .int .i64 a2_1, .int .i64 a2_2, .int .i64 a2_3, .slice A2_4 l2_4.length c2_4]] rfl (by (try simp only [List.map_toArray, List.map_cons, List.map_nil]); first | done | rfl | (simp only [List.length_drop, List.length_take]; rfl)) ?_; (with_reducible refine (upgrade_Record.calls kj90 _ _ x195000_46 x195001_46 a2_0 a2_1 a2_2 a2_3 _ _ l2_4 t217 t218 _ ?side1 ?side2 ?side3 ?side4 A100.out).mono ?_); (case side1 => repeat (first | exact (Kd.R_reads' HO_195000.out).2.2 | (with_reducible refine Kd.C_alloc ?_ _) | (with_reducible refine Kd.C_drewN ?_ _) | (with_reducible refine Kd.C_drew ?_))); (case side2 => exact (Kd.R_reads' HO_195000.out).2.1); (case side3 => repeat (first | exact (Kd.C_below HR2_4.out HB.out) | (with_reducible refine Kd.C_alloc ?_ _) | (with_reducible refine Kd.C_drewN ?_ _) | (with_reducible refine Kd.C_drew ?_))); (case side4 => exact HC2_4.out); rintro e w137 ⟨rfl, hb⟩; refine ⟨_, rfl, ?_⟩; have n0_ := Aside0.mk (Kd.R_below (by (with_reducible repeat (first | apply Kd.R_alloc | apply Kd.R_drewN | apply Kd.R_drew)); exact HO_195000.out) hb); have n1_ := Aside0.mk (Kd.R_below (by (with_reducible repeat (first | apply Kd.R_alloc | apply Kd.R_drewN | apply Kd.R_drew)); exact HO_197000.out) hb); have n2_ := Aside0.mk (blk_below (g := gb187) (o := .cells #[.int .i64 a2_0, .int .i64 a2_1, .int .i64 a2_2, .int .i64 a2_3, .slice A2_4 l2_4.length c2_4] 43 (0, 0)) (by (with_reducible repeat (first | refine blk_drewN ?_ _ | refine blk_drew ?_ | refine blk_alloc ?_ _)); exact BK187.out) hb); have n3_ := Aside0.mk (blk_below (g := gb194) (o := .cells #[.slice Ao136 x195000_46.length co136, .bool x195001_46] 26 (0, 0)) (by (with_reducible repeat (first | refine blk_drewN ?_ _ | refine blk_drew ?_ | refine blk_alloc ?_ _)); exact BK194.out) hb); have n4_ := Aside0.mk (blk_below (g := gb196) (o := .cells #[u197000, .bool x197001_20] 26 (0, 0)) (by (with_reducible repeat (first | refine blk_drewN ?_ _ | refine blk_drew ?_ | refine blk_alloc ?_ _)); exact BK196.out) hb); have n5_ := Aside0.mk (below_step (by repeat (first | (with_reducible first | exact HB.out | apply below_alloc | apply pw_below_drewN | apply below_drew1 | refine below_set ?_ GE187.out | refine below_set ?_ GE194.out | refine below_set ?_ GE196.out) | exact HB.out)) hb); clear HO_195000; clear HO_197000; clear BK187; clear BK194; clear BK196; clear HB; have HO_195000 := n0_; have HO_197000 := n1_; have BK187 := n2_; have BK194 := n3_; have BK196 := n4_; have HB := n5_; clear n0_ n1_ n2_ n3_ n4_ n5_; (try clear hb); (try clear hb2); (try clear hk); (try clear hi)) | ((with_reducible refine gate_callee (f := 14) rfl ?_); refine goesL_ (some 161) rfl rfl Try.func14 (by kernel_rfl) rfl #[.int .i64 t218] rfl (by (try simp only [List.map_toArray, List.map_cons, List.map_nil]); first | done | rfl | (simp only [List.length_drop, List.length_take]; rfl)) ?_; (with_reducible refine (transeptlaw23_num.calls t218 t219 _ A101.out).mono ?_); rintro e w' ⟨rfl, ⟨nd, rfl⟩⟩; refine ⟨_, rfl, ?_⟩; have hcz138_0 : w137.cell? ⟨gb187, 0, none⟩ = some (.int .i64 a2_0) := (blk_cell BK187.out 0).trans rfl; have hcz138_1 : w137.cell? ⟨gb187, 1, none⟩ = some (.int .i64 a2_1) := (blk_cell BK187.out 1).trans rfl; have hcz138_2 : w137.cell? ⟨gb187, 2, none⟩ = some (.int .i64 a2_2) := (blk_cell BK187.out 2).trans rfl; have hcz138_3 : w137.cell? ⟨gb187, 3, none⟩ = some (.int .i64 a2_3) := (blk_cell BK187.out 3).trans rfl; have hcz138_4 : w137.cell? ⟨gb187, 4, none⟩ = some (.slice A2_4 l2_4.length c2_4) := (blk_cell BK187.out 4).trans rfl; have hfz138_0 := blk_frozen BK187.out 0; have hfz138_1 := blk_frozen BK187.out 1; have hfz138_2 := blk_frozen BK187.out 2; have hfz138_3 := blk_frozen BK187.out 3; have hfz138_4 := blk_frozen BK187.out 4) | ((with_reducible refine gate_callee (f := 23) rfl ?_); refine goesL_ (some 166) rfl rfl Try.func23 (by kernel_rfl) rfl #[.agg #[.int .i64 a2_0, .int .i64 a2_1, .int .i64 a2_2, .int .i64 a2_3, .slice A2_4 l2_4.length c2_4], .int .i64 t217] rfl (by (try simp only [List.map_toArray, List.map_cons, List.map_nil]); first | done | rfl | (simp only [List.length_drop, List.length_take]; rfl)) ?_; (with_reducible refine (command_Encode.calls a2_0 a2_1 a2_2 a2_3 _ _ l2_4 t217 t220 t223 _ ?side1 ?side2 A103.out).mono ?_); (case side1 => repeat (first | exact (Kd.C_below HR2_4.out (by repeat (first | (with_reducible first | exact HB.out | apply below_alloc | apply pw_below_drewN | apply below_drew1 | refine below_set ?_ GE187.out | refine below_set ?_ GE194.out | refine below_set ?_ GE196.out) | exact HB.out))) | (with_reducible refine Kd.C_alloc ?_ _) | (with_reducible refine Kd.C_drewN ?_ _) | (with_reducible refine Kd.C_drew ?_))); (case side2 => exact HC2_4.out); rintro e w139 ⟨v221, rfl, ho0, hb⟩; refine ⟨_, rfl, ?_⟩; have n0_ := Aside0.mk (Kd.R_below (by (with_reducible repeat (first | apply Kd.R_alloc | apply Kd.R_drewN | apply Kd.R_drew)); exact HO_195000.out) hb); have n1_ := Aside0.mk (Kd.R_below (by (with_reducible repeat (first | apply Kd.R_alloc | apply Kd.R_drewN | apply Kd.R_drew)); exact HO_197000.out) hb); have n2_ := Aside0.mk (Kd.R_lower ho0 (below_size (by repeat (first | (with_reducible first | exact HB.out | apply below_alloc | apply pw_below_drewN | apply below_drew1 | refine below_set ?_ GE187.out | refine below_set ?_ GE194.out | refine below_set ?_ GE196.out) | exact HB.out)))); have n3_ := Aside0.mk (blk_below (g := gb187) (o := .cells #[.int .i64 a2_0, .int .i64 a2_1, .int .i64 a2_2, .int .i64 a2_3, .slice A2_4 l2_4.length c2_4] 43 (0, 0)) (by (with_reducible repeat (first | refine blk_drewN ?_ _ | refine blk_drew ?_ | refine blk_alloc ?_ _)); exact BK187.out) hb); have n4_ := Aside0.mk (blk_below (g := gb194) (o := .cells #[.slice Ao136 x195000_46.length co136, .bool x195001_46] 26 (0, 0)) (by (with_reducible repeat (first | refine blk_drewN ?_ _ | refine blk_drew ?_ | refine blk_alloc ?_ _)); exact BK194.out) hb); have n5_ := Aside0.mk (blk_below (g := gb196) (o := .cells #[u197000, .bool x197001_20] 26 (0, 0)) (by (with_reducible repeat (first | refine blk_drewN ?_ _ | refine blk_drew ?_ | refine blk_alloc ?_ _)); exact BK196.out) hb); have n6_ := Aside0.mk (below_step (by repeat (first | (with_reducible first | exact HB.out | apply below_alloc | apply pw_below_drewN | apply below_drew1 | refine below_set ?_ GE187.out | refine below_set ?_ GE194.out | refine below_set ?_ GE196.out) | exact HB.out)) hb); clear HO_195000; clear HO_197000; clear BK187; clear BK194; clear BK196; clear HB; have HO_195000 := n0_; have HO_197000 := n1_; have HO222 := n2_; have BK187 := n3_; have BK194 := n4_; have BK196 := n5_; have HB := n6_; clear n0_ n1_ n2_ n3_ n4_ n5_ n6_; (try clear hb); (try clear hb2); (try clear hk); (try clear hi); (try clear ho0)) | ((with_reducible refine gate_callee (f := 14) rfl ?_); refine goesL_ (some 170) rfl rfl Try.func14 (by kernel_rfl) rfl #[.int .i64 t223] rfl (by (try simp only [List.map_toArray, List.map_cons, List.map_nil]); first | done | rfl | (simp only [List.length_drop, List.length_take]; rfl)) ?_; (with_reducible refine (transeptlaw23_num.calls t223 t224 _ A104.out).mono ?_); rintro e w' ⟨rfl, ⟨nd, rfl⟩⟩; refine ⟨_, rfl, ?_⟩))
                                              go_roundg kj90
                                              case measure => have := HK1.out; have := HJ15.out; have := HJ20.out; have := HJ46.out; have := HK5.out; have := HJ90.out; omega
                                              case rel => exact ⟨(wrap64 (x9_1 + 1)), (x195000_46), (x195001_46), (.slice Ao136 x195000_46.length co136), (by first | rfl | (simp; done) | (simp [*]; done)), H', ⟨by have := HK1.out; have := HJ15.out; have := HJ20.out; have := HJ46.out; have := HK5.out; have := HJ90.out; omega⟩, ⟨by (with_reducible repeat (first | apply Kd.R_alloc | apply Kd.R_drewN | apply Kd.R_drew)); exact HO_195000.out⟩, ⟨by (with_reducible repeat (first | refine blk_drewN ?_ _ | refine blk_drew ?_ | refine blk_alloc ?_ _)); exact BK187.out⟩, ⟨by (with_reducible repeat (first | refine blk_drewN ?_ _ | refine blk_drew ?_ | refine blk_alloc ?_ _)); exact BK194.out⟩, ⟨by repeat (first | (with_reducible first | exact HB.out | apply below_alloc | apply pw_below_drewN | apply below_drew1 | refine below_set ?_ GE187.out | refine below_set ?_ GE194.out | refine below_set ?_ GE196.out) | exact HB.out)⟩⟩
                                          · rw [if_neg c105] at H
                                            exact absurd H (by simp)
                                        · rw [if_neg c102] at H
                                          have c102b0 : (t219 == 0) = false := beq_eq_false_iff_ne.mpr c102
                                          have c102b1 : (t219 != 0) = true := bne_iff_ne.mpr c102
                                          have H' := Aside0.mk H
                                          clear H
                                          have hnb140 := NB194_187.out
                                          have hnc140 := NB187_194.out
                                          have hnb141 := NB194_196.out
                                          have hnc141 := NB196_194.out
                                          have hcz142_0 : wc.cell? ⟨gb194, 0, none⟩ = some (u195000) := (blk_cell BK194.out 0).trans rfl
                                          have hcz142_1 : wc.cell? ⟨gb194, 1, none⟩ = some (.bool x195001_46) := (blk_cell BK194.out 1).trans rfl
                                          have hfz142_0 := blk_frozen BK194.out 0
                                          have hfz142_1 := blk_frozen BK194.out 1
                                          have hnb143 := NB187_196.out
                                          have hnc143 := NB196_187.out
                                          have hcz144_0 : wc.cell? ⟨gb187, 0, none⟩ = some (.int .i64 a2_0) := (blk_cell BK187.out 0).trans rfl
                                          have hcz144_1 : wc.cell? ⟨gb187, 1, none⟩ = some (.int .i64 a2_1) := (blk_cell BK187.out 1).trans rfl
                                          have hcz144_2 : wc.cell? ⟨gb187, 2, none⟩ = some (.int .i64 a2_2) := (blk_cell BK187.out 2).trans rfl
                                          have hcz144_3 : wc.cell? ⟨gb187, 3, none⟩ = some (.int .i64 a2_3) := (blk_cell BK187.out 3).trans rfl
                                          have hcz144_4 : wc.cell? ⟨gb187, 4, none⟩ = some (.slice A2_4 l2_4.length c2_4) := (blk_cell BK187.out 4).trans rfl
                                          have hfz144_0 := blk_frozen BK187.out 0
                                          have hfz144_1 := blk_frozen BK187.out 1
                                          have hfz144_2 := blk_frozen BK187.out 2
                                          have hfz144_3 := blk_frozen BK187.out 3
                                          have hfz144_4 := blk_frozen BK187.out 4
                                          obtain ⟨Ao145, co145, eo145⟩ := Kd.R_slice HO_195000.out
                                          subst eo145
                                          go_wp2_with (first | ((with_reducible refine gate_callee (f := 18) rfl ?_); refine goesL_ (some 157) rfl rfl Try.func18 (by kernel_rfl) rfl #[.agg #[.slice Ao145 x195000_46.length co145, .bool x195001_46], .agg #[.int .i64 a2_0, .int .i64 a2_1, .int .i64 a2_2, .int .i64 a2_3, .slice A2_4 l2_4.length c2_4]] rfl (by (try simp only [List.map_toArray, List.map_cons, List.map_nil]); first | done | rfl | (simp only [List.length_drop, List.length_take]; rfl)) ?_; (with_reducible refine (upgrade_Record.calls kj90 _ _ x195000_46 x195001_46 a2_0 a2_1 a2_2 a2_3 _ _ l2_4 t217 t218 _ ?side1 ?side2 ?side3 ?side4 A100.out).mono ?_); (case side1 => repeat (first | exact (Kd.R_reads' HO_195000.out).2.2 | (with_reducible refine Kd.C_alloc ?_ _) | (with_reducible refine Kd.C_drewN ?_ _) | (with_reducible refine Kd.C_drew ?_))); (case side2 => exact (Kd.R_reads' HO_195000.out).2.1); (case side3 => repeat (first | exact (Kd.C_below HR2_4.out HB.out) | (with_reducible refine Kd.C_alloc ?_ _) | (with_reducible refine Kd.C_drewN ?_ _) | (with_reducible refine Kd.C_drew ?_))); (case side4 => exact HC2_4.out); rintro e w146 ⟨rfl, hb⟩; refine ⟨_, rfl, ?_⟩; have n0_ := Aside0.mk (Kd.R_below (by (with_reducible repeat (first | apply Kd.R_alloc | apply Kd.R_drewN | apply Kd.R_drew)); exact HO_195000.out) hb); have n1_ := Aside0.mk (Kd.R_below (by (with_reducible repeat (first | apply Kd.R_alloc | apply Kd.R_drewN | apply Kd.R_drew)); exact HO_197000.out) hb); have n2_ := Aside0.mk (blk_below (g := gb187) (o := .cells #[.int .i64 a2_0, .int .i64 a2_1, .int .i64 a2_2, .int .i64 a2_3, .slice A2_4 l2_4.length c2_4] 43 (0, 0)) (by (with_reducible repeat (first | refine blk_drewN ?_ _ | refine blk_drew ?_ | refine blk_alloc ?_ _)); exact BK187.out) hb); have n3_ := Aside0.mk (blk_below (g := gb194) (o := .cells #[.slice Ao145 x195000_46.length co145, .bool x195001_46] 26 (0, 0)) (by (with_reducible repeat (first | refine blk_drewN ?_ _ | refine blk_drew ?_ | refine blk_alloc ?_ _)); exact BK194.out) hb); have n4_ := Aside0.mk (blk_below (g := gb196) (o := .cells #[u197000, .bool x197001_20] 26 (0, 0)) (by (with_reducible repeat (first | refine blk_drewN ?_ _ | refine blk_drew ?_ | refine blk_alloc ?_ _)); exact BK196.out) hb); have n5_ := Aside0.mk (below_step (by repeat (first | (with_reducible first | exact HB.out | apply below_alloc | apply pw_below_drewN | apply below_drew1 | refine below_set ?_ GE187.out | refine below_set ?_ GE194.out | refine below_set ?_ GE196.out) | exact HB.out)) hb); clear HO_195000; clear HO_197000; clear BK187; clear BK194; clear BK196; clear HB; have HO_195000 := n0_; have HO_197000 := n1_; have BK187 := n2_; have BK194 := n3_; have BK196 := n4_; have HB := n5_; clear n0_ n1_ n2_ n3_ n4_ n5_; (try clear hb); (try clear hb2); (try clear hk); (try clear hi)) | ((with_reducible refine gate_callee (f := 14) rfl ?_); refine goesL_ (some 161) rfl rfl Try.func14 (by kernel_rfl) rfl #[.int .i64 t218] rfl (by (try simp only [List.map_toArray, List.map_cons, List.map_nil]); first | done | rfl | (simp only [List.length_drop, List.length_take]; rfl)) ?_; (with_reducible refine (transeptlaw23_num.calls t218 t219 _ A101.out).mono ?_); rintro e w' ⟨rfl, ⟨nd, rfl⟩⟩; refine ⟨_, rfl, ?_⟩))
                                          go_roundg kj90
                                          case measure => have := HK1.out; have := HJ15.out; have := HJ20.out; have := HJ46.out; have := HK5.out; have := HJ90.out; omega
                                          case rel => exact ⟨(wrap64 (x9_1 + 1)), (x195000_46), (x195001_46), (.slice Ao145 x195000_46.length co145), (by first | rfl | (simp; done) | (simp [*]; done)), H', ⟨by have := HK1.out; have := HJ15.out; have := HJ20.out; have := HJ46.out; have := HK5.out; have := HJ90.out; omega⟩, ⟨by (with_reducible repeat (first | apply Kd.R_alloc | apply Kd.R_drewN | apply Kd.R_drew)); exact HO_195000.out⟩, ⟨by (with_reducible repeat (first | refine blk_drewN ?_ _ | refine blk_drew ?_ | refine blk_alloc ?_ _)); exact BK187.out⟩, ⟨by (with_reducible repeat (first | refine blk_drewN ?_ _ | refine blk_drew ?_ | refine blk_alloc ?_ _)); exact BK194.out⟩, ⟨by repeat (first | (with_reducible first | exact HB.out | apply below_alloc | apply pw_below_drewN | apply below_drew1 | refine below_set ?_ GE187.out | refine below_set ?_ GE194.out | refine below_set ?_ GE196.out) | exact HB.out)⟩⟩
                  · rw [if_neg c20] at H
                    exact absurd H (by simp)
                · rw [if_neg c19] at H
                  exact absurd H (by simp)
              · replace c18 := Bool.eq_false_iff.mpr c18
                subst c18
                have H1 : (some true) = some r := by rw [if_neg (show ¬ (false = true) by decide)] at H; exact H
                clear H
                have H := H1
                clear H1
                obtain rfl := Option.some.inj H
                go_wp2
                go_ret
                exact ⟨by first | rfl | (simp [errW_none, errW_some] <;> rfl) | (simp [*, errW_none, errW_some] <;> rfl), by repeat (first | (with_reducible first | exact HB.out | apply below_alloc | apply pw_below_drewN | apply below_drew1 | refine below_set ?_ GE187.out | refine below_set ?_ GE194.out) | exact HB.out)⟩
    · rw [if_neg c8] at H
      exact absurd H (by simp)
  · replace c5 := Bool.eq_false_iff.mpr c5
    subst c5
    have H1 : (none) = some r := by rw [if_neg (show ¬ (false = true) by decide)] at H; exact H
    clear H
    have H := H1
    clear H1
    exact absurd H (by simp)

end Go.Proofs.Ytdlmmgehjhpmoaa.Print
