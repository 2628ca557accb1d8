/- The state that follows a declaration or an activation shares nothing with the one handed in: UpgradeOwn answers true at every input.
   No condition. -/
import Derived.Test.YtdlmmgehjhpmoaaUpgradeLib
namespace Go.Proofs.Ytdlmmgehjhpmoaa.Pure
open Go.RowKit Go.Proofs.YtdlmmgehjhpmoaaW.PrintWords Go.Proofs.YtdlmmgehjhpmoaaW.PrintLast Go.Proofs.Ytdlmmgehjhpmoaa.Print

theorem own_l0 (a b : Int) (x y x' y' : List Int × Bool × Int) (own : List Int) (f : Bool) (h1 : x = y) (h2 : x' = y') (hn : own.length ≤ 140737488355328) (hx : x.1.length ≤ own.length) (hx' : x'.1.length ≤ own.length) (d : Nat) : ∀ (k i : Nat) (l : List Int), l.length = own.length → i ≤ l.length → l.length - i = d → d + own.length + 2 < k →
    transeptlaw23_UpgradeOwn.l0 k x.2.2 y.2.2 x'.2.2 y'.2.2 (i : Int) l f x.1 x.2.1 y.1 y.2.1 x'.1 x'.2.1 y'.1 y'.2.1 = some true := by
  subst h1
  subst h2
  induction d with
  | zero =>
    intro k i l hl h3 h4 h5
    obtain ⟨k, rfl⟩ : ∃ m, k = m + 1 := ⟨k - 1, by omega⟩
    simp only [transeptlaw23_UpgradeOwn.l0]
    rw [if_neg (by omega), same_f _ _ k (by omega) (by omega), same_f _ _ k (by omega) (by omega)]
    simp [transeptlaw23_num.f]
  | succ d ih =>
    intro k i l hl h3 h4 h5
    obtain ⟨k, rfl⟩ : ∃ m, k = m + 1 := ⟨k - 1, by omega⟩
    simp only [transeptlaw23_UpgradeOwn.l0]
    rw [if_pos (by omega), if_pos (by omega), wrap_next (n := l.length) (by omega) (by omega)]
    exact ih k (i + 1) _ (by simpa using hl) (by simp; omega) (by simp; omega) (by omega)

theorem UpgradeOwn : transeptlaw23_UpgradeOwn.Pure := by
  intro s a hs _
  have hn : s.f0.length * 8 ≤ 140737488351232 := hs.1.1
  refine ⟨2 * s.f0.length + 100, ?_⟩
  unfold transeptlaw23_UpgradeOwn.f
  rw [at_rounds transeptlaw23_alive.mono (show 100 ≤ 2 * s.f0.length + 100 by omega) alive_f]
  simp only [Option.bind_some, if_true]
  have hof : transeptlaw23_of.f s.f0 s.f1 = some (s.f0, s.f1) := by
    unfold transeptlaw23_of.f transeptplain_CopyInts.f
    rw [if_pos (by simp; omega)]
    simp
  rw [hof]
  simp only [Option.bind_some]
  rw [declare_f _ _ _ _ _ (by omega), ref_declare_f _ _ _ _ _ (by omega) (by omega), activate_f, ref_activate_f _ _ _ (by omega) (by omega)]
  simp only [Option.bind_some]
  exact own_l0 0 0 _ _ _ _ s.f0 s.f1 rfl rfl (by omega) (decl_len _ _ _ _) (activ_len _ _) s.f0.length _ 0 s.f0 rfl (by omega) (by omega) (by omega)
end Go.Proofs.Ytdlmmgehjhpmoaa.Pure
