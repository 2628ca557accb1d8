/- What the arguments of a law read as: from the form's reading of data to the print's kinds, with the bounds that the form's reach gives. -/
import Derived.Test.YtgbdajlfbmijgaaWWords
import Derived.ChangeArms
import Derived.SizedLaws
import Derived.Deep.Slices
import Derived.WideShapes
namespace Go.Proofs.Ytgbdajlfbmijgaa.Op
open Go.RowKit Go.Proofs.YtgbdajlfbmijgaaW.PrintWords
open Go.Deep

/-- A value of type t that reads as data is of kind d; 'ok': what is known of it besides. -/
def Opens (P : Program) (t : TypeId) {α : Type} (d : Kd α) (ok : α → Prop) : Prop :=
  ∀ {H : Type} (enc : TypeId × Value → H) (W : World) (base : Nat) (spare : Nat → Bool) (held : Bool) (fuel : Nat) (cs : List Value) (x : DataW H) (ps : List MemPlace),
    DataW.trod enc P W base spare held fuel t cs = some (x, ps) → (∀ n ∈ x.weights P t, n ≤ reachBytes) → ∃ a, d.K W a cs ∧ ok a

def OpensFields (P : Program) (fs : List Field) (o : Nat) {α : Type} (d : Kd α) (ok : α → Prop) : Prop :=
  ∀ {H : Type} (enc : TypeId × Value → H) (W : World) (base : Nat) (spare : Nat → Bool) (held : Bool) (fuel : Nat) (cs : List Value) (xs : List (DataW H × List MemPlace)),
    xs.length = fs.length → (∀ (i : Nat) (f : Field), fs[i]? = some f → DataW.trod enc P W base spare held fuel f.type ((cs.drop f.offset).take (P.cellsOf f.type)) = xs[i]?) →
    (∀ n ∈ DataW.weightsEach P (fs.map (·.type)) (xs.map (·.1)), n ≤ reachBytes) → ∃ a, d.K W a ((cs.drop o).take d.sz) ∧ ok a

variable {P : Program} {t e : TypeId} {α β : Type}

theorem opens_int {k : IntKind} (hu : P.underlying t = some (.int k)) : Opens P t (Kd.int k) (fun n => (Lit.int k n).wf = true) := by
  intro H enc W base spare held fuel cs x ps h _
  obtain ⟨n, rfl, _, hw⟩ := DataW.trod_int hu h
  exact ⟨n, rfl, hw⟩
theorem opens_bool (hu : P.underlying t = some .bool) : Opens P t Kd.bool (fun _ => True) := by
  intro H enc W base spare held fuel cs x ps h _
  obtain ⟨b, rfl, _⟩ := DataW.trod_bool hu h
  exact ⟨b, rfl, trivial⟩
theorem opens_string (hu : P.underlying t = some .string) : Opens P t Kd.string (fun s => s.size ≤ 140737488351232) := by
  intro H enc W base spare held fuel cs x ps h hs
  obtain ⟨s, rfl, hx, _⟩ := DataW.trod_string hu h
  obtain ⟨rfl, _⟩ := Prod.mk.inj hx
  refine ⟨s, rfl, ?_⟩
  have h1 := hs s.data.toList.length (by simp [DataW.weights])
  rw [Array.length_toList] at h1
  exact h1

theorem weights_of_mem {H : Type} {P : Program} {e : TypeId} {l : List (DataW H)} {x : DataW H} (hx : x ∈ l) : ∀ n ∈ x.weights P e, n ∈ DataW.weightsAll P e l := by
  induction l with
  | nil => cases hx
  | cons y l ih =>
    intro n hn
    rw [DataW.weightsAll]
    rcases List.mem_cons.1 hx with rfl | hx
    · exact List.mem_append_left _ hn
    · exact List.mem_append_right _ (ih hx n hn)

theorem opens_slice {d : Kd α} {ok : α → Prop} {B : Nat} (hu : P.underlying t = some (.slice e)) (hc : P.cellsOf e = d.sz) (hb : P.bytesOf e = B) (h : Opens P e d ok) :
    Opens P t (Kd.slice e d) (fun l => l.length * B ≤ 140737488351232 ∧ ∀ x ∈ l, ok x) := by
  intro H enc W base spare held fuel cs x ps hx hs
  rcases DataW.trod_slice hu hx with ⟨rfl, _⟩ | ⟨a, len, cap, elems, rest, n, rfl, rfl, hx2, hbb, hlc, hcm, hel, hcell, _, _⟩
  · exact ⟨[], ⟨none, 0, rfl, by simp, ⟨rfl, by simp, fun h => absurd h (by simp)⟩⟩, by simp, by simp⟩
  · obtain ⟨rfl, _⟩ := Prod.mk.inj hx2
    have hw : ∀ n ∈ (DataW.slice (elems.map (·.1)) (rest.map (·.1))).weights P t, n ≤ reachBytes := hs
    simp only [DataW.weights, hu] at hw
    have each : ∀ i, i < len → ∃ y : α, ∃ c : List Value, W.cells? base (a.add (i * P.cellsOf e)) (P.cellsOf e) = some c ∧ d.K W y c ∧ ok y := by
      intro i hi
      have h1 := hcell i hi
      have hi2 : i < elems.length := by omega
      rw [List.getElem?_eq_getElem hi2] at h1
      obtain ⟨c, hc1, hc2⟩ := Option.bind_eq_some_iff.1 h1
      have hm : elems[i].1 ∈ elems.map (·.1) := List.mem_map.2 ⟨elems[i], List.getElem_mem hi2, rfl⟩
      obtain ⟨y, hy, hok⟩ := h enc W base spare held n c elems[i].1 elems[i].2 hc2 (fun n hn => hw n (by
        refine List.mem_cons_of_mem _ (List.mem_append_left _ (weights_of_mem hm n hn))))
      exact ⟨y, c, hc1, hy, hok⟩
    rcases Nat.eq_zero_or_pos len with h0 | hp
    · subst h0
      exact ⟨[], ⟨some a, cap, rfl, by simp, ⟨rfl, by simp, fun h => absurd h (by simp)⟩⟩, by simp, by simp⟩
    · obtain ⟨y0, _⟩ := each 0 hp
      haveI : Inhabited α := ⟨y0⟩
      obtain ⟨Y, hY⟩ := choose_lt each
      refine ⟨(List.range len).map Y, ⟨some a, cap, by simp, by simpa using hlc, ?_⟩, ?_, ?_⟩
      · refine ⟨by simp, by simp only [maxLen] at hcm; simp; omega, fun _ => ⟨a, rfl, fun j p hj => ?_⟩⟩
        have hjl : j < len := by have := (List.getElem?_eq_some_iff.1 hj).1; simpa using this
        have hp2 : Y j = p := by simpa [List.getElem?_map, List.getElem?_range hjl] using hj
        subst hp2
        obtain ⟨c, hc1, hc2, _⟩ := hY j hjl
        refine ⟨c, d.K_len hc2, hc2, fun i u hu2 => ?_⟩
        obtain ⟨_, hlen2, hget⟩ := World.cells?_some hc1
        have hi : i < c.length := (List.getElem?_eq_some_iff.1 hu2).1
        have h4 := hget i (by omega)
        rw [Deep.add_add, hc] at h4
        rw [h4, hu2]
      · have h1 := hw _ List.mem_cons_self
        simp only [List.length_map, hel, hb] at h1
        simp only [List.length_map, List.length_range]
        exact Nat.le_trans (Nat.mul_le_mul_right _ (Nat.le_add_right _ _)) h1
      · intro x hx3
        obtain ⟨i, hi, rfl⟩ := List.mem_map.1 hx3
        obtain ⟨_, _, _, hok⟩ := hY i (List.mem_range.1 hi)
        exact hok

theorem fields_one {f : Field} {d : Kd α} {ok : α → Prop} (hc : P.cellsOf f.type = d.sz) (h : Opens P f.type d ok) : OpensFields P [f] f.offset d ok := by
  intro H enc W base spare held fuel cs xs hl hx hw
  match xs, hl with
  | [x], _ =>
    have h1 := hx 0 f rfl
    rw [hc] at h1
    refine h enc W base spare held fuel _ x.1 x.2 h1 (fun n hn => hw n ?_)
    simpa [DataW.weightsEach] using hn
theorem fields_cons {f : Field} {fs : List Field} {d : Kd α} {d' : Kd β} {ok : α → Prop} {ok' : β → Prop} (hc : P.cellsOf f.type = d.sz) (h : Opens P f.type d ok) (h' : OpensFields P fs (f.offset + d.sz) d' ok') :
    OpensFields P (f :: fs) f.offset (Kd.pair d d') (fun x => ok x.1 ∧ ok' x.2) := by
  intro H enc W base spare held fuel cs xs hl hx hw
  match xs, hl with
  | x :: xs, hl =>
    have h1 := hx 0 f rfl
    rw [hc] at h1
    simp only [List.map_cons, DataW.weightsEach] at hw
    obtain ⟨a, ha, hok⟩ := h enc W base spare held fuel _ x.1 x.2 h1 (fun n hn => hw n (List.mem_append_left _ hn))
    obtain ⟨b, hb, hok'⟩ := h' enc W base spare held fuel cs xs (by simpa using hl) (fun i g hg => hx (i + 1) g (by simpa using hg)) (fun n hn => hw n (List.mem_append_right _ hn))
    refine ⟨(a, b), ⟨_, _, ?_, ha, hb⟩, hok, hok'⟩
    show ((cs.drop f.offset).take (d.sz + d'.sz)) = _
    rw [← List.drop_drop, List.take_add]
theorem opens_struct {fs : Array Field} {d : Kd α} {ok : α → Prop} {f : β → α} (g : α → β) (hgf : ∀ x, f (g x) = x) (hu : P.underlying t = some (.struct fs)) (hc : P.cellsOf t = d.sz) (h : OpensFields P fs.toList 0 d ok) : Opens P t (Kd.iso d f) (fun x => ok (f x)) := by
  intro H enc W base spare held fuel cs x ps hx hs
  obtain ⟨xs, n, rfl, hx2, hl, hlen, hf⟩ := DataW.trod_struct hu hx
  obtain ⟨rfl, _⟩ := Prod.mk.inj hx2
  simp only [DataW.weights, hu] at hs
  obtain ⟨a, ha, hok⟩ := h enc W base spare held n cs xs (by simpa using hlen) (fun i f hf2 => hf i f (by simpa using hf2)) hs
  refine ⟨g a, ?_, ?_⟩
  · show d.K W (f (g a)) cs
    rw [hgf]
    rwa [List.drop_zero, List.take_of_length_le (by omega)] at ha
  · show ok (f (g a))
    rw [hgf]
    exact hok
theorem opens_imp {d : Kd α} {ok ok' : α → Prop} (h : Opens P t d ok) (hi : ∀ x, ok x → ok' x) : Opens P t d ok' := by
  intro H enc W base spare held fuel cs x ps hx hs
  obtain ⟨a, ha, hok⟩ := h enc W base spare held fuel cs x ps hx hs
  exact ⟨a, ha, hi a hok⟩
/-- An argument of a call. -/
theorem opens_arg {d : Kd α} {ok : α → Prop} (h : Opens P t d ok) {H : Type} {enc : TypeId × Value → H} {W : World} {base : Nat} {spare : Nat → Bool} {held : Bool} {v : Value} {x : DataW H} {ps : List MemPlace} {ts : List TypeId} {ds : List (DataW H)} {j : Nat}
    (hsz : (DataW.weightsEach P ts ds).all (· ≤ reachBytes) = true) (ht : ts[j]? = some t) (hd : ds[j]? = some x) (hx : DataW.Trod enc P W base spare held t v x ps) : ∃ a, d.K W a v.cells.toList ∧ ok a := by
  obtain ⟨fuel, hf⟩ := hx
  exact h enc W base spare held fuel _ x ps hf (fun n hn => by
    have := List.all_eq_true.1 hsz n (DataW.weights_mem_each ht hd n hn)
    simpa using this)
/-- What a slice, a struct is, out of its cells. -/
theorem val_slice {w : World} {r : Reach} {base : Nat} {v : Value} {A : Option Addr} {n c : Nat} (hu : P.underlying t = some (.slice e)) (h : Value.okWide P w r base t v) (hcs : v.cells.toList = [.slice A n c]) : v = .slice A n c := by
  obtain ⟨a, len, cap, rfl⟩ := Go.WideShapes.okWide_slice hu h
  simpa [Value.cells] using hcs
theorem val_agg {w : World} {r : Reach} {base : Nat} {v : Value} {fs : Array Field} {cs : List Value} (hu : P.underlying t = some (.struct fs)) (h : Value.okWide P w r base t v) (hcs : v.cells.toList = cs) : v = .agg cs.toArray := by
  obtain ⟨c, rfl, _⟩ := Go.WideShapes.okWide_struct hu h
  subst hcs
  simp [Value.cells]
end Go.Proofs.Ytgbdajlfbmijgaa.Op
