/- Small lemmas of this project, of no program: strings as lists of octets. -/
import Derived.WalkKit
namespace Go.Proofs.Ytgbdajlfbmijgaa
open Go.RowKit
theorem bytes_loop (s : ByteArray) : ∀ (d i : Nat) (r : List UInt8), s.size - i = d → ByteArray.toList.loop s i r = r.reverse ++ s.data.toList.drop i := by
  intro d
  induction d with
  | zero =>
    intro i r h
    rw [ByteArray.toList.loop, if_neg (by omega)]
    have : s.data.toList.length ≤ i := by rw [Array.length_toList]; show s.size ≤ i; omega
    rw [List.drop_of_length_le this, List.append_nil]
  | succ d ih =>
    intro i r h
    rw [ByteArray.toList.loop, if_pos (by omega), ih (i + 1) _ (by omega)]
    have hlt : i < s.data.toList.length := by rw [Array.length_toList]; show i < s.size; omega
    rw [List.drop_eq_getElem_cons hlt]
    have e : s.get! i = s.data.toList[i] := by
      show s.data[i]! = _
      rw [getElem!_pos s.data i (by simpa using hlt)]
      simp
    rw [e]
    simp
theorem bytes_toList (s : ByteArray) : s.toList = s.data.toList := by
  have := bytes_loop s s.size 0 [] (by omega)
  simpa [ByteArray.toList] using this
theorem bytes_length (s : ByteArray) : s.toList.length = s.size := by rw [bytes_toList, Array.length_toList]; rfl
theorem bytes_eq {a b : ByteArray} : a.toList = b.toList ↔ a = b := by
  constructor
  · intro h
    rw [bytes_toList, bytes_toList] at h
    cases a; cases b
    simp at h
    rw [h]
  · rintro rfl; rfl
theorem bytes_beq (a b : ByteArray) : (a.toList == b.toList) = decide (a = b) := by
  rw [Bool.eq_iff_iff]
  simp [bytes_eq]
theorem bytes_isEmpty (s : ByteArray) : s.toList.isEmpty = decide (s.size = 0) := by
  rw [Bool.eq_iff_iff, List.isEmpty_iff, ← List.length_eq_zero_iff, bytes_length]
  simp
theorem bytes_nil (s : ByteArray) : s.toList = [] ↔ s.size = 0 := by rw [← List.length_eq_zero_iff, bytes_length]
theorem wrap_add {i : Int} (h0 : -9223372036854775808 ≤ i) (h1 : i ≤ 9223372036854775807) : wrap64 i = i := by
  unfold wrap64
  omega
theorem wrap_next {i n : Nat} (h : i < n) (hn : n ≤ 140737488355328) : wrap64 ((i : Int) + 1) = ((i + 1 : Nat) : Int) := by
  unfold wrap64
  omega
theorem wf64 {n : Int} (h : (Lit.int .i64 n).wf = true) : -9223372036854775808 ≤ n ∧ n ≤ 9223372036854775807 := by
  unfold Lit.wf at h
  rw [Bool.and_eq_true, decide_eq_true_eq, decide_eq_true_eq] at h
  exact h
/-- The builtin append, shut: a walk within a round takes its run from the context. -/
@[irreducible] def shutApp (ats : Array TypeId) (ty : TypeId) (args : Array Value) : Sem Next := do pure (.value (← Builtin.append_ ats ty args))
theorem builtin_shutApp (ats : Array TypeId) (ty : TypeId) (cs : Array Bool) (args : Array Value) : builtin .append ats ty cs args = shutApp ats ty args := by unfold shutApp; rfl
theorem run_shutApp {P : Program} {ats : Array TypeId} {ty : TypeId} {args : Array Value} {W W' : World} {v : Value} (h : (Builtin.append_ ats ty args).run P W = .ok v W') : (shutApp ats ty args).run P W = .ok (.value v) W' := by
  unfold shutApp
  simp [h]
end Go.Proofs.Ytgbdajlfbmijgaa
