/- This file proves plain laws of memory that is one: what an operation does to a list of numbers, and what it tells. No program in sight. No conditions. -/
import Derived.Test.YthnokijkdobdfaaEnc
import Derived.Test.YthnokijkdobdfaaSpec
set_option linter.unusedVariables false
set_option linter.unusedSimpArgs false
namespace Go.Proofs.Ythnokijkdobdfaa
open Go

def flatDo (m : List Int) (o : Op) : List Int × Int × Int :=
  if o.kind < 1 ∨ 4 < o.kind then ([], 0, 1)
  else if o.line < 0 ∨ (m.length : Int) ≤ o.line ∨ o.value < 0 ∨ 255 < o.value then ([], 0, 3)
  else (m.set o.line.toNat (opVal (m.getD o.line.toNat 0) o).1, (opVal (m.getD o.line.toNat 0) o).2, 0)
def playFrom (m : List Int) (i : Int) : List Done → List Int × Int
  | [] => (m, -1)
  | d :: r => if (flatDo m d.op).2.2 ≠ 0 ∨ (flatDo m d.op).2.1 ≠ d.value then (m, i) else playFrom (flatDo m d.op).1 (i + 1) r
def zeros (lines : Int) : List Int := List.replicate lines.toNat 0
def flatPlay (lines : Int) (l : List Done) : List Int × Int := playFrom (zeros lines) 0 l

theorem flatDo_kind {m : List Int} {o : Op} (h : o.kind < 1 ∨ 4 < o.kind) : flatDo m o = ([], 0, 1) := by unfold flatDo; rw [if_pos h]
theorem flatDo_range {m : List Int} {o : Op} (h1 : ¬ (o.kind < 1 ∨ 4 < o.kind)) (h : o.line < 0 ∨ (m.length : Int) ≤ o.line ∨ o.value < 0 ∨ 255 < o.value) : flatDo m o = ([], 0, 3) := by unfold flatDo; rw [if_neg h1, if_pos h]
theorem flatDo_ok {m : List Int} {o : Op} {e : Int} (h1 : ¬ (o.kind < 1 ∨ 4 < o.kind)) (h : ¬ (o.line < 0 ∨ (m.length : Int) ≤ o.line ∨ o.value < 0 ∨ 255 < o.value)) (he : m[o.line.toNat]? = some e) : flatDo m o = (m.set o.line.toNat (opVal e o).1, (opVal e o).2, 0) := by
  unfold flatDo; rw [if_neg h1, if_neg h]; simp [List.getD, he]
theorem set_same {m : List Int} {i : Nat} {e : Int} (h : m[i]? = some e) : m.set i e = m := by
  apply List.ext_getElem?
  intro j
  by_cases hij : i = j
  · subst hij; rw [List.getElem?_set_self (by exact (List.getElem?_eq_some_iff.1 h).1), h]
  · rw [List.getElem?_set_ne hij]
theorem opVal_in {v : Int} {o : Op} (hv : In64 v) (h1 : 0 ≤ o.value) (h2 : o.value ≤ 255) : In64 (opVal v o).1 := by
  unfold opVal In64 at *
  split
  · exact hv
  · split
    · simp only; omega
    · split
      · simp only; omega
      · exact hv
theorem flatDo_len {m : List Int} {o : Op} : (flatDo m o).1.length ≤ m.length := by
  unfold flatDo; split
  · simp
  · split <;> simp
theorem drop_at {α : Type} {l : List α} {k : Nat} {d : α} (h : l[k]? = some d) : l.drop k = d :: l.drop (k + 1) := by
  obtain ⟨hk, he⟩ := List.getElem?_eq_some_iff.1 h
  rw [List.drop_eq_getElem_cons hk, he]
theorem playFrom_stop {m : List Int} {i : Int} {d : Done} {r : List Done} (h : (flatDo m d.op).2.2 ≠ 0 ∨ (flatDo m d.op).2.1 ≠ d.value) : playFrom m i (d :: r) = (m, i) := by simp only [playFrom]; rw [if_pos h]
theorem playFrom_go {m : List Int} {i : Int} {d : Done} {r : List Done} (h : ¬ ((flatDo m d.op).2.2 ≠ 0 ∨ (flatDo m d.op).2.1 ≠ d.value)) : playFrom m i (d :: r) = playFrom (flatDo m d.op).1 (i + 1) r := by simp only [playFrom]; rw [if_neg h]

theorem flatDo_err {m : List Int} {o : Op} (h : (flatDo m o).2.2 ≠ 0) : (flatDo m o).1 = [] := by
  unfold flatDo at h ⊢
  split
  · rfl
  · split
    · rfl
    · rw [if_neg (by assumption), if_neg (by assumption)] at h; exact absurd rfl h
/-- A store that is no error. -/
theorem flatDo_stored {m : List Int} {line v : Int} (h : (flatDo m ⟨2, line, v⟩).2.2 = 0) : 0 ≤ line ∧ line < m.length ∧ (flatDo m ⟨2, line, v⟩).1 = m.set line.toNat v := by
  unfold flatDo at h ⊢
  rw [if_neg (by simp only; omega)] at h ⊢
  split at h
  · exact absurd h (by decide)
  · rename_i hn
    rw [if_neg hn]
    simp only [not_or, Int.not_lt, Int.not_le] at hn
    exact ⟨hn.1, hn.2.1, by simp [opVal]⟩
theorem flatDo_load {m : List Int} {line : Int} : flatDo m ⟨1, line, 0⟩ = if line < 0 ∨ (m.length : Int) ≤ line then ([], 0, 3) else (m.set line.toNat (m.getD line.toNat 0), m.getD line.toNat 0, 0) := by
  unfold flatDo
  rw [if_neg (by simp only; omega)]
  by_cases h : line < 0 ∨ (m.length : Int) ≤ line
  · rw [if_pos h, if_pos (by simp only; omega)]
  · rw [if_neg h, if_neg (by simp only; omega)]; simp [opVal]
theorem flatReads_same {m : List Int} {line v : Int} (h : (flatDo m ⟨2, line, v⟩).2.2 = 0) : (flatDo (flatDo m ⟨2, line, v⟩).1 ⟨1, line, 0⟩).2.1 = v ∧ (flatDo (flatDo m ⟨2, line, v⟩).1 ⟨1, line, 0⟩).2.2 = 0 := by
  obtain ⟨h0, h1, h2⟩ := flatDo_stored h
  rw [h2, flatDo_load, if_neg (by rw [List.length_set]; omega)]
  refine ⟨?_, rfl⟩
  simp only [List.getD]
  rw [List.getElem?_set_self (by omega)]; rfl
theorem flatReads_err {m : List Int} {line v other : Int} (h : (flatDo m ⟨2, line, v⟩).2.2 = 0) : (flatDo m ⟨1, other, 0⟩).2.2 = (flatDo (flatDo m ⟨2, line, v⟩).1 ⟨1, other, 0⟩).2.2 := by
  obtain ⟨h0, h1, h2⟩ := flatDo_stored h
  rw [h2, flatDo_load, flatDo_load, List.length_set]
  split <;> rfl
theorem flatReads_other {m : List Int} {line v other : Int} (h : (flatDo m ⟨2, line, v⟩).2.2 = 0) (hne : other ≠ line) : (flatDo m ⟨1, other, 0⟩).2.1 = (flatDo (flatDo m ⟨2, line, v⟩).1 ⟨1, other, 0⟩).2.1 := by
  obtain ⟨h0, h1, h2⟩ := flatDo_stored h
  rw [h2, flatDo_load, flatDo_load, List.length_set]
  split
  · rfl
  · rename_i hn
    simp only [List.getD]
    rw [List.getElem?_set_ne (by omega)]
end Go.Proofs.Ythnokijkdobdfaa
