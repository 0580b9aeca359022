/- This file proves what a literal of a slice makes. No conditions. -/
import Derived.Test.YthnokijkdobdfaaCtl
set_option linter.unusedVariables false
set_option linter.unusedSimpArgs false
namespace Go.Proofs.Ythnokijkdobdfaa
open Go

theorem foldl_set (off : Nat) : ∀ (l : List Value) (k : Nat) (A : Array Value), off + k + l.length ≤ A.size →
    (l.zipIdx k).foldl (fun cs (p : Value × Nat) => cs.setIfInBounds (off + p.2) p.1) A = (A.toList.take (off + k) ++ l ++ A.toList.drop (off + k + l.length)).toArray
  | [], k, A, h => by simp
  | v :: l, k, A, h => by
    simp only [List.length_cons] at h
    rw [List.zipIdx_cons, List.foldl_cons, foldl_set off l (k + 1) _ (by simp; omega)]
    congr 1
    simp only [Array.toList_setIfInBounds, List.length_cons]
    have h1 : off + k < A.toList.length := by simp; omega
    rw [List.set_eq_take_append_cons_drop, if_pos h1]
    have h2 : (A.toList.take (off + k)).length = off + k := by rw [List.length_take]; omega
    have t1 : (A.toList.take (off + k) ++ v :: A.toList.drop (off + k + 1)).take (off + (k + 1)) = A.toList.take (off + k) ++ [v] := by
      rw [List.take_append, h2, List.take_of_length_le (by rw [h2]; omega), show off + (k + 1) - (off + k) = 1 by omega]; rfl
    have t2 : (A.toList.take (off + k) ++ v :: A.toList.drop (off + k + 1)).drop (off + (k + 1) + l.length) = A.toList.drop (off + k + (l.length + 1)) := by
      rw [List.drop_append, h2, List.drop_of_length_le (by rw [h2]; omega), show off + (k + 1) + l.length - (off + k) = l.length + 1 by omega, List.drop_succ_cons, List.drop_drop]
      simp; congr 1; omega
    rw [t1, t2]; simp

theorem fill_all (size : Nat) : ∀ (vs : List Value) (k : Nat) (A : Array Value), (∀ v ∈ vs, v.cells.size = size) → A.size = (k + vs.length) * size →
    Instr.fill (fun i => some (i * size, size)) A ((List.range' k vs.length).zip vs) = some ((A.toList.take (k * size)).toArray ++ (vs.flatMap fun v => v.cells.toList).toArray)
  | [], k, A, _, h => by
    simp only [Nat.add_zero, List.length_nil] at h
    have : A.toList.take (k * size) = A.toList := List.take_of_length_le (by simp [h])
    simp [Instr.fill, this]
  | v :: vs, k, A, hv, h => by
    have hv0 := hv v (List.mem_cons_self ..)
    have hA : (k + (vs.length + 1)) * size = k * size + size + vs.length * size := by rw [Nat.add_mul, Nat.succ_mul]; omega
    simp only [List.length_cons] at h
    rw [hA] at h
    rw [List.length_cons, List.range'_succ, List.zip_cons_cons]
    simp only [Instr.fill]
    rw [if_neg (by simp only [hv0, ne_eq, not_true, decide_false, Bool.false_or, decide_eq_true_eq]; simp; omega)]
    have hfold : v.cells.zipIdx.foldl (fun cs (x : Value × Nat) => match x with | (c, j) => cs.setIfInBounds (k * size + j) c) A = (A.toList.take (k * size) ++ v.cells.toList ++ A.toList.drop (k * size + size)).toArray := by
      have := foldl_set (k * size) v.cells.toList 0 A (by simp [hv0]; omega)
      simp only [Nat.add_zero] at this
      rw [← Array.foldl_toList, Array.toList_zipIdx]
      refine Eq.trans ?_ (this.trans ?_)
      · rfl
      · simp [hv0]
    rw [hfold, fill_all size vs (k + 1) _ (fun u hu => hv u (List.mem_cons_of_mem _ hu)) ?_]
    · have hl : (A.toList.take (k * size)).length = k * size := by rw [List.length_take]; simp; omega
      have hvl : v.cells.toList.length = size := by simpa using hv0
      simp only [Nat.succ_mul, List.flatMap_cons, Option.some.injEq]
      have t : (A.toList.take (k * size) ++ v.cells.toList ++ A.toList.drop (k * size + size)).take (k * size + size) = A.toList.take (k * size) ++ v.cells.toList := by
        rw [List.take_append_of_le_length (by rw [List.length_append, hl, hvl]; omega), List.take_of_length_le (by rw [List.length_append, hl, hvl]; omega)]
      rw [t]
      simp
    · have hl : (A.toList.take (k * size)).length = k * size := by rw [List.length_take]; simp; omega
      have hvl : v.cells.toList.length = size := by simpa using hv0
      simp only [List.size_toArray, List.length_append, hl, hvl, List.length_drop, Array.length_toList, Nat.add_mul, Nat.one_mul]
      omega

section
variable {P : Program} {n : Nat} {ops : Array Oper} {Q : Exit → Act → World → Prop} {rest : List Oper} {L L' : List Chunk} {R : List Fact} {al : List (Nat × Value)} {d : Nat} {x y : Operand} {T ty : TypeId} {pos : String} {aft : Array Edge}
variable {α : Type} [Enc α]

def RdV : List α → List Value → Mem → Prop
  | [], [], _ => True
  | x :: xs, v :: vs, m => (∃ cs, v.cells = cs.toArray ∧ Enc.rd x cs m) ∧ RdV xs vs m
  | _, _, _ => False
theorem RdV.list {m : Mem} : ∀ {xs : List α} {vs : List Value}, RdV xs vs m → xs.length = vs.length ∧ (∀ v ∈ vs, v.cells.size = Enc.sz α) ∧ RdL xs (vs.flatMap fun v => v.cells.toList) m
  | [], [], _ => ⟨rfl, (fun v h => by cases h), rfl⟩
  | x :: xs, v :: vs, ⟨⟨cs, h1, h2⟩, h3⟩ => by
    obtain ⟨a, b, c⟩ := RdV.list h3
    refine ⟨by simp [a], ?_, cs, _, by rw [List.flatMap_cons, h1], h2, c⟩
    intro u hu
    cases List.mem_cons.1 hu with
    | inl e => rw [e, h1]; simpa using Enc.len _ _ _ h2
    | inr e => exact b u e
  | [], _ :: _, h => h.elim
  | _ :: _, [], h => h.elim

theorem run_buildSlice {t el : TypeId} {sz bytes : Nat} {z : Value} (he : ElemOf P t el sz z bytes) {vs : List Value} (hv : ∀ v ∈ vs, v.cells.size = sz) (hsmall : vs.length * sz ≤ 1000) (w : World) :
    (Instr.buildSlice t vs.length ((List.range' 0 vs.length).zip vs).toArray).run P w = .ok (.slice (some ⟨w.heap.size, 0, none⟩) vs.length vs.length) (w.alloc (.cells (vs.flatMap fun v => v.cells.toList).toArray el)) := by
  obtain ⟨i, hi, hz, hisz, hiby⟩ := he.info
  have hn : ¬ (16777216 < vs.length * sz) := by omega
  have hfill := fun A hA => fill_all sz vs 0 A hv hA
  simp only [Nat.zero_mul, List.take_zero, Nat.zero_add] at hfill
  by_cases h0 : vs.length * sz = 0
  · have := hfill #[] (by simp [h0])
    simp at this
    simp [Instr.buildSlice, run_und he.und, sizeOf, typeInfo, hi, hisz, hn, h0, Array.range_zero', this, newRow]
  · have := hfill ((Array.range (vs.length * sz)).map (z.cells[· % z.cells.size]!)) (by simp)
    simp at this
    simp [Instr.buildSlice, run_und he.und, sizeOf, typeInfo, zeroValue, hi, hz, hisz, hn, h0, this, newRow]

/-- A literal of a slice, its parts in order. -/
theorem r_lit {t el : TypeId} {sz bytes len : Nat} {z : Value} {parts : List (Nat × Operand)} {vs : List Value} (xs : List α) (he : ElemOf P t el sz z bytes) (hsz : Enc.sz α = sz)
    (ha : evL n al (parts.map (·.2)) = some vs) (hidx : parts.map (·.1) = List.range' 0 len) (hlv : vs.length = len) (hsmall : Nat.ble (len * sz) 1000 = true) (hsm2 : Nat.ble len 1000 = true)
    (hrd : ∀ j, (∀ q ∈ R, q.p j) → RdV xs vs j)
    (k : ∀ v, J P n ops Q rest (row el v xs :: L) R ((d, v) :: al)) : J P n ops Q (⟨some d, .buildSlice t len parts.toArray, ty, pos, aft, none⟩ :: rest) L R al := by
  intro B w hs
  obtain ⟨j, hj, hrj⟩ := hs.ex
  obtain ⟨h1, h2, h3⟩ := (hrd j hrj).list
  subst hlv
  have hb := Nat.le_of_ble_eq_true hsmall
  have hb2 := Nat.le_of_ble_eq_true hsm2
  rw [hsz] at h2
  refine r_buildSlice (cs := vs.flatMap fun v => v.cells.toList) he hsz ha (fun w => by rw [hidx]; exact run_buildSlice he h2 hb w) h1 (by have : maxN = 16777216 := rfl; omega) (fun j' hr' => ((hrd j' hr').list).2.2) (by rw [h3.len, h1, hsz]) k B w hs
end
end Go.Proofs.Ythnokijkdobdfaa
