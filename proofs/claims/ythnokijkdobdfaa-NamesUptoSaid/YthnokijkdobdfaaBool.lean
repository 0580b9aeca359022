/- This file proves comparisons whose outcome is known. No conditions. -/
import Derived.Test.YthnokijkdobdfaaBuild
set_option linter.unusedVariables false
set_option linter.unusedSimpArgs false
namespace Go.Proofs.Ythnokijkdobdfaa
open Go
theorem tmod_bnd (a : Int) {b : Int} (hb : 0 < b) : -b < a.tmod b ∧ a.tmod b < b := by
  rcases Int.lt_or_le a 0 with h | h
  · have h1 : a.tmod b = -((-a).tmod b) := by rw [Int.neg_tmod, Int.neg_neg]
    have h2 : (-a).tmod b = (-a) % b := Int.tmod_eq_emod_of_nonneg (by omega)
    have h3 := Int.emod_nonneg (-a) (show b ≠ 0 by omega)
    have h4 := Int.emod_lt_of_pos (-a) hb
    omega
  · have h2 : a.tmod b = a % b := Int.tmod_eq_emod_of_nonneg h
    have h3 := Int.emod_nonneg a (show b ≠ 0 by omega)
    have h4 := Int.emod_lt_of_pos a hb
    omega
theorem tmod_in (a : Int) {b : Int} (hb : 0 < b) (hb2 : b ≤ 9223372036854775807) : -9223372036854775808 ≤ a.tmod b ∧ a.tmod b ≤ 9223372036854775807 := by have := tmod_bnd a hb; omega
theorem tmod_fix (y : Int) : (y.tmod 256 + 256).tmod 256 = y % 256 := by
  have hb := tmod_bnd y (show (0 : Int) < 256 by decide)
  rw [Int.tmod_eq_emod_of_nonneg (by omega)]
  rcases Int.lt_or_le y 0 with h | h
  · have h1 : y.tmod 256 = -((-y).tmod 256) := by rw [Int.neg_tmod, Int.neg_neg]
    have h2 : (-y).tmod 256 = (-y) % 256 := Int.tmod_eq_emod_of_nonneg (by omega)
    omega
  · have h2 : y.tmod 256 = y % 256 := Int.tmod_eq_emod_of_nonneg h
    omega
section
variable {P : Program} {T : TypeId} {k : IntKind} {a b : Int}
theorem b_eql_T (h : a = b) (w : World) : (binOp .eql T (.int k a) (.int k b)).run P w = .ok (.bool true) w := by rw [b_eql]; simp [h]
theorem b_eql_F (h : a ≠ b) (w : World) : (binOp .eql T (.int k a) (.int k b)).run P w = .ok (.bool false) w := by rw [b_eql]; simp [h]
theorem b_neq_T (h : a ≠ b) (w : World) : (binOp .neq T (.int k a) (.int k b)).run P w = .ok (.bool true) w := by rw [b_neq]; simp [h]
theorem b_neq_F (h : a = b) (w : World) : (binOp .neq T (.int k a) (.int k b)).run P w = .ok (.bool false) w := by rw [b_neq]; simp [h]
theorem b_lss_T (h : a < b) (w : World) : (binOp .lss T (.int k a) (.int k b)).run P w = .ok (.bool true) w := by rw [b_lss]; simp [h]
theorem b_lss_F (h : ¬ a < b) (w : World) : (binOp .lss T (.int k a) (.int k b)).run P w = .ok (.bool false) w := by rw [b_lss]; simp [h]
theorem b_leq_T (h : a ≤ b) (w : World) : (binOp .leq T (.int k a) (.int k b)).run P w = .ok (.bool true) w := by rw [b_leq]; simp [h]
theorem b_leq_F (h : ¬ a ≤ b) (w : World) : (binOp .leq T (.int k a) (.int k b)).run P w = .ok (.bool false) w := by rw [b_leq]; simp [h]
theorem b_gtr_T (h : b < a) (w : World) : (binOp .gtr T (.int k a) (.int k b)).run P w = .ok (.bool true) w := by rw [b_gtr]; simp [h]
theorem b_gtr_F (h : ¬ b < a) (w : World) : (binOp .gtr T (.int k a) (.int k b)).run P w = .ok (.bool false) w := by rw [b_gtr]; simp [h]
theorem b_geq_T (h : b ≤ a) (w : World) : (binOp .geq T (.int k a) (.int k b)).run P w = .ok (.bool true) w := by rw [b_geq]; simp [h]
theorem b_geq_F (h : ¬ b ≤ a) (w : World) : (binOp .geq T (.int k a) (.int k b)).run P w = .ok (.bool false) w := by rw [b_geq]; simp [h]
end
section
variable {P : Program} {n : Nat} {ops : Array Oper} {Q : Exit → Act → World → Prop} {rest : List Oper} {L L' : List Chunk} {R : List Fact} {al : List (Nat × Value)} {d : Nat} {x y : Operand} {T ty : TypeId} {pos : String} {aft : Array Edge}
theorem r_max {t u : TypeId} {a b : Int} (hx : ev n al x = some (vi a)) (hy : ev n al y = some (vi b))
    (k : J P n ops Q rest L R ((d, vi (max a b)) :: al)) : J P n ops Q (⟨some d, .call { callee := .builtin .max, args := #[x, y], argTypes := #[t, u] }, ty, pos, aft, none⟩ :: rest) L R al :=
  J.pure rfl rfl (fun B w hs => by
    have h : (Builtin.max_ #[t, u] ty #[vi a, vi b]).run P w = .ok (vi (max a b)) w := by
      simp [Builtin.max_]
      show Result.ok (Value.int .i64 (if b > a then b else a)) w = _
      congr 2; split <;> omega
    simp [execOp, resolve, invoke, builtin, ev_eval hx, ev_eval hy, h]) k
theorem r_min {t u : TypeId} {a b : Int} (hx : ev n al x = some (vi a)) (hy : ev n al y = some (vi b))
    (k : J P n ops Q rest L R ((d, vi (min a b)) :: al)) : J P n ops Q (⟨some d, .call { callee := .builtin .min, args := #[x, y], argTypes := #[t, u] }, ty, pos, aft, none⟩ :: rest) L R al :=
  J.pure rfl rfl (fun B w hs => by
    have h : (Builtin.min_ #[t, u] ty #[vi a, vi b]).run P w = .ok (vi (min a b)) w := by
      simp [Builtin.min_]
      show Result.ok (Value.int .i64 (if b < a then b else a)) w = _
      congr 2; split <;> omega
    simp [execOp, resolve, invoke, builtin, ev_eval hx, ev_eval hy, h]) k
end
end Go.Proofs.Ythnokijkdobdfaa
