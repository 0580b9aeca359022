/- This file proves where the fields of this program's types lie. No conditions. -/
import Derived.Test.YthnokijkdobdfaaDraw3
import Derived.Test.YthnokijkdobdfaaProg
import Derived.KernelRfl
set_option linter.unusedVariables false
set_option linter.unusedSimpArgs false
namespace Go.Proofs.Ythnokijkdobdfaa
open Go
theorem fo_7_0 : FieldOff Try.prog 7 0 0 := ⟨_, _, Try.underlying7, rfl, rfl, 0, Try.sizeOf2⟩
theorem fo_7_1 : FieldOff Try.prog 7 1 1 := ⟨_, _, Try.underlying7, rfl, rfl, 0, Try.sizeOf3⟩
theorem fo_7_2 : FieldOff Try.prog 7 2 2 := ⟨_, _, Try.underlying7, rfl, rfl, 0, Try.sizeOf4⟩
theorem fo_7_3 : FieldOff Try.prog 7 3 3 := ⟨_, _, Try.underlying7, rfl, rfl, 0, Try.sizeOf6⟩
theorem st_7 : StructOf Try.prog 7 ((Try.t7.zero.getD undef).cells.toList) [(0, 1), (1, 1), (2, 1), (3, 1)] := ⟨_, Try.underlying7, fun w => by rw [Try.zeroValue7]; rfl, fun w => by simp [Try.sizeOf2, Try.sizeOf3, Try.sizeOf4, Try.sizeOf6]⟩
theorem fo_8_0 : FieldOff Try.prog 8 0 0 := ⟨_, _, Try.underlying8, rfl, rfl, 0, Try.sizeOf2⟩
theorem fo_8_1 : FieldOff Try.prog 8 1 1 := ⟨_, _, Try.underlying8, rfl, rfl, 0, Try.sizeOf3⟩
theorem fo_8_2 : FieldOff Try.prog 8 2 2 := ⟨_, _, Try.underlying8, rfl, rfl, 0, Try.sizeOf4⟩
theorem fo_8_3 : FieldOff Try.prog 8 3 3 := ⟨_, _, Try.underlying8, rfl, rfl, 0, Try.sizeOf6⟩
theorem st_8 : StructOf Try.prog 8 ((Try.t8.zero.getD undef).cells.toList) [(0, 1), (1, 1), (2, 1), (3, 1)] := ⟨_, Try.underlying8, fun w => by rw [Try.zeroValue8]; rfl, fun w => by simp [Try.sizeOf2, Try.sizeOf3, Try.sizeOf4, Try.sizeOf6]⟩
theorem fo_13_0 : FieldOff Try.prog 13 0 0 := ⟨_, _, Try.underlying13, rfl, rfl, 0, Try.sizeOf9⟩
theorem fo_13_1 : FieldOff Try.prog 13 1 1 := ⟨_, _, Try.underlying13, rfl, rfl, 0, Try.sizeOf12⟩
theorem st_13 : StructOf Try.prog 13 ((Try.t13.zero.getD undef).cells.toList) [(0, 1), (1, 1)] := ⟨_, Try.underlying13, fun w => by rw [Try.zeroValue13]; rfl, fun w => by simp [Try.sizeOf12, Try.sizeOf9]⟩
theorem fo_14_0 : FieldOff Try.prog 14 0 0 := ⟨_, _, Try.underlying14, rfl, rfl, 0, Try.sizeOf9⟩
theorem fo_14_1 : FieldOff Try.prog 14 1 1 := ⟨_, _, Try.underlying14, rfl, rfl, 0, Try.sizeOf12⟩
theorem st_14 : StructOf Try.prog 14 ((Try.t14.zero.getD undef).cells.toList) [(0, 1), (1, 1)] := ⟨_, Try.underlying14, fun w => by rw [Try.zeroValue14]; rfl, fun w => by simp [Try.sizeOf12, Try.sizeOf9]⟩
theorem fo_18_0 : FieldOff Try.prog 18 0 0 := ⟨_, _, Try.underlying18, rfl, rfl, 0, Try.sizeOf17⟩
theorem st_18 : StructOf Try.prog 18 ((Try.t18.zero.getD undef).cells.toList) [(0, 1)] := ⟨_, Try.underlying18, fun w => by rw [Try.zeroValue18]; rfl, fun w => by simp [Try.sizeOf17]⟩
theorem fo_19_0 : FieldOff Try.prog 19 0 0 := ⟨_, _, Try.underlying19, rfl, rfl, 0, Try.sizeOf17⟩
theorem st_19 : StructOf Try.prog 19 ((Try.t19.zero.getD undef).cells.toList) [(0, 1)] := ⟨_, Try.underlying19, fun w => by rw [Try.zeroValue19]; rfl, fun w => by simp [Try.sizeOf17]⟩
theorem so_23 : SliceOf Try.prog 23 22 1 := ⟨Try.underlying23, Try.sizeOf22⟩
theorem eo_23 : ElemOf Try.prog 23 22 1 (Try.t22.zero.getD undef) 8 := ⟨Try.underlying23, ⟨Try.t22, by kernel_rfl, rfl, rfl, rfl⟩, rfl, by decide⟩
theorem so_24 : SliceOf Try.prog 24 3 1 := ⟨Try.underlying24, Try.sizeOf3⟩
theorem eo_24 : ElemOf Try.prog 24 3 1 (Try.t3.zero.getD undef) 8 := ⟨Try.underlying24, ⟨Try.t3, by kernel_rfl, rfl, rfl, rfl⟩, rfl, by decide⟩
theorem fo_27_0 : FieldOff Try.prog 27 0 0 := ⟨_, _, Try.underlying27, rfl, rfl, 0, Try.sizeOf17⟩
theorem fo_27_1 : FieldOff Try.prog 27 1 1 := ⟨_, _, Try.underlying27, rfl, rfl, 0, Try.sizeOf17⟩
theorem fo_27_2 : FieldOff Try.prog 27 2 2 := ⟨_, _, Try.underlying27, rfl, rfl, 0, Try.sizeOf17⟩
theorem fo_27_3 : FieldOff Try.prog 27 3 3 := ⟨_, _, Try.underlying27, rfl, rfl, 0, Try.sizeOf9⟩
theorem st_27 : StructOf Try.prog 27 ((Try.t27.zero.getD undef).cells.toList) [(0, 1), (1, 1), (2, 1), (3, 1)] := ⟨_, Try.underlying27, fun w => by rw [Try.zeroValue27]; rfl, fun w => by simp [Try.sizeOf17, Try.sizeOf9]⟩
theorem fo_28_0 : FieldOff Try.prog 28 0 0 := ⟨_, _, Try.underlying28, rfl, rfl, 0, Try.sizeOf17⟩
theorem fo_28_1 : FieldOff Try.prog 28 1 1 := ⟨_, _, Try.underlying28, rfl, rfl, 0, Try.sizeOf17⟩
theorem fo_28_2 : FieldOff Try.prog 28 2 2 := ⟨_, _, Try.underlying28, rfl, rfl, 0, Try.sizeOf17⟩
theorem fo_28_3 : FieldOff Try.prog 28 3 3 := ⟨_, _, Try.underlying28, rfl, rfl, 0, Try.sizeOf9⟩
theorem st_28 : StructOf Try.prog 28 ((Try.t28.zero.getD undef).cells.toList) [(0, 1), (1, 1), (2, 1), (3, 1)] := ⟨_, Try.underlying28, fun w => by rw [Try.zeroValue28]; rfl, fun w => by simp [Try.sizeOf17, Try.sizeOf9]⟩
theorem fo_40_0 : FieldOff Try.prog 40 0 0 := ⟨_, _, Try.underlying40, rfl, rfl, 0, Try.sizeOf12⟩
theorem fo_40_1 : FieldOff Try.prog 40 1 1 := ⟨_, _, Try.underlying40, rfl, rfl, 0, Try.sizeOf12⟩
theorem fo_40_2 : FieldOff Try.prog 40 2 2 := ⟨_, _, Try.underlying40, rfl, rfl, 0, Try.sizeOf33⟩
theorem fo_40_3 : FieldOff Try.prog 40 3 3 := ⟨_, _, Try.underlying40, rfl, rfl, 0, Try.sizeOf34⟩
theorem fo_40_4 : FieldOff Try.prog 40 4 4 := ⟨_, _, Try.underlying40, rfl, rfl, 0, Try.sizeOf5⟩
theorem fo_40_5 : FieldOff Try.prog 40 5 5 := ⟨_, _, Try.underlying40, rfl, rfl, 0, Try.sizeOf5⟩
theorem fo_40_6 : FieldOff Try.prog 40 6 6 := ⟨_, _, Try.underlying40, rfl, rfl, 0, Try.sizeOf35⟩
theorem fo_40_7 : FieldOff Try.prog 40 7 7 := ⟨_, _, Try.underlying40, rfl, rfl, 0, Try.sizeOf36⟩
theorem fo_40_8 : FieldOff Try.prog 40 8 8 := ⟨_, _, Try.underlying40, rfl, rfl, 0, Try.sizeOf37⟩
theorem fo_40_9 : FieldOff Try.prog 40 9 9 := ⟨_, _, Try.underlying40, rfl, rfl, 0, Try.sizeOf38⟩
theorem fo_40_10 : FieldOff Try.prog 40 10 10 := ⟨_, _, Try.underlying40, rfl, rfl, 0, Try.sizeOf39⟩
theorem st_40 : StructOf Try.prog 40 ((Try.t40.zero.getD undef).cells.toList) [(0, 1), (1, 1), (2, 1), (3, 1), (4, 1), (5, 1), (6, 1), (7, 1), (8, 1), (9, 1), (10, 1)] := ⟨_, Try.underlying40, fun w => by rw [Try.zeroValue40]; rfl, fun w => by simp [Try.sizeOf12, Try.sizeOf33, Try.sizeOf34, Try.sizeOf35, Try.sizeOf36, Try.sizeOf37, Try.sizeOf38, Try.sizeOf39, Try.sizeOf5]⟩
theorem fo_41_0 : FieldOff Try.prog 41 0 0 := ⟨_, _, Try.underlying41, rfl, rfl, 0, Try.sizeOf12⟩
theorem fo_41_1 : FieldOff Try.prog 41 1 1 := ⟨_, _, Try.underlying41, rfl, rfl, 0, Try.sizeOf12⟩
theorem fo_41_2 : FieldOff Try.prog 41 2 2 := ⟨_, _, Try.underlying41, rfl, rfl, 0, Try.sizeOf33⟩
theorem fo_41_3 : FieldOff Try.prog 41 3 3 := ⟨_, _, Try.underlying41, rfl, rfl, 0, Try.sizeOf34⟩
theorem fo_41_4 : FieldOff Try.prog 41 4 4 := ⟨_, _, Try.underlying41, rfl, rfl, 0, Try.sizeOf5⟩
theorem fo_41_5 : FieldOff Try.prog 41 5 5 := ⟨_, _, Try.underlying41, rfl, rfl, 0, Try.sizeOf5⟩
theorem fo_41_6 : FieldOff Try.prog 41 6 6 := ⟨_, _, Try.underlying41, rfl, rfl, 0, Try.sizeOf35⟩
theorem fo_41_7 : FieldOff Try.prog 41 7 7 := ⟨_, _, Try.underlying41, rfl, rfl, 0, Try.sizeOf36⟩
theorem fo_41_8 : FieldOff Try.prog 41 8 8 := ⟨_, _, Try.underlying41, rfl, rfl, 0, Try.sizeOf37⟩
theorem fo_41_9 : FieldOff Try.prog 41 9 9 := ⟨_, _, Try.underlying41, rfl, rfl, 0, Try.sizeOf38⟩
theorem fo_41_10 : FieldOff Try.prog 41 10 10 := ⟨_, _, Try.underlying41, rfl, rfl, 0, Try.sizeOf39⟩
theorem st_41 : StructOf Try.prog 41 ((Try.t41.zero.getD undef).cells.toList) [(0, 1), (1, 1), (2, 1), (3, 1), (4, 1), (5, 1), (6, 1), (7, 1), (8, 1), (9, 1), (10, 1)] := ⟨_, Try.underlying41, fun w => by rw [Try.zeroValue41]; rfl, fun w => by simp [Try.sizeOf12, Try.sizeOf33, Try.sizeOf34, Try.sizeOf35, Try.sizeOf36, Try.sizeOf37, Try.sizeOf38, Try.sizeOf39, Try.sizeOf5]⟩
theorem mixed : Try.prog.follows .mixedOrders = true := by kernel_rfl
end Go.Proofs.Ythnokijkdobdfaa
