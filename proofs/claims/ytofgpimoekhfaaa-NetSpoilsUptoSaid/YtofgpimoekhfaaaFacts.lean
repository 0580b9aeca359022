/- This file proves where the fields of this program's types lie. No conditions. -/
import Derived.Test.YtofgpimoekhfaaaDraw3
import Derived.Test.YtofgpimoekhfaaaProg
import Derived.KernelRfl
set_option linter.unusedVariables false
set_option linter.unusedSimpArgs false
namespace Go.Proofs.Ytofgpimoekhfaaa
open Go
theorem fo_7_0 : FieldOff Try.prog 7 0 0 := ⟨_, _, Try.underlying7, rfl, rfl, 0, Try.sizeOf2⟩
theorem fo_7_1 : FieldOff Try.prog 7 1 1 := ⟨_, _, Try.underlying7, rfl, rfl, 0, Try.sizeOf3⟩
theorem fo_7_2 : FieldOff Try.prog 7 2 2 := ⟨_, _, Try.underlying7, rfl, rfl, 0, Try.sizeOf4⟩
theorem fo_7_3 : FieldOff Try.prog 7 3 3 := ⟨_, _, Try.underlying7, rfl, rfl, 0, Try.sizeOf6⟩
theorem st_7 : StructOf Try.prog 7 ((Try.t7.zero.getD undef).cells.toList) [(0, 1), (1, 1), (2, 1), (3, 1)] := ⟨_, Try.underlying7, fun w => by rw [Try.zeroValue7]; rfl, fun w => by simp [Try.sizeOf2, Try.sizeOf3, Try.sizeOf4, Try.sizeOf6]⟩
theorem fo_8_0 : FieldOff Try.prog 8 0 0 := ⟨_, _, Try.underlying8, rfl, rfl, 0, Try.sizeOf2⟩
theorem fo_8_1 : FieldOff Try.prog 8 1 1 := ⟨_, _, Try.underlying8, rfl, rfl, 0, Try.sizeOf3⟩
theorem fo_8_2 : FieldOff Try.prog 8 2 2 := ⟨_, _, Try.underlying8, rfl, rfl, 0, Try.sizeOf4⟩
theorem fo_8_3 : FieldOff Try.prog 8 3 3 := ⟨_, _, Try.underlying8, rfl, rfl, 0, Try.sizeOf6⟩
theorem st_8 : StructOf Try.prog 8 ((Try.t8.zero.getD undef).cells.toList) [(0, 1), (1, 1), (2, 1), (3, 1)] := ⟨_, Try.underlying8, fun w => by rw [Try.zeroValue8]; rfl, fun w => by simp [Try.sizeOf2, Try.sizeOf3, Try.sizeOf4, Try.sizeOf6]⟩
theorem fo_13_0 : FieldOff Try.prog 13 0 0 := ⟨_, _, Try.underlying13, rfl, rfl, 0, Try.sizeOf9⟩
theorem fo_13_1 : FieldOff Try.prog 13 1 1 := ⟨_, _, Try.underlying13, rfl, rfl, 0, Try.sizeOf12⟩
theorem st_13 : StructOf Try.prog 13 ((Try.t13.zero.getD undef).cells.toList) [(0, 1), (1, 1)] := ⟨_, Try.underlying13, fun w => by rw [Try.zeroValue13]; rfl, fun w => by simp [Try.sizeOf12, Try.sizeOf9]⟩
theorem fo_14_0 : FieldOff Try.prog 14 0 0 := ⟨_, _, Try.underlying14, rfl, rfl, 0, Try.sizeOf9⟩
theorem fo_14_1 : FieldOff Try.prog 14 1 1 := ⟨_, _, Try.underlying14, rfl, rfl, 0, Try.sizeOf12⟩
theorem st_14 : StructOf Try.prog 14 ((Try.t14.zero.getD undef).cells.toList) [(0, 1), (1, 1)] := ⟨_, Try.underlying14, fun w => by rw [Try.zeroValue14]; rfl, fun w => by simp [Try.sizeOf12, Try.sizeOf9]⟩
theorem fo_18_0 : FieldOff Try.prog 18 0 0 := ⟨_, _, Try.underlying18, rfl, rfl, 0, Try.sizeOf17⟩
theorem st_18 : StructOf Try.prog 18 ((Try.t18.zero.getD undef).cells.toList) [(0, 1)] := ⟨_, Try.underlying18, fun w => by rw [Try.zeroValue18]; rfl, fun w => by simp [Try.sizeOf17]⟩
theorem fo_19_0 : FieldOff Try.prog 19 0 0 := ⟨_, _, Try.underlying19, rfl, rfl, 0, Try.sizeOf17⟩
theorem st_19 : StructOf Try.prog 19 ((Try.t19.zero.getD undef).cells.toList) [(0, 1)] := ⟨_, Try.underlying19, fun w => by rw [Try.zeroValue19]; rfl, fun w => by simp [Try.sizeOf17]⟩
theorem so_22 : SliceOf Try.prog 22 23 1 := ⟨Try.underlying22, Try.sizeOf23⟩
theorem eo_22 : ElemOf Try.prog 22 23 1 (Try.t23.zero.getD undef) 24 := ⟨Try.underlying22, ⟨Try.t23, by kernel_rfl, rfl, rfl, rfl⟩, rfl, by decide⟩
theorem so_23 : SliceOf Try.prog 23 5 1 := ⟨Try.underlying23, Try.sizeOf5⟩
theorem eo_23 : ElemOf Try.prog 23 5 1 (Try.t5.zero.getD undef) 1 := ⟨Try.underlying23, ⟨Try.t5, by kernel_rfl, rfl, rfl, rfl⟩, rfl, by decide⟩
theorem fo_38_0 : FieldOff Try.prog 38 0 0 := ⟨_, _, Try.underlying38, rfl, rfl, 0, Try.sizeOf3⟩
theorem fo_38_1 : FieldOff Try.prog 38 1 1 := ⟨_, _, Try.underlying38, rfl, rfl, 0, Try.sizeOf3⟩
theorem st_38 : StructOf Try.prog 38 ((Try.t38.zero.getD undef).cells.toList) [(0, 1), (1, 1)] := ⟨_, Try.underlying38, fun w => by rw [Try.zeroValue38]; rfl, fun w => by simp [Try.sizeOf3]⟩
theorem fo_39_0 : FieldOff Try.prog 39 0 0 := ⟨_, _, Try.underlying39, rfl, rfl, 0, Try.sizeOf3⟩
theorem fo_39_1 : FieldOff Try.prog 39 1 1 := ⟨_, _, Try.underlying39, rfl, rfl, 0, Try.sizeOf3⟩
theorem st_39 : StructOf Try.prog 39 ((Try.t39.zero.getD undef).cells.toList) [(0, 1), (1, 1)] := ⟨_, Try.underlying39, fun w => by rw [Try.zeroValue39]; rfl, fun w => by simp [Try.sizeOf3]⟩
theorem so_40 : SliceOf Try.prog 40 98 7 := ⟨Try.underlying40, Try.sizeOf98⟩
theorem eo_40 : ElemOf Try.prog 40 98 7 (Try.t98.zero.getD undef) 56 := ⟨Try.underlying40, ⟨Try.t98, by kernel_rfl, rfl, rfl, rfl⟩, rfl, by decide⟩
theorem fo_41_0 : FieldOff Try.prog 41 0 0 := ⟨_, _, Try.underlying41, rfl, rfl, 0, Try.sizeOf3⟩
theorem fo_41_1 : FieldOff Try.prog 41 1 1 := ⟨_, _, Try.underlying41, rfl, rfl, 0, Try.sizeOf3⟩
theorem fo_41_2 : FieldOff Try.prog 41 2 2 := ⟨_, _, Try.underlying41, rfl, rfl, 0, Try.sizeOf3⟩
theorem fo_41_3 : FieldOff Try.prog 41 3 3 := ⟨_, _, Try.underlying41, rfl, rfl, 0, Try.sizeOf3⟩
theorem fo_41_4 : FieldOff Try.prog 41 4 4 := ⟨_, _, Try.underlying41, rfl, rfl, 0, Try.sizeOf3⟩
theorem fo_41_5 : FieldOff Try.prog 41 5 5 := ⟨_, _, Try.underlying41, rfl, rfl, 0, Try.sizeOf3⟩
theorem fo_41_6 : FieldOff Try.prog 41 6 6 := ⟨_, _, Try.underlying41, rfl, rfl, 0, Try.sizeOf3⟩
theorem fo_41_7 : FieldOff Try.prog 41 7 7 := ⟨_, _, Try.underlying41, rfl, rfl, 0, Try.sizeOf4⟩
theorem st_41 : StructOf Try.prog 41 ((Try.t41.zero.getD undef).cells.toList) [(0, 1), (1, 1), (2, 1), (3, 1), (4, 1), (5, 1), (6, 1), (7, 1)] := ⟨_, Try.underlying41, fun w => by rw [Try.zeroValue41]; rfl, fun w => by simp [Try.sizeOf3, Try.sizeOf4]⟩
theorem fo_42_0 : FieldOff Try.prog 42 0 0 := ⟨_, _, Try.underlying42, rfl, rfl, 0, Try.sizeOf3⟩
theorem fo_42_1 : FieldOff Try.prog 42 1 1 := ⟨_, _, Try.underlying42, rfl, rfl, 0, Try.sizeOf3⟩
theorem fo_42_2 : FieldOff Try.prog 42 2 2 := ⟨_, _, Try.underlying42, rfl, rfl, 0, Try.sizeOf3⟩
theorem fo_42_3 : FieldOff Try.prog 42 3 3 := ⟨_, _, Try.underlying42, rfl, rfl, 0, Try.sizeOf3⟩
theorem fo_42_4 : FieldOff Try.prog 42 4 4 := ⟨_, _, Try.underlying42, rfl, rfl, 0, Try.sizeOf3⟩
theorem fo_42_5 : FieldOff Try.prog 42 5 5 := ⟨_, _, Try.underlying42, rfl, rfl, 0, Try.sizeOf3⟩
theorem fo_42_6 : FieldOff Try.prog 42 6 6 := ⟨_, _, Try.underlying42, rfl, rfl, 0, Try.sizeOf3⟩
theorem fo_42_7 : FieldOff Try.prog 42 7 7 := ⟨_, _, Try.underlying42, rfl, rfl, 0, Try.sizeOf4⟩
theorem st_42 : StructOf Try.prog 42 ((Try.t42.zero.getD undef).cells.toList) [(0, 1), (1, 1), (2, 1), (3, 1), (4, 1), (5, 1), (6, 1), (7, 1)] := ⟨_, Try.underlying42, fun w => by rw [Try.zeroValue42]; rfl, fun w => by simp [Try.sizeOf3, Try.sizeOf4]⟩
theorem so_43 : SliceOf Try.prog 43 69 4 := ⟨Try.underlying43, Try.sizeOf69⟩
theorem eo_43 : ElemOf Try.prog 43 69 4 (Try.t69.zero.getD undef) 48 := ⟨Try.underlying43, ⟨Try.t69, by kernel_rfl, rfl, rfl, rfl⟩, rfl, by decide⟩
theorem so_44 : SliceOf Try.prog 44 58 10 := ⟨Try.underlying44, Try.sizeOf58⟩
theorem eo_44 : ElemOf Try.prog 44 58 10 (Try.t58.zero.getD undef) 96 := ⟨Try.underlying44, ⟨Try.t58, by kernel_rfl, rfl, rfl, rfl⟩, rfl, by decide⟩
theorem fo_45_0 : FieldOff Try.prog 45 0 0 := ⟨_, _, Try.underlying45, rfl, rfl, 0, Try.sizeOf43⟩
theorem fo_45_1 : FieldOff Try.prog 45 1 1 := ⟨_, _, Try.underlying45, rfl, rfl, 0, Try.sizeOf44⟩
theorem fo_45_2 : FieldOff Try.prog 45 2 2 := ⟨_, _, Try.underlying45, rfl, rfl, 0, Try.sizeOf22⟩
theorem st_45 : StructOf Try.prog 45 ((Try.t45.zero.getD undef).cells.toList) [(0, 1), (1, 1), (2, 1)] := ⟨_, Try.underlying45, fun w => by rw [Try.zeroValue45]; rfl, fun w => by simp [Try.sizeOf22, Try.sizeOf43, Try.sizeOf44]⟩
theorem fo_46_0 : FieldOff Try.prog 46 0 0 := ⟨_, _, Try.underlying46, rfl, rfl, 0, Try.sizeOf43⟩
theorem fo_46_1 : FieldOff Try.prog 46 1 1 := ⟨_, _, Try.underlying46, rfl, rfl, 0, Try.sizeOf44⟩
theorem fo_46_2 : FieldOff Try.prog 46 2 2 := ⟨_, _, Try.underlying46, rfl, rfl, 0, Try.sizeOf22⟩
theorem st_46 : StructOf Try.prog 46 ((Try.t46.zero.getD undef).cells.toList) [(0, 1), (1, 1), (2, 1)] := ⟨_, Try.underlying46, fun w => by rw [Try.zeroValue46]; rfl, fun w => by simp [Try.sizeOf22, Try.sizeOf43, Try.sizeOf44]⟩
theorem so_47 : SliceOf Try.prog 47 84 5 := ⟨Try.underlying47, Try.sizeOf84⟩
theorem eo_47 : ElemOf Try.prog 47 84 5 (Try.t84.zero.getD undef) 40 := ⟨Try.underlying47, ⟨Try.t84, by kernel_rfl, rfl, rfl, rfl⟩, rfl, by decide⟩
theorem so_50 : SliceOf Try.prog 50 42 8 := ⟨Try.underlying50, Try.sizeOf42⟩
theorem eo_50 : ElemOf Try.prog 50 42 8 (Try.t42.zero.getD undef) 64 := ⟨Try.underlying50, ⟨Try.t42, by kernel_rfl, rfl, rfl, rfl⟩, rfl, by decide⟩
theorem so_56 : SliceOf Try.prog 56 3 1 := ⟨Try.underlying56, Try.sizeOf3⟩
theorem eo_56 : ElemOf Try.prog 56 3 1 (Try.t3.zero.getD undef) 8 := ⟨Try.underlying56, ⟨Try.t3, by kernel_rfl, rfl, rfl, rfl⟩, rfl, by decide⟩
theorem fo_57_0 : FieldOff Try.prog 57 0 0 := ⟨_, _, Try.underlying57, rfl, rfl, 0, Try.sizeOf3⟩
theorem fo_57_1 : FieldOff Try.prog 57 1 1 := ⟨_, _, Try.underlying57, rfl, rfl, 0, Try.sizeOf3⟩
theorem fo_57_2 : FieldOff Try.prog 57 2 2 := ⟨_, _, Try.underlying57, rfl, rfl, 0, Try.sizeOf3⟩
theorem fo_57_3 : FieldOff Try.prog 57 3 3 := ⟨_, _, Try.underlying57, rfl, rfl, 0, Try.sizeOf3⟩
theorem fo_57_4 : FieldOff Try.prog 57 4 4 := ⟨_, _, Try.underlying57, rfl, rfl, 0, Try.sizeOf3⟩
theorem fo_57_5 : FieldOff Try.prog 57 5 5 := ⟨_, _, Try.underlying57, rfl, rfl, 0, Try.sizeOf3⟩
theorem fo_57_6 : FieldOff Try.prog 57 6 6 := ⟨_, _, Try.underlying57, rfl, rfl, 0, Try.sizeOf4⟩
theorem fo_57_7 : FieldOff Try.prog 57 7 7 := ⟨_, _, Try.underlying57, rfl, rfl, 0, Try.sizeOf3⟩
theorem fo_57_8 : FieldOff Try.prog 57 8 8 := ⟨_, _, Try.underlying57, rfl, rfl, 0, Try.sizeOf3⟩
theorem fo_57_9 : FieldOff Try.prog 57 9 9 := ⟨_, _, Try.underlying57, rfl, rfl, 0, Try.sizeOf56⟩
theorem st_57 : StructOf Try.prog 57 ((Try.t57.zero.getD undef).cells.toList) [(0, 1), (1, 1), (2, 1), (3, 1), (4, 1), (5, 1), (6, 1), (7, 1), (8, 1), (9, 1)] := ⟨_, Try.underlying57, fun w => by rw [Try.zeroValue57]; rfl, fun w => by simp [Try.sizeOf3, Try.sizeOf4, Try.sizeOf56]⟩
theorem fo_58_0 : FieldOff Try.prog 58 0 0 := ⟨_, _, Try.underlying58, rfl, rfl, 0, Try.sizeOf3⟩
theorem fo_58_1 : FieldOff Try.prog 58 1 1 := ⟨_, _, Try.underlying58, rfl, rfl, 0, Try.sizeOf3⟩
theorem fo_58_2 : FieldOff Try.prog 58 2 2 := ⟨_, _, Try.underlying58, rfl, rfl, 0, Try.sizeOf3⟩
theorem fo_58_3 : FieldOff Try.prog 58 3 3 := ⟨_, _, Try.underlying58, rfl, rfl, 0, Try.sizeOf3⟩
theorem fo_58_4 : FieldOff Try.prog 58 4 4 := ⟨_, _, Try.underlying58, rfl, rfl, 0, Try.sizeOf3⟩
theorem fo_58_5 : FieldOff Try.prog 58 5 5 := ⟨_, _, Try.underlying58, rfl, rfl, 0, Try.sizeOf3⟩
theorem fo_58_6 : FieldOff Try.prog 58 6 6 := ⟨_, _, Try.underlying58, rfl, rfl, 0, Try.sizeOf4⟩
theorem fo_58_7 : FieldOff Try.prog 58 7 7 := ⟨_, _, Try.underlying58, rfl, rfl, 0, Try.sizeOf3⟩
theorem fo_58_8 : FieldOff Try.prog 58 8 8 := ⟨_, _, Try.underlying58, rfl, rfl, 0, Try.sizeOf3⟩
theorem fo_58_9 : FieldOff Try.prog 58 9 9 := ⟨_, _, Try.underlying58, rfl, rfl, 0, Try.sizeOf56⟩
theorem st_58 : StructOf Try.prog 58 ((Try.t58.zero.getD undef).cells.toList) [(0, 1), (1, 1), (2, 1), (3, 1), (4, 1), (5, 1), (6, 1), (7, 1), (8, 1), (9, 1)] := ⟨_, Try.underlying58, fun w => by rw [Try.zeroValue58]; rfl, fun w => by simp [Try.sizeOf3, Try.sizeOf4, Try.sizeOf56]⟩
theorem fo_65_0 : FieldOff Try.prog 65 0 0 := ⟨_, _, Try.underlying65, rfl, rfl, 0, Try.sizeOf3⟩
theorem fo_65_1 : FieldOff Try.prog 65 1 1 := ⟨_, _, Try.underlying65, rfl, rfl, 0, Try.sizeOf3⟩
theorem fo_65_2 : FieldOff Try.prog 65 2 2 := ⟨_, _, Try.underlying65, rfl, rfl, 0, Try.sizeOf3⟩
theorem st_65 : StructOf Try.prog 65 ((Try.t65.zero.getD undef).cells.toList) [(0, 1), (1, 1), (2, 1)] := ⟨_, Try.underlying65, fun w => by rw [Try.zeroValue65]; rfl, fun w => by simp [Try.sizeOf3]⟩
theorem fo_66_0 : FieldOff Try.prog 66 0 0 := ⟨_, _, Try.underlying66, rfl, rfl, 0, Try.sizeOf3⟩
theorem fo_66_1 : FieldOff Try.prog 66 1 1 := ⟨_, _, Try.underlying66, rfl, rfl, 0, Try.sizeOf3⟩
theorem fo_66_2 : FieldOff Try.prog 66 2 2 := ⟨_, _, Try.underlying66, rfl, rfl, 0, Try.sizeOf3⟩
theorem st_66 : StructOf Try.prog 66 ((Try.t66.zero.getD undef).cells.toList) [(0, 1), (1, 1), (2, 1)] := ⟨_, Try.underlying66, fun w => by rw [Try.zeroValue66]; rfl, fun w => by simp [Try.sizeOf3]⟩
theorem so_67 : SliceOf Try.prog 67 82 7 := ⟨Try.underlying67, Try.sizeOf82⟩
theorem eo_67 : ElemOf Try.prog 67 82 7 (Try.t82.zero.getD undef) 56 := ⟨Try.underlying67, ⟨Try.t82, by kernel_rfl, rfl, rfl, rfl⟩, rfl, by decide⟩
theorem fo_68_0 : FieldOff Try.prog 68 0 0 := ⟨_, _, Try.underlying68, rfl, rfl, 0, Try.sizeOf67⟩
theorem fo_68_1 : FieldOff Try.prog 68 1 1 := ⟨_, _, Try.underlying68, rfl, rfl, 2, Try.sizeOf66⟩
theorem st_68 : StructOf Try.prog 68 ((Try.t68.zero.getD undef).cells.toList) [(0, 1), (1, 3)] := ⟨_, Try.underlying68, fun w => by rw [Try.zeroValue68]; rfl, fun w => by simp [Try.sizeOf66, Try.sizeOf67]⟩
theorem fo_69_0 : FieldOff Try.prog 69 0 0 := ⟨_, _, Try.underlying69, rfl, rfl, 0, Try.sizeOf67⟩
theorem fo_69_1 : FieldOff Try.prog 69 1 1 := ⟨_, _, Try.underlying69, rfl, rfl, 2, Try.sizeOf66⟩
theorem st_69 : StructOf Try.prog 69 ((Try.t69.zero.getD undef).cells.toList) [(0, 1), (1, 3)] := ⟨_, Try.underlying69, fun w => by rw [Try.zeroValue69]; rfl, fun w => by simp [Try.sizeOf66, Try.sizeOf67]⟩
theorem fo_81_0 : FieldOff Try.prog 81 0 0 := ⟨_, _, Try.underlying81, rfl, rfl, 0, Try.sizeOf3⟩
theorem fo_81_1 : FieldOff Try.prog 81 1 1 := ⟨_, _, Try.underlying81, rfl, rfl, 0, Try.sizeOf3⟩
theorem fo_81_2 : FieldOff Try.prog 81 2 2 := ⟨_, _, Try.underlying81, rfl, rfl, 0, Try.sizeOf3⟩
theorem fo_81_3 : FieldOff Try.prog 81 3 3 := ⟨_, _, Try.underlying81, rfl, rfl, 0, Try.sizeOf3⟩
theorem fo_81_4 : FieldOff Try.prog 81 4 4 := ⟨_, _, Try.underlying81, rfl, rfl, 0, Try.sizeOf3⟩
theorem fo_81_5 : FieldOff Try.prog 81 5 5 := ⟨_, _, Try.underlying81, rfl, rfl, 0, Try.sizeOf3⟩
theorem fo_81_6 : FieldOff Try.prog 81 6 6 := ⟨_, _, Try.underlying81, rfl, rfl, 0, Try.sizeOf3⟩
theorem st_81 : StructOf Try.prog 81 ((Try.t81.zero.getD undef).cells.toList) [(0, 1), (1, 1), (2, 1), (3, 1), (4, 1), (5, 1), (6, 1)] := ⟨_, Try.underlying81, fun w => by rw [Try.zeroValue81]; rfl, fun w => by simp [Try.sizeOf3]⟩
theorem fo_82_0 : FieldOff Try.prog 82 0 0 := ⟨_, _, Try.underlying82, rfl, rfl, 0, Try.sizeOf3⟩
theorem fo_82_1 : FieldOff Try.prog 82 1 1 := ⟨_, _, Try.underlying82, rfl, rfl, 0, Try.sizeOf3⟩
theorem fo_82_2 : FieldOff Try.prog 82 2 2 := ⟨_, _, Try.underlying82, rfl, rfl, 0, Try.sizeOf3⟩
theorem fo_82_3 : FieldOff Try.prog 82 3 3 := ⟨_, _, Try.underlying82, rfl, rfl, 0, Try.sizeOf3⟩
theorem fo_82_4 : FieldOff Try.prog 82 4 4 := ⟨_, _, Try.underlying82, rfl, rfl, 0, Try.sizeOf3⟩
theorem fo_82_5 : FieldOff Try.prog 82 5 5 := ⟨_, _, Try.underlying82, rfl, rfl, 0, Try.sizeOf3⟩
theorem fo_82_6 : FieldOff Try.prog 82 6 6 := ⟨_, _, Try.underlying82, rfl, rfl, 0, Try.sizeOf3⟩
theorem st_82 : StructOf Try.prog 82 ((Try.t82.zero.getD undef).cells.toList) [(0, 1), (1, 1), (2, 1), (3, 1), (4, 1), (5, 1), (6, 1)] := ⟨_, Try.underlying82, fun w => by rw [Try.zeroValue82]; rfl, fun w => by simp [Try.sizeOf3]⟩
theorem fo_83_0 : FieldOff Try.prog 83 0 0 := ⟨_, _, Try.underlying83, rfl, rfl, 0, Try.sizeOf3⟩
theorem fo_83_1 : FieldOff Try.prog 83 1 1 := ⟨_, _, Try.underlying83, rfl, rfl, 2, Try.sizeOf66⟩
theorem fo_83_2 : FieldOff Try.prog 83 2 4 := ⟨_, _, Try.underlying83, rfl, rfl, 0, Try.sizeOf3⟩
theorem st_83 : StructOf Try.prog 83 ((Try.t83.zero.getD undef).cells.toList) [(0, 1), (1, 3), (4, 1)] := ⟨_, Try.underlying83, fun w => by rw [Try.zeroValue83]; rfl, fun w => by simp [Try.sizeOf3, Try.sizeOf66]⟩
theorem fo_84_0 : FieldOff Try.prog 84 0 0 := ⟨_, _, Try.underlying84, rfl, rfl, 0, Try.sizeOf3⟩
theorem fo_84_1 : FieldOff Try.prog 84 1 1 := ⟨_, _, Try.underlying84, rfl, rfl, 2, Try.sizeOf66⟩
theorem fo_84_2 : FieldOff Try.prog 84 2 4 := ⟨_, _, Try.underlying84, rfl, rfl, 0, Try.sizeOf3⟩
theorem st_84 : StructOf Try.prog 84 ((Try.t84.zero.getD undef).cells.toList) [(0, 1), (1, 3), (4, 1)] := ⟨_, Try.underlying84, fun w => by rw [Try.zeroValue84]; rfl, fun w => by simp [Try.sizeOf3, Try.sizeOf66]⟩
theorem fo_97_0 : FieldOff Try.prog 97 0 0 := ⟨_, _, Try.underlying97, rfl, rfl, 0, Try.sizeOf3⟩
theorem fo_97_1 : FieldOff Try.prog 97 1 1 := ⟨_, _, Try.underlying97, rfl, rfl, 0, Try.sizeOf3⟩
theorem fo_97_2 : FieldOff Try.prog 97 2 2 := ⟨_, _, Try.underlying97, rfl, rfl, 0, Try.sizeOf3⟩
theorem fo_97_3 : FieldOff Try.prog 97 3 3 := ⟨_, _, Try.underlying97, rfl, rfl, 0, Try.sizeOf3⟩
theorem fo_97_4 : FieldOff Try.prog 97 4 4 := ⟨_, _, Try.underlying97, rfl, rfl, 2, Try.sizeOf66⟩
theorem st_97 : StructOf Try.prog 97 ((Try.t97.zero.getD undef).cells.toList) [(0, 1), (1, 1), (2, 1), (3, 1), (4, 3)] := ⟨_, Try.underlying97, fun w => by rw [Try.zeroValue97]; rfl, fun w => by simp [Try.sizeOf3, Try.sizeOf66]⟩
theorem fo_98_0 : FieldOff Try.prog 98 0 0 := ⟨_, _, Try.underlying98, rfl, rfl, 0, Try.sizeOf3⟩
theorem fo_98_1 : FieldOff Try.prog 98 1 1 := ⟨_, _, Try.underlying98, rfl, rfl, 0, Try.sizeOf3⟩
theorem fo_98_2 : FieldOff Try.prog 98 2 2 := ⟨_, _, Try.underlying98, rfl, rfl, 0, Try.sizeOf3⟩
theorem fo_98_3 : FieldOff Try.prog 98 3 3 := ⟨_, _, Try.underlying98, rfl, rfl, 0, Try.sizeOf3⟩
theorem fo_98_4 : FieldOff Try.prog 98 4 4 := ⟨_, _, Try.underlying98, rfl, rfl, 2, Try.sizeOf66⟩
theorem st_98 : StructOf Try.prog 98 ((Try.t98.zero.getD undef).cells.toList) [(0, 1), (1, 1), (2, 1), (3, 1), (4, 3)] := ⟨_, Try.underlying98, fun w => by rw [Try.zeroValue98]; rfl, fun w => by simp [Try.sizeOf3, Try.sizeOf66]⟩
theorem fo_103_0 : FieldOff Try.prog 103 0 0 := ⟨_, _, Try.underlying103, rfl, rfl, 0, Try.sizeOf101⟩
theorem fo_103_1 : FieldOff Try.prog 103 1 1 := ⟨_, _, Try.underlying103, rfl, rfl, 0, Try.sizeOf3⟩
theorem fo_103_2 : FieldOff Try.prog 103 2 2 := ⟨_, _, Try.underlying103, rfl, rfl, 0, Try.sizeOf3⟩
theorem fo_103_3 : FieldOff Try.prog 103 3 3 := ⟨_, _, Try.underlying103, rfl, rfl, 0, Try.sizeOf50⟩
theorem st_103 : StructOf Try.prog 103 ((Try.t103.zero.getD undef).cells.toList) [(0, 1), (1, 1), (2, 1), (3, 1)] := ⟨_, Try.underlying103, fun w => by rw [Try.zeroValue103]; rfl, fun w => by simp [Try.sizeOf101, Try.sizeOf3, Try.sizeOf50]⟩
theorem fo_104_0 : FieldOff Try.prog 104 0 0 := ⟨_, _, Try.underlying104, rfl, rfl, 0, Try.sizeOf101⟩
theorem fo_104_1 : FieldOff Try.prog 104 1 1 := ⟨_, _, Try.underlying104, rfl, rfl, 0, Try.sizeOf3⟩
theorem fo_104_2 : FieldOff Try.prog 104 2 2 := ⟨_, _, Try.underlying104, rfl, rfl, 0, Try.sizeOf3⟩
theorem fo_104_3 : FieldOff Try.prog 104 3 3 := ⟨_, _, Try.underlying104, rfl, rfl, 0, Try.sizeOf50⟩
theorem st_104 : StructOf Try.prog 104 ((Try.t104.zero.getD undef).cells.toList) [(0, 1), (1, 1), (2, 1), (3, 1)] := ⟨_, Try.underlying104, fun w => by rw [Try.zeroValue104]; rfl, fun w => by simp [Try.sizeOf101, Try.sizeOf3, Try.sizeOf50]⟩
theorem fo_114_0 : FieldOff Try.prog 114 0 0 := ⟨_, _, Try.underlying114, rfl, rfl, 3, Try.sizeOf69⟩
theorem fo_114_1 : FieldOff Try.prog 114 1 4 := ⟨_, _, Try.underlying114, rfl, rfl, 0, Try.sizeOf3⟩
theorem fo_114_2 : FieldOff Try.prog 114 2 5 := ⟨_, _, Try.underlying114, rfl, rfl, 0, Try.sizeOf3⟩
theorem fo_114_3 : FieldOff Try.prog 114 3 6 := ⟨_, _, Try.underlying114, rfl, rfl, 0, Try.sizeOf50⟩
theorem fo_114_4 : FieldOff Try.prog 114 4 7 := ⟨_, _, Try.underlying114, rfl, rfl, 0, Try.sizeOf47⟩
theorem st_114 : StructOf Try.prog 114 ((Try.t114.zero.getD undef).cells.toList) [(0, 4), (4, 1), (5, 1), (6, 1), (7, 1)] := ⟨_, Try.underlying114, fun w => by rw [Try.zeroValue114]; rfl, fun w => by simp [Try.sizeOf3, Try.sizeOf47, Try.sizeOf50, Try.sizeOf69]⟩
theorem fo_115_0 : FieldOff Try.prog 115 0 0 := ⟨_, _, Try.underlying115, rfl, rfl, 3, Try.sizeOf69⟩
theorem fo_115_1 : FieldOff Try.prog 115 1 4 := ⟨_, _, Try.underlying115, rfl, rfl, 0, Try.sizeOf3⟩
theorem fo_115_2 : FieldOff Try.prog 115 2 5 := ⟨_, _, Try.underlying115, rfl, rfl, 0, Try.sizeOf3⟩
theorem fo_115_3 : FieldOff Try.prog 115 3 6 := ⟨_, _, Try.underlying115, rfl, rfl, 0, Try.sizeOf50⟩
theorem fo_115_4 : FieldOff Try.prog 115 4 7 := ⟨_, _, Try.underlying115, rfl, rfl, 0, Try.sizeOf47⟩
theorem st_115 : StructOf Try.prog 115 ((Try.t115.zero.getD undef).cells.toList) [(0, 4), (4, 1), (5, 1), (6, 1), (7, 1)] := ⟨_, Try.underlying115, fun w => by rw [Try.zeroValue115]; rfl, fun w => by simp [Try.sizeOf3, Try.sizeOf47, Try.sizeOf50, Try.sizeOf69]⟩
theorem so_144 : SliceOf Try.prog 144 143 2 := ⟨Try.underlying144, Try.sizeOf143⟩
theorem eo_144 : ElemOf Try.prog 144 143 2 (Try.t143.zero.getD undef) 16 := ⟨Try.underlying144, ⟨Try.t143, by kernel_rfl, rfl, rfl, rfl⟩, rfl, by decide⟩
theorem fo_152_0 : FieldOff Try.prog 152 0 0 := ⟨_, _, Try.underlying152, rfl, rfl, 0, Try.sizeOf17⟩
theorem fo_152_1 : FieldOff Try.prog 152 1 1 := ⟨_, _, Try.underlying152, rfl, rfl, 0, Try.sizeOf17⟩
theorem fo_152_2 : FieldOff Try.prog 152 2 2 := ⟨_, _, Try.underlying152, rfl, rfl, 0, Try.sizeOf17⟩
theorem fo_152_3 : FieldOff Try.prog 152 3 3 := ⟨_, _, Try.underlying152, rfl, rfl, 0, Try.sizeOf9⟩
theorem st_152 : StructOf Try.prog 152 ((Try.t152.zero.getD undef).cells.toList) [(0, 1), (1, 1), (2, 1), (3, 1)] := ⟨_, Try.underlying152, fun w => by rw [Try.zeroValue152]; rfl, fun w => by simp [Try.sizeOf17, Try.sizeOf9]⟩
theorem fo_153_0 : FieldOff Try.prog 153 0 0 := ⟨_, _, Try.underlying153, rfl, rfl, 0, Try.sizeOf17⟩
theorem fo_153_1 : FieldOff Try.prog 153 1 1 := ⟨_, _, Try.underlying153, rfl, rfl, 0, Try.sizeOf17⟩
theorem fo_153_2 : FieldOff Try.prog 153 2 2 := ⟨_, _, Try.underlying153, rfl, rfl, 0, Try.sizeOf17⟩
theorem fo_153_3 : FieldOff Try.prog 153 3 3 := ⟨_, _, Try.underlying153, rfl, rfl, 0, Try.sizeOf9⟩
theorem st_153 : StructOf Try.prog 153 ((Try.t153.zero.getD undef).cells.toList) [(0, 1), (1, 1), (2, 1), (3, 1)] := ⟨_, Try.underlying153, fun w => by rw [Try.zeroValue153]; rfl, fun w => by simp [Try.sizeOf17, Try.sizeOf9]⟩
theorem fo_164_0 : FieldOff Try.prog 164 0 0 := ⟨_, _, Try.underlying164, rfl, rfl, 0, Try.sizeOf12⟩
theorem fo_164_1 : FieldOff Try.prog 164 1 1 := ⟨_, _, Try.underlying164, rfl, rfl, 0, Try.sizeOf12⟩
theorem fo_164_2 : FieldOff Try.prog 164 2 2 := ⟨_, _, Try.underlying164, rfl, rfl, 0, Try.sizeOf147⟩
theorem fo_164_3 : FieldOff Try.prog 164 3 3 := ⟨_, _, Try.underlying164, rfl, rfl, 0, Try.sizeOf158⟩
theorem fo_164_4 : FieldOff Try.prog 164 4 4 := ⟨_, _, Try.underlying164, rfl, rfl, 0, Try.sizeOf5⟩
theorem fo_164_5 : FieldOff Try.prog 164 5 5 := ⟨_, _, Try.underlying164, rfl, rfl, 0, Try.sizeOf5⟩
theorem fo_164_6 : FieldOff Try.prog 164 6 6 := ⟨_, _, Try.underlying164, rfl, rfl, 0, Try.sizeOf159⟩
theorem fo_164_7 : FieldOff Try.prog 164 7 7 := ⟨_, _, Try.underlying164, rfl, rfl, 0, Try.sizeOf160⟩
theorem fo_164_8 : FieldOff Try.prog 164 8 8 := ⟨_, _, Try.underlying164, rfl, rfl, 0, Try.sizeOf161⟩
theorem fo_164_9 : FieldOff Try.prog 164 9 9 := ⟨_, _, Try.underlying164, rfl, rfl, 0, Try.sizeOf162⟩
theorem fo_164_10 : FieldOff Try.prog 164 10 10 := ⟨_, _, Try.underlying164, rfl, rfl, 0, Try.sizeOf163⟩
theorem st_164 : StructOf Try.prog 164 ((Try.t164.zero.getD undef).cells.toList) [(0, 1), (1, 1), (2, 1), (3, 1), (4, 1), (5, 1), (6, 1), (7, 1), (8, 1), (9, 1), (10, 1)] := ⟨_, Try.underlying164, fun w => by rw [Try.zeroValue164]; rfl, fun w => by simp [Try.sizeOf12, Try.sizeOf147, Try.sizeOf158, Try.sizeOf159, Try.sizeOf160, Try.sizeOf161, Try.sizeOf162, Try.sizeOf163, Try.sizeOf5]⟩
theorem fo_165_0 : FieldOff Try.prog 165 0 0 := ⟨_, _, Try.underlying165, rfl, rfl, 0, Try.sizeOf12⟩
theorem fo_165_1 : FieldOff Try.prog 165 1 1 := ⟨_, _, Try.underlying165, rfl, rfl, 0, Try.sizeOf12⟩
theorem fo_165_2 : FieldOff Try.prog 165 2 2 := ⟨_, _, Try.underlying165, rfl, rfl, 0, Try.sizeOf147⟩
theorem fo_165_3 : FieldOff Try.prog 165 3 3 := ⟨_, _, Try.underlying165, rfl, rfl, 0, Try.sizeOf158⟩
theorem fo_165_4 : FieldOff Try.prog 165 4 4 := ⟨_, _, Try.underlying165, rfl, rfl, 0, Try.sizeOf5⟩
theorem fo_165_5 : FieldOff Try.prog 165 5 5 := ⟨_, _, Try.underlying165, rfl, rfl, 0, Try.sizeOf5⟩
theorem fo_165_6 : FieldOff Try.prog 165 6 6 := ⟨_, _, Try.underlying165, rfl, rfl, 0, Try.sizeOf159⟩
theorem fo_165_7 : FieldOff Try.prog 165 7 7 := ⟨_, _, Try.underlying165, rfl, rfl, 0, Try.sizeOf160⟩
theorem fo_165_8 : FieldOff Try.prog 165 8 8 := ⟨_, _, Try.underlying165, rfl, rfl, 0, Try.sizeOf161⟩
theorem fo_165_9 : FieldOff Try.prog 165 9 9 := ⟨_, _, Try.underlying165, rfl, rfl, 0, Try.sizeOf162⟩
theorem fo_165_10 : FieldOff Try.prog 165 10 10 := ⟨_, _, Try.underlying165, rfl, rfl, 0, Try.sizeOf163⟩
theorem st_165 : StructOf Try.prog 165 ((Try.t165.zero.getD undef).cells.toList) [(0, 1), (1, 1), (2, 1), (3, 1), (4, 1), (5, 1), (6, 1), (7, 1), (8, 1), (9, 1), (10, 1)] := ⟨_, Try.underlying165, fun w => by rw [Try.zeroValue165]; rfl, fun w => by simp [Try.sizeOf12, Try.sizeOf147, Try.sizeOf158, Try.sizeOf159, Try.sizeOf160, Try.sizeOf161, Try.sizeOf162, Try.sizeOf163, Try.sizeOf5]⟩
theorem mixed : Try.prog.follows .mixedOrders = true := by kernel_rfl
end Go.Proofs.Ytofgpimoekhfaaa
