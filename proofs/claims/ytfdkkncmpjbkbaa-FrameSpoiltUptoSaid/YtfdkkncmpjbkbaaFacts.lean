/- This file proves where the fields of this program's types lie. No conditions. -/
import Derived.Test.YtfdkkncmpjbkbaaDraw3
import Derived.Test.YtfdkkncmpjbkbaaProg
import Derived.KernelRfl
set_option linter.unusedVariables false
set_option linter.unusedSimpArgs false
namespace Go.Proofs.Ytfdkkncmpjbkbaa
open Go
theorem fo_7_0 : FieldOff Try.prog 7 0 0 := ⟨_, _, Try.underlying7, rfl, rfl, 0, Try.sizeOf2⟩
theorem fo_7_1 : FieldOff Try.prog 7 1 1 := ⟨_, _, Try.underlying7, rfl, rfl, 0, Try.sizeOf3⟩
theorem fo_7_2 : FieldOff Try.prog 7 2 2 := ⟨_, _, Try.underlying7, rfl, rfl, 0, Try.sizeOf4⟩
theorem fo_7_3 : FieldOff Try.prog 7 3 3 := ⟨_, _, Try.underlying7, rfl, rfl, 0, Try.sizeOf6⟩
theorem st_7 : StructOf Try.prog 7 ((Try.t7.zero.getD undef).cells.toList) [(0, 1), (1, 1), (2, 1), (3, 1)] := ⟨_, Try.underlying7, fun w => by rw [Try.zeroValue7]; rfl, fun w => by simp [Try.sizeOf2, Try.sizeOf3, Try.sizeOf4, Try.sizeOf6]⟩
theorem fo_8_0 : FieldOff Try.prog 8 0 0 := ⟨_, _, Try.underlying8, rfl, rfl, 0, Try.sizeOf2⟩
theorem fo_8_1 : FieldOff Try.prog 8 1 1 := ⟨_, _, Try.underlying8, rfl, rfl, 0, Try.sizeOf3⟩
theorem fo_8_2 : FieldOff Try.prog 8 2 2 := ⟨_, _, Try.underlying8, rfl, rfl, 0, Try.sizeOf4⟩
theorem fo_8_3 : FieldOff Try.prog 8 3 3 := ⟨_, _, Try.underlying8, rfl, rfl, 0, Try.sizeOf6⟩
theorem st_8 : StructOf Try.prog 8 ((Try.t8.zero.getD undef).cells.toList) [(0, 1), (1, 1), (2, 1), (3, 1)] := ⟨_, Try.underlying8, fun w => by rw [Try.zeroValue8]; rfl, fun w => by simp [Try.sizeOf2, Try.sizeOf3, Try.sizeOf4, Try.sizeOf6]⟩
theorem fo_13_0 : FieldOff Try.prog 13 0 0 := ⟨_, _, Try.underlying13, rfl, rfl, 0, Try.sizeOf9⟩
theorem fo_13_1 : FieldOff Try.prog 13 1 1 := ⟨_, _, Try.underlying13, rfl, rfl, 0, Try.sizeOf12⟩
theorem st_13 : StructOf Try.prog 13 ((Try.t13.zero.getD undef).cells.toList) [(0, 1), (1, 1)] := ⟨_, Try.underlying13, fun w => by rw [Try.zeroValue13]; rfl, fun w => by simp [Try.sizeOf12, Try.sizeOf9]⟩
theorem fo_14_0 : FieldOff Try.prog 14 0 0 := ⟨_, _, Try.underlying14, rfl, rfl, 0, Try.sizeOf9⟩
theorem fo_14_1 : FieldOff Try.prog 14 1 1 := ⟨_, _, Try.underlying14, rfl, rfl, 0, Try.sizeOf12⟩
theorem st_14 : StructOf Try.prog 14 ((Try.t14.zero.getD undef).cells.toList) [(0, 1), (1, 1)] := ⟨_, Try.underlying14, fun w => by rw [Try.zeroValue14]; rfl, fun w => by simp [Try.sizeOf12, Try.sizeOf9]⟩
theorem fo_18_0 : FieldOff Try.prog 18 0 0 := ⟨_, _, Try.underlying18, rfl, rfl, 0, Try.sizeOf17⟩
theorem st_18 : StructOf Try.prog 18 ((Try.t18.zero.getD undef).cells.toList) [(0, 1)] := ⟨_, Try.underlying18, fun w => by rw [Try.zeroValue18]; rfl, fun w => by simp [Try.sizeOf17]⟩
theorem fo_19_0 : FieldOff Try.prog 19 0 0 := ⟨_, _, Try.underlying19, rfl, rfl, 0, Try.sizeOf17⟩
theorem st_19 : StructOf Try.prog 19 ((Try.t19.zero.getD undef).cells.toList) [(0, 1)] := ⟨_, Try.underlying19, fun w => by rw [Try.zeroValue19]; rfl, fun w => by simp [Try.sizeOf17]⟩
theorem so_22 : SliceOf Try.prog 22 3 1 := ⟨Try.underlying22, Try.sizeOf3⟩
theorem eo_22 : ElemOf Try.prog 22 3 1 (Try.t3.zero.getD undef) 8 := ⟨Try.underlying22, ⟨Try.t3, by kernel_rfl, rfl, rfl, rfl⟩, rfl, by decide⟩
theorem fo_23_0 : FieldOff Try.prog 23 0 0 := ⟨_, _, Try.underlying23, rfl, rfl, 0, Try.sizeOf3⟩
theorem fo_23_1 : FieldOff Try.prog 23 1 1 := ⟨_, _, Try.underlying23, rfl, rfl, 0, Try.sizeOf3⟩
theorem fo_23_2 : FieldOff Try.prog 23 2 2 := ⟨_, _, Try.underlying23, rfl, rfl, 0, Try.sizeOf3⟩
theorem st_23 : StructOf Try.prog 23 ((Try.t23.zero.getD undef).cells.toList) [(0, 1), (1, 1), (2, 1)] := ⟨_, Try.underlying23, fun w => by rw [Try.zeroValue23]; rfl, fun w => by simp [Try.sizeOf3]⟩
theorem fo_24_0 : FieldOff Try.prog 24 0 0 := ⟨_, _, Try.underlying24, rfl, rfl, 0, Try.sizeOf3⟩
theorem fo_24_1 : FieldOff Try.prog 24 1 1 := ⟨_, _, Try.underlying24, rfl, rfl, 0, Try.sizeOf3⟩
theorem fo_24_2 : FieldOff Try.prog 24 2 2 := ⟨_, _, Try.underlying24, rfl, rfl, 0, Try.sizeOf3⟩
theorem st_24 : StructOf Try.prog 24 ((Try.t24.zero.getD undef).cells.toList) [(0, 1), (1, 1), (2, 1)] := ⟨_, Try.underlying24, fun w => by rw [Try.zeroValue24]; rfl, fun w => by simp [Try.sizeOf3]⟩
theorem so_25 : SliceOf Try.prog 25 100 5 := ⟨Try.underlying25, Try.sizeOf100⟩
theorem eo_25 : ElemOf Try.prog 25 100 5 (Try.t100.zero.getD undef) 40 := ⟨Try.underlying25, ⟨Try.t100, by kernel_rfl, rfl, rfl, rfl⟩, rfl, by decide⟩
theorem fo_36_0 : FieldOff Try.prog 36 0 0 := ⟨_, _, Try.underlying36, rfl, rfl, 0, Try.sizeOf3⟩
theorem fo_36_1 : FieldOff Try.prog 36 1 1 := ⟨_, _, Try.underlying36, rfl, rfl, 0, Try.sizeOf3⟩
theorem st_36 : StructOf Try.prog 36 ((Try.t36.zero.getD undef).cells.toList) [(0, 1), (1, 1)] := ⟨_, Try.underlying36, fun w => by rw [Try.zeroValue36]; rfl, fun w => by simp [Try.sizeOf3]⟩
theorem fo_37_0 : FieldOff Try.prog 37 0 0 := ⟨_, _, Try.underlying37, rfl, rfl, 0, Try.sizeOf3⟩
theorem fo_37_1 : FieldOff Try.prog 37 1 1 := ⟨_, _, Try.underlying37, rfl, rfl, 0, Try.sizeOf3⟩
theorem st_37 : StructOf Try.prog 37 ((Try.t37.zero.getD undef).cells.toList) [(0, 1), (1, 1)] := ⟨_, Try.underlying37, fun w => by rw [Try.zeroValue37]; rfl, fun w => by simp [Try.sizeOf3]⟩
theorem fo_38_0 : FieldOff Try.prog 38 0 0 := ⟨_, _, Try.underlying38, rfl, rfl, 0, Try.sizeOf3⟩
theorem fo_38_1 : FieldOff Try.prog 38 1 1 := ⟨_, _, Try.underlying38, rfl, rfl, 0, Try.sizeOf3⟩
theorem fo_38_2 : FieldOff Try.prog 38 2 2 := ⟨_, _, Try.underlying38, rfl, rfl, 0, Try.sizeOf3⟩
theorem fo_38_3 : FieldOff Try.prog 38 3 3 := ⟨_, _, Try.underlying38, rfl, rfl, 0, Try.sizeOf3⟩
theorem fo_38_4 : FieldOff Try.prog 38 4 4 := ⟨_, _, Try.underlying38, rfl, rfl, 0, Try.sizeOf3⟩
theorem fo_38_5 : FieldOff Try.prog 38 5 5 := ⟨_, _, Try.underlying38, rfl, rfl, 0, Try.sizeOf3⟩
theorem fo_38_6 : FieldOff Try.prog 38 6 6 := ⟨_, _, Try.underlying38, rfl, rfl, 0, Try.sizeOf3⟩
theorem fo_38_7 : FieldOff Try.prog 38 7 7 := ⟨_, _, Try.underlying38, rfl, rfl, 0, Try.sizeOf4⟩
theorem st_38 : StructOf Try.prog 38 ((Try.t38.zero.getD undef).cells.toList) [(0, 1), (1, 1), (2, 1), (3, 1), (4, 1), (5, 1), (6, 1), (7, 1)] := ⟨_, Try.underlying38, fun w => by rw [Try.zeroValue38]; rfl, fun w => by simp [Try.sizeOf3, Try.sizeOf4]⟩
theorem fo_39_0 : FieldOff Try.prog 39 0 0 := ⟨_, _, Try.underlying39, rfl, rfl, 0, Try.sizeOf3⟩
theorem fo_39_1 : FieldOff Try.prog 39 1 1 := ⟨_, _, Try.underlying39, rfl, rfl, 0, Try.sizeOf3⟩
theorem fo_39_2 : FieldOff Try.prog 39 2 2 := ⟨_, _, Try.underlying39, rfl, rfl, 0, Try.sizeOf3⟩
theorem fo_39_3 : FieldOff Try.prog 39 3 3 := ⟨_, _, Try.underlying39, rfl, rfl, 0, Try.sizeOf3⟩
theorem fo_39_4 : FieldOff Try.prog 39 4 4 := ⟨_, _, Try.underlying39, rfl, rfl, 0, Try.sizeOf3⟩
theorem fo_39_5 : FieldOff Try.prog 39 5 5 := ⟨_, _, Try.underlying39, rfl, rfl, 0, Try.sizeOf3⟩
theorem fo_39_6 : FieldOff Try.prog 39 6 6 := ⟨_, _, Try.underlying39, rfl, rfl, 0, Try.sizeOf3⟩
theorem fo_39_7 : FieldOff Try.prog 39 7 7 := ⟨_, _, Try.underlying39, rfl, rfl, 0, Try.sizeOf4⟩
theorem st_39 : StructOf Try.prog 39 ((Try.t39.zero.getD undef).cells.toList) [(0, 1), (1, 1), (2, 1), (3, 1), (4, 1), (5, 1), (6, 1), (7, 1)] := ⟨_, Try.underlying39, fun w => by rw [Try.zeroValue39]; rfl, fun w => by simp [Try.sizeOf3, Try.sizeOf4]⟩
theorem so_40 : SliceOf Try.prog 40 5 1 := ⟨Try.underlying40, Try.sizeOf5⟩
theorem eo_40 : ElemOf Try.prog 40 5 1 (Try.t5.zero.getD undef) 1 := ⟨Try.underlying40, ⟨Try.t5, by kernel_rfl, rfl, rfl, rfl⟩, rfl, by decide⟩
theorem so_50 : SliceOf Try.prog 50 40 1 := ⟨Try.underlying50, Try.sizeOf40⟩
theorem eo_50 : ElemOf Try.prog 50 40 1 (Try.t40.zero.getD undef) 24 := ⟨Try.underlying50, ⟨Try.t40, by kernel_rfl, rfl, rfl, rfl⟩, rfl, by decide⟩
theorem so_62 : SliceOf Try.prog 62 106 7 := ⟨Try.underlying62, Try.sizeOf106⟩
theorem eo_62 : ElemOf Try.prog 62 106 7 (Try.t106.zero.getD undef) 56 := ⟨Try.underlying62, ⟨Try.t106, by kernel_rfl, rfl, rfl, rfl⟩, rfl, by decide⟩
theorem so_63 : SliceOf Try.prog 63 85 4 := ⟨Try.underlying63, Try.sizeOf85⟩
theorem eo_63 : ElemOf Try.prog 63 85 4 (Try.t85.zero.getD undef) 48 := ⟨Try.underlying63, ⟨Try.t85, by kernel_rfl, rfl, rfl, rfl⟩, rfl, by decide⟩
theorem so_64 : SliceOf Try.prog 64 76 10 := ⟨Try.underlying64, Try.sizeOf76⟩
theorem eo_64 : ElemOf Try.prog 64 76 10 (Try.t76.zero.getD undef) 96 := ⟨Try.underlying64, ⟨Try.t76, by kernel_rfl, rfl, rfl, rfl⟩, rfl, by decide⟩
theorem fo_65_0 : FieldOff Try.prog 65 0 0 := ⟨_, _, Try.underlying65, rfl, rfl, 0, Try.sizeOf63⟩
theorem fo_65_1 : FieldOff Try.prog 65 1 1 := ⟨_, _, Try.underlying65, rfl, rfl, 0, Try.sizeOf64⟩
theorem fo_65_2 : FieldOff Try.prog 65 2 2 := ⟨_, _, Try.underlying65, rfl, rfl, 0, Try.sizeOf50⟩
theorem st_65 : StructOf Try.prog 65 ((Try.t65.zero.getD undef).cells.toList) [(0, 1), (1, 1), (2, 1)] := ⟨_, Try.underlying65, fun w => by rw [Try.zeroValue65]; rfl, fun w => by simp [Try.sizeOf50, Try.sizeOf63, Try.sizeOf64]⟩
theorem fo_66_0 : FieldOff Try.prog 66 0 0 := ⟨_, _, Try.underlying66, rfl, rfl, 0, Try.sizeOf63⟩
theorem fo_66_1 : FieldOff Try.prog 66 1 1 := ⟨_, _, Try.underlying66, rfl, rfl, 0, Try.sizeOf64⟩
theorem fo_66_2 : FieldOff Try.prog 66 2 2 := ⟨_, _, Try.underlying66, rfl, rfl, 0, Try.sizeOf50⟩
theorem st_66 : StructOf Try.prog 66 ((Try.t66.zero.getD undef).cells.toList) [(0, 1), (1, 1), (2, 1)] := ⟨_, Try.underlying66, fun w => by rw [Try.zeroValue66]; rfl, fun w => by simp [Try.sizeOf50, Try.sizeOf63, Try.sizeOf64]⟩
theorem so_69 : SliceOf Try.prog 69 39 8 := ⟨Try.underlying69, Try.sizeOf39⟩
theorem eo_69 : ElemOf Try.prog 69 39 8 (Try.t39.zero.getD undef) 64 := ⟨Try.underlying69, ⟨Try.t39, by kernel_rfl, rfl, rfl, rfl⟩, rfl, by decide⟩
theorem fo_75_0 : FieldOff Try.prog 75 0 0 := ⟨_, _, Try.underlying75, rfl, rfl, 0, Try.sizeOf3⟩
theorem fo_75_1 : FieldOff Try.prog 75 1 1 := ⟨_, _, Try.underlying75, rfl, rfl, 0, Try.sizeOf3⟩
theorem fo_75_2 : FieldOff Try.prog 75 2 2 := ⟨_, _, Try.underlying75, rfl, rfl, 0, Try.sizeOf3⟩
theorem fo_75_3 : FieldOff Try.prog 75 3 3 := ⟨_, _, Try.underlying75, rfl, rfl, 0, Try.sizeOf3⟩
theorem fo_75_4 : FieldOff Try.prog 75 4 4 := ⟨_, _, Try.underlying75, rfl, rfl, 0, Try.sizeOf3⟩
theorem fo_75_5 : FieldOff Try.prog 75 5 5 := ⟨_, _, Try.underlying75, rfl, rfl, 0, Try.sizeOf3⟩
theorem fo_75_6 : FieldOff Try.prog 75 6 6 := ⟨_, _, Try.underlying75, rfl, rfl, 0, Try.sizeOf4⟩
theorem fo_75_7 : FieldOff Try.prog 75 7 7 := ⟨_, _, Try.underlying75, rfl, rfl, 0, Try.sizeOf3⟩
theorem fo_75_8 : FieldOff Try.prog 75 8 8 := ⟨_, _, Try.underlying75, rfl, rfl, 0, Try.sizeOf3⟩
theorem fo_75_9 : FieldOff Try.prog 75 9 9 := ⟨_, _, Try.underlying75, rfl, rfl, 0, Try.sizeOf22⟩
theorem st_75 : StructOf Try.prog 75 ((Try.t75.zero.getD undef).cells.toList) [(0, 1), (1, 1), (2, 1), (3, 1), (4, 1), (5, 1), (6, 1), (7, 1), (8, 1), (9, 1)] := ⟨_, Try.underlying75, fun w => by rw [Try.zeroValue75]; rfl, fun w => by simp [Try.sizeOf22, Try.sizeOf3, Try.sizeOf4]⟩
theorem fo_76_0 : FieldOff Try.prog 76 0 0 := ⟨_, _, Try.underlying76, rfl, rfl, 0, Try.sizeOf3⟩
theorem fo_76_1 : FieldOff Try.prog 76 1 1 := ⟨_, _, Try.underlying76, rfl, rfl, 0, Try.sizeOf3⟩
theorem fo_76_2 : FieldOff Try.prog 76 2 2 := ⟨_, _, Try.underlying76, rfl, rfl, 0, Try.sizeOf3⟩
theorem fo_76_3 : FieldOff Try.prog 76 3 3 := ⟨_, _, Try.underlying76, rfl, rfl, 0, Try.sizeOf3⟩
theorem fo_76_4 : FieldOff Try.prog 76 4 4 := ⟨_, _, Try.underlying76, rfl, rfl, 0, Try.sizeOf3⟩
theorem fo_76_5 : FieldOff Try.prog 76 5 5 := ⟨_, _, Try.underlying76, rfl, rfl, 0, Try.sizeOf3⟩
theorem fo_76_6 : FieldOff Try.prog 76 6 6 := ⟨_, _, Try.underlying76, rfl, rfl, 0, Try.sizeOf4⟩
theorem fo_76_7 : FieldOff Try.prog 76 7 7 := ⟨_, _, Try.underlying76, rfl, rfl, 0, Try.sizeOf3⟩
theorem fo_76_8 : FieldOff Try.prog 76 8 8 := ⟨_, _, Try.underlying76, rfl, rfl, 0, Try.sizeOf3⟩
theorem fo_76_9 : FieldOff Try.prog 76 9 9 := ⟨_, _, Try.underlying76, rfl, rfl, 0, Try.sizeOf22⟩
theorem st_76 : StructOf Try.prog 76 ((Try.t76.zero.getD undef).cells.toList) [(0, 1), (1, 1), (2, 1), (3, 1), (4, 1), (5, 1), (6, 1), (7, 1), (8, 1), (9, 1)] := ⟨_, Try.underlying76, fun w => by rw [Try.zeroValue76]; rfl, fun w => by simp [Try.sizeOf22, Try.sizeOf3, Try.sizeOf4]⟩
theorem so_83 : SliceOf Try.prog 83 98 7 := ⟨Try.underlying83, Try.sizeOf98⟩
theorem eo_83 : ElemOf Try.prog 83 98 7 (Try.t98.zero.getD undef) 56 := ⟨Try.underlying83, ⟨Try.t98, by kernel_rfl, rfl, rfl, rfl⟩, rfl, by decide⟩
theorem fo_84_0 : FieldOff Try.prog 84 0 0 := ⟨_, _, Try.underlying84, rfl, rfl, 0, Try.sizeOf83⟩
theorem fo_84_1 : FieldOff Try.prog 84 1 1 := ⟨_, _, Try.underlying84, rfl, rfl, 2, Try.sizeOf24⟩
theorem st_84 : StructOf Try.prog 84 ((Try.t84.zero.getD undef).cells.toList) [(0, 1), (1, 3)] := ⟨_, Try.underlying84, fun w => by rw [Try.zeroValue84]; rfl, fun w => by simp [Try.sizeOf24, Try.sizeOf83]⟩
theorem fo_85_0 : FieldOff Try.prog 85 0 0 := ⟨_, _, Try.underlying85, rfl, rfl, 0, Try.sizeOf83⟩
theorem fo_85_1 : FieldOff Try.prog 85 1 1 := ⟨_, _, Try.underlying85, rfl, rfl, 2, Try.sizeOf24⟩
theorem st_85 : StructOf Try.prog 85 ((Try.t85.zero.getD undef).cells.toList) [(0, 1), (1, 3)] := ⟨_, Try.underlying85, fun w => by rw [Try.zeroValue85]; rfl, fun w => by simp [Try.sizeOf24, Try.sizeOf83]⟩
theorem fo_97_0 : FieldOff Try.prog 97 0 0 := ⟨_, _, Try.underlying97, rfl, rfl, 0, Try.sizeOf3⟩
theorem fo_97_1 : FieldOff Try.prog 97 1 1 := ⟨_, _, Try.underlying97, rfl, rfl, 0, Try.sizeOf3⟩
theorem fo_97_2 : FieldOff Try.prog 97 2 2 := ⟨_, _, Try.underlying97, rfl, rfl, 0, Try.sizeOf3⟩
theorem fo_97_3 : FieldOff Try.prog 97 3 3 := ⟨_, _, Try.underlying97, rfl, rfl, 0, Try.sizeOf3⟩
theorem fo_97_4 : FieldOff Try.prog 97 4 4 := ⟨_, _, Try.underlying97, rfl, rfl, 0, Try.sizeOf3⟩
theorem fo_97_5 : FieldOff Try.prog 97 5 5 := ⟨_, _, Try.underlying97, rfl, rfl, 0, Try.sizeOf3⟩
theorem fo_97_6 : FieldOff Try.prog 97 6 6 := ⟨_, _, Try.underlying97, rfl, rfl, 0, Try.sizeOf3⟩
theorem st_97 : StructOf Try.prog 97 ((Try.t97.zero.getD undef).cells.toList) [(0, 1), (1, 1), (2, 1), (3, 1), (4, 1), (5, 1), (6, 1)] := ⟨_, Try.underlying97, fun w => by rw [Try.zeroValue97]; rfl, fun w => by simp [Try.sizeOf3]⟩
theorem fo_98_0 : FieldOff Try.prog 98 0 0 := ⟨_, _, Try.underlying98, rfl, rfl, 0, Try.sizeOf3⟩
theorem fo_98_1 : FieldOff Try.prog 98 1 1 := ⟨_, _, Try.underlying98, rfl, rfl, 0, Try.sizeOf3⟩
theorem fo_98_2 : FieldOff Try.prog 98 2 2 := ⟨_, _, Try.underlying98, rfl, rfl, 0, Try.sizeOf3⟩
theorem fo_98_3 : FieldOff Try.prog 98 3 3 := ⟨_, _, Try.underlying98, rfl, rfl, 0, Try.sizeOf3⟩
theorem fo_98_4 : FieldOff Try.prog 98 4 4 := ⟨_, _, Try.underlying98, rfl, rfl, 0, Try.sizeOf3⟩
theorem fo_98_5 : FieldOff Try.prog 98 5 5 := ⟨_, _, Try.underlying98, rfl, rfl, 0, Try.sizeOf3⟩
theorem fo_98_6 : FieldOff Try.prog 98 6 6 := ⟨_, _, Try.underlying98, rfl, rfl, 0, Try.sizeOf3⟩
theorem st_98 : StructOf Try.prog 98 ((Try.t98.zero.getD undef).cells.toList) [(0, 1), (1, 1), (2, 1), (3, 1), (4, 1), (5, 1), (6, 1)] := ⟨_, Try.underlying98, fun w => by rw [Try.zeroValue98]; rfl, fun w => by simp [Try.sizeOf3]⟩
theorem fo_99_0 : FieldOff Try.prog 99 0 0 := ⟨_, _, Try.underlying99, rfl, rfl, 0, Try.sizeOf3⟩
theorem fo_99_1 : FieldOff Try.prog 99 1 1 := ⟨_, _, Try.underlying99, rfl, rfl, 2, Try.sizeOf24⟩
theorem fo_99_2 : FieldOff Try.prog 99 2 4 := ⟨_, _, Try.underlying99, rfl, rfl, 0, Try.sizeOf3⟩
theorem st_99 : StructOf Try.prog 99 ((Try.t99.zero.getD undef).cells.toList) [(0, 1), (1, 3), (4, 1)] := ⟨_, Try.underlying99, fun w => by rw [Try.zeroValue99]; rfl, fun w => by simp [Try.sizeOf24, Try.sizeOf3]⟩
theorem fo_100_0 : FieldOff Try.prog 100 0 0 := ⟨_, _, Try.underlying100, rfl, rfl, 0, Try.sizeOf3⟩
theorem fo_100_1 : FieldOff Try.prog 100 1 1 := ⟨_, _, Try.underlying100, rfl, rfl, 2, Try.sizeOf24⟩
theorem fo_100_2 : FieldOff Try.prog 100 2 4 := ⟨_, _, Try.underlying100, rfl, rfl, 0, Try.sizeOf3⟩
theorem st_100 : StructOf Try.prog 100 ((Try.t100.zero.getD undef).cells.toList) [(0, 1), (1, 3), (4, 1)] := ⟨_, Try.underlying100, fun w => by rw [Try.zeroValue100]; rfl, fun w => by simp [Try.sizeOf24, Try.sizeOf3]⟩
theorem so_102 : SliceOf Try.prog 102 132 2 := ⟨Try.underlying102, Try.sizeOf132⟩
theorem eo_102 : ElemOf Try.prog 102 132 2 (Try.t132.zero.getD undef) 16 := ⟨Try.underlying102, ⟨Try.t132, by kernel_rfl, rfl, rfl, rfl⟩, rfl, by decide⟩
theorem fo_105_0 : FieldOff Try.prog 105 0 0 := ⟨_, _, Try.underlying105, rfl, rfl, 0, Try.sizeOf3⟩
theorem fo_105_1 : FieldOff Try.prog 105 1 1 := ⟨_, _, Try.underlying105, rfl, rfl, 0, Try.sizeOf3⟩
theorem fo_105_2 : FieldOff Try.prog 105 2 2 := ⟨_, _, Try.underlying105, rfl, rfl, 0, Try.sizeOf3⟩
theorem fo_105_3 : FieldOff Try.prog 105 3 3 := ⟨_, _, Try.underlying105, rfl, rfl, 0, Try.sizeOf3⟩
theorem fo_105_4 : FieldOff Try.prog 105 4 4 := ⟨_, _, Try.underlying105, rfl, rfl, 2, Try.sizeOf24⟩
theorem st_105 : StructOf Try.prog 105 ((Try.t105.zero.getD undef).cells.toList) [(0, 1), (1, 1), (2, 1), (3, 1), (4, 3)] := ⟨_, Try.underlying105, fun w => by rw [Try.zeroValue105]; rfl, fun w => by simp [Try.sizeOf24, Try.sizeOf3]⟩
theorem fo_106_0 : FieldOff Try.prog 106 0 0 := ⟨_, _, Try.underlying106, rfl, rfl, 0, Try.sizeOf3⟩
theorem fo_106_1 : FieldOff Try.prog 106 1 1 := ⟨_, _, Try.underlying106, rfl, rfl, 0, Try.sizeOf3⟩
theorem fo_106_2 : FieldOff Try.prog 106 2 2 := ⟨_, _, Try.underlying106, rfl, rfl, 0, Try.sizeOf3⟩
theorem fo_106_3 : FieldOff Try.prog 106 3 3 := ⟨_, _, Try.underlying106, rfl, rfl, 0, Try.sizeOf3⟩
theorem fo_106_4 : FieldOff Try.prog 106 4 4 := ⟨_, _, Try.underlying106, rfl, rfl, 2, Try.sizeOf24⟩
theorem st_106 : StructOf Try.prog 106 ((Try.t106.zero.getD undef).cells.toList) [(0, 1), (1, 1), (2, 1), (3, 1), (4, 3)] := ⟨_, Try.underlying106, fun w => by rw [Try.zeroValue106]; rfl, fun w => by simp [Try.sizeOf24, Try.sizeOf3]⟩
theorem so_113 : SliceOf Try.prog 113 121 1 := ⟨Try.underlying113, Try.sizeOf121⟩
theorem eo_113 : ElemOf Try.prog 113 121 1 (Try.t121.zero.getD undef) 24 := ⟨Try.underlying113, ⟨Try.t121, by kernel_rfl, rfl, rfl, rfl⟩, rfl, by decide⟩
theorem so_121 : SliceOf Try.prog 121 24 3 := ⟨Try.underlying121, Try.sizeOf24⟩
theorem eo_121 : ElemOf Try.prog 121 24 3 (Try.t24.zero.getD undef) 24 := ⟨Try.underlying121, ⟨Try.t24, by kernel_rfl, rfl, rfl, rfl⟩, rfl, by decide⟩
theorem fo_131_0 : FieldOff Try.prog 131 0 0 := ⟨_, _, Try.underlying131, rfl, rfl, 0, Try.sizeOf26⟩
theorem fo_131_1 : FieldOff Try.prog 131 1 1 := ⟨_, _, Try.underlying131, rfl, rfl, 0, Try.sizeOf3⟩
theorem st_131 : StructOf Try.prog 131 ((Try.t131.zero.getD undef).cells.toList) [(0, 1), (1, 1)] := ⟨_, Try.underlying131, fun w => by rw [Try.zeroValue131]; rfl, fun w => by simp [Try.sizeOf26, Try.sizeOf3]⟩
theorem fo_132_0 : FieldOff Try.prog 132 0 0 := ⟨_, _, Try.underlying132, rfl, rfl, 0, Try.sizeOf26⟩
theorem fo_132_1 : FieldOff Try.prog 132 1 1 := ⟨_, _, Try.underlying132, rfl, rfl, 0, Try.sizeOf3⟩
theorem st_132 : StructOf Try.prog 132 ((Try.t132.zero.getD undef).cells.toList) [(0, 1), (1, 1)] := ⟨_, Try.underlying132, fun w => by rw [Try.zeroValue132]; rfl, fun w => by simp [Try.sizeOf26, Try.sizeOf3]⟩
theorem fo_139_0 : FieldOff Try.prog 139 0 0 := ⟨_, _, Try.underlying139, rfl, rfl, 0, Try.sizeOf3⟩
theorem fo_139_1 : FieldOff Try.prog 139 1 1 := ⟨_, _, Try.underlying139, rfl, rfl, 0, Try.sizeOf26⟩
theorem fo_139_2 : FieldOff Try.prog 139 2 2 := ⟨_, _, Try.underlying139, rfl, rfl, 0, Try.sizeOf4⟩
theorem st_139 : StructOf Try.prog 139 ((Try.t139.zero.getD undef).cells.toList) [(0, 1), (1, 1), (2, 1)] := ⟨_, Try.underlying139, fun w => by rw [Try.zeroValue139]; rfl, fun w => by simp [Try.sizeOf26, Try.sizeOf3, Try.sizeOf4]⟩
theorem fo_140_0 : FieldOff Try.prog 140 0 0 := ⟨_, _, Try.underlying140, rfl, rfl, 0, Try.sizeOf3⟩
theorem fo_140_1 : FieldOff Try.prog 140 1 1 := ⟨_, _, Try.underlying140, rfl, rfl, 0, Try.sizeOf26⟩
theorem fo_140_2 : FieldOff Try.prog 140 2 2 := ⟨_, _, Try.underlying140, rfl, rfl, 0, Try.sizeOf4⟩
theorem st_140 : StructOf Try.prog 140 ((Try.t140.zero.getD undef).cells.toList) [(0, 1), (1, 1), (2, 1)] := ⟨_, Try.underlying140, fun w => by rw [Try.zeroValue140]; rfl, fun w => by simp [Try.sizeOf26, Try.sizeOf3, Try.sizeOf4]⟩
theorem so_147 : SliceOf Try.prog 147 146 2 := ⟨Try.underlying147, Try.sizeOf146⟩
theorem eo_147 : ElemOf Try.prog 147 146 2 (Try.t146.zero.getD undef) 16 := ⟨Try.underlying147, ⟨Try.t146, by kernel_rfl, rfl, rfl, rfl⟩, rfl, by decide⟩
theorem fo_153_0 : FieldOff Try.prog 153 0 0 := ⟨_, _, Try.underlying153, rfl, rfl, 0, Try.sizeOf151⟩
theorem fo_153_1 : FieldOff Try.prog 153 1 1 := ⟨_, _, Try.underlying153, rfl, rfl, 0, Try.sizeOf3⟩
theorem fo_153_2 : FieldOff Try.prog 153 2 2 := ⟨_, _, Try.underlying153, rfl, rfl, 0, Try.sizeOf3⟩
theorem fo_153_3 : FieldOff Try.prog 153 3 3 := ⟨_, _, Try.underlying153, rfl, rfl, 0, Try.sizeOf69⟩
theorem st_153 : StructOf Try.prog 153 ((Try.t153.zero.getD undef).cells.toList) [(0, 1), (1, 1), (2, 1), (3, 1)] := ⟨_, Try.underlying153, fun w => by rw [Try.zeroValue153]; rfl, fun w => by simp [Try.sizeOf151, Try.sizeOf3, Try.sizeOf69]⟩
theorem fo_154_0 : FieldOff Try.prog 154 0 0 := ⟨_, _, Try.underlying154, rfl, rfl, 0, Try.sizeOf151⟩
theorem fo_154_1 : FieldOff Try.prog 154 1 1 := ⟨_, _, Try.underlying154, rfl, rfl, 0, Try.sizeOf3⟩
theorem fo_154_2 : FieldOff Try.prog 154 2 2 := ⟨_, _, Try.underlying154, rfl, rfl, 0, Try.sizeOf3⟩
theorem fo_154_3 : FieldOff Try.prog 154 3 3 := ⟨_, _, Try.underlying154, rfl, rfl, 0, Try.sizeOf69⟩
theorem st_154 : StructOf Try.prog 154 ((Try.t154.zero.getD undef).cells.toList) [(0, 1), (1, 1), (2, 1), (3, 1)] := ⟨_, Try.underlying154, fun w => by rw [Try.zeroValue154]; rfl, fun w => by simp [Try.sizeOf151, Try.sizeOf3, Try.sizeOf69]⟩
theorem fo_162_0 : FieldOff Try.prog 162 0 0 := ⟨_, _, Try.underlying162, rfl, rfl, 3, Try.sizeOf85⟩
theorem fo_162_1 : FieldOff Try.prog 162 1 4 := ⟨_, _, Try.underlying162, rfl, rfl, 0, Try.sizeOf3⟩
theorem fo_162_2 : FieldOff Try.prog 162 2 5 := ⟨_, _, Try.underlying162, rfl, rfl, 0, Try.sizeOf3⟩
theorem fo_162_3 : FieldOff Try.prog 162 3 6 := ⟨_, _, Try.underlying162, rfl, rfl, 0, Try.sizeOf69⟩
theorem fo_162_4 : FieldOff Try.prog 162 4 7 := ⟨_, _, Try.underlying162, rfl, rfl, 0, Try.sizeOf25⟩
theorem st_162 : StructOf Try.prog 162 ((Try.t162.zero.getD undef).cells.toList) [(0, 4), (4, 1), (5, 1), (6, 1), (7, 1)] := ⟨_, Try.underlying162, fun w => by rw [Try.zeroValue162]; rfl, fun w => by simp [Try.sizeOf25, Try.sizeOf3, Try.sizeOf69, Try.sizeOf85]⟩
theorem fo_163_0 : FieldOff Try.prog 163 0 0 := ⟨_, _, Try.underlying163, rfl, rfl, 3, Try.sizeOf85⟩
theorem fo_163_1 : FieldOff Try.prog 163 1 4 := ⟨_, _, Try.underlying163, rfl, rfl, 0, Try.sizeOf3⟩
theorem fo_163_2 : FieldOff Try.prog 163 2 5 := ⟨_, _, Try.underlying163, rfl, rfl, 0, Try.sizeOf3⟩
theorem fo_163_3 : FieldOff Try.prog 163 3 6 := ⟨_, _, Try.underlying163, rfl, rfl, 0, Try.sizeOf69⟩
theorem fo_163_4 : FieldOff Try.prog 163 4 7 := ⟨_, _, Try.underlying163, rfl, rfl, 0, Try.sizeOf25⟩
theorem st_163 : StructOf Try.prog 163 ((Try.t163.zero.getD undef).cells.toList) [(0, 4), (4, 1), (5, 1), (6, 1), (7, 1)] := ⟨_, Try.underlying163, fun w => by rw [Try.zeroValue163]; rfl, fun w => by simp [Try.sizeOf25, Try.sizeOf3, Try.sizeOf69, Try.sizeOf85]⟩
theorem fo_179_0 : FieldOff Try.prog 179 0 0 := ⟨_, _, Try.underlying179, rfl, rfl, 2, Try.sizeOf66⟩
theorem fo_179_1 : FieldOff Try.prog 179 1 3 := ⟨_, _, Try.underlying179, rfl, rfl, 0, Try.sizeOf113⟩
theorem fo_179_2 : FieldOff Try.prog 179 2 4 := ⟨_, _, Try.underlying179, rfl, rfl, 0, Try.sizeOf25⟩
theorem st_179 : StructOf Try.prog 179 ((Try.t179.zero.getD undef).cells.toList) [(0, 3), (3, 1), (4, 1)] := ⟨_, Try.underlying179, fun w => by rw [Try.zeroValue179]; rfl, fun w => by simp [Try.sizeOf113, Try.sizeOf25, Try.sizeOf66]⟩
theorem fo_180_0 : FieldOff Try.prog 180 0 0 := ⟨_, _, Try.underlying180, rfl, rfl, 2, Try.sizeOf66⟩
theorem fo_180_1 : FieldOff Try.prog 180 1 3 := ⟨_, _, Try.underlying180, rfl, rfl, 0, Try.sizeOf113⟩
theorem fo_180_2 : FieldOff Try.prog 180 2 4 := ⟨_, _, Try.underlying180, rfl, rfl, 0, Try.sizeOf25⟩
theorem st_180 : StructOf Try.prog 180 ((Try.t180.zero.getD undef).cells.toList) [(0, 3), (3, 1), (4, 1)] := ⟨_, Try.underlying180, fun w => by rw [Try.zeroValue180]; rfl, fun w => by simp [Try.sizeOf113, Try.sizeOf25, Try.sizeOf66]⟩
theorem so_194 : SliceOf Try.prog 194 66 3 := ⟨Try.underlying194, Try.sizeOf66⟩
theorem eo_194 : ElemOf Try.prog 194 66 3 (Try.t66.zero.getD undef) 72 := ⟨Try.underlying194, ⟨Try.t66, by kernel_rfl, rfl, rfl, rfl⟩, rfl, by decide⟩
theorem fo_202_0 : FieldOff Try.prog 202 0 0 := ⟨_, _, Try.underlying202, rfl, rfl, 0, Try.sizeOf201⟩
theorem fo_202_1 : FieldOff Try.prog 202 1 1 := ⟨_, _, Try.underlying202, rfl, rfl, 0, Try.sizeOf40⟩
theorem st_202 : StructOf Try.prog 202 ((Try.t202.zero.getD undef).cells.toList) [(0, 1), (1, 1)] := ⟨_, Try.underlying202, fun w => by rw [Try.zeroValue202]; rfl, fun w => by simp [Try.sizeOf201, Try.sizeOf40]⟩
theorem fo_203_0 : FieldOff Try.prog 203 0 0 := ⟨_, _, Try.underlying203, rfl, rfl, 0, Try.sizeOf201⟩
theorem fo_203_1 : FieldOff Try.prog 203 1 1 := ⟨_, _, Try.underlying203, rfl, rfl, 0, Try.sizeOf40⟩
theorem st_203 : StructOf Try.prog 203 ((Try.t203.zero.getD undef).cells.toList) [(0, 1), (1, 1)] := ⟨_, Try.underlying203, fun w => by rw [Try.zeroValue203]; rfl, fun w => by simp [Try.sizeOf201, Try.sizeOf40]⟩
theorem fo_204_0 : FieldOff Try.prog 204 0 0 := ⟨_, _, Try.underlying204, rfl, rfl, 1, Try.sizeOf203⟩
theorem st_204 : StructOf Try.prog 204 ((Try.t204.zero.getD undef).cells.toList) [(0, 2)] := ⟨_, Try.underlying204, fun w => by rw [Try.zeroValue204]; rfl, fun w => by simp [Try.sizeOf203]⟩
theorem fo_205_0 : FieldOff Try.prog 205 0 0 := ⟨_, _, Try.underlying205, rfl, rfl, 1, Try.sizeOf203⟩
theorem st_205 : StructOf Try.prog 205 ((Try.t205.zero.getD undef).cells.toList) [(0, 2)] := ⟨_, Try.underlying205, fun w => by rw [Try.zeroValue205]; rfl, fun w => by simp [Try.sizeOf203]⟩
theorem fo_220_0 : FieldOff Try.prog 220 0 0 := ⟨_, _, Try.underlying220, rfl, rfl, 0, Try.sizeOf17⟩
theorem fo_220_1 : FieldOff Try.prog 220 1 1 := ⟨_, _, Try.underlying220, rfl, rfl, 0, Try.sizeOf17⟩
theorem fo_220_2 : FieldOff Try.prog 220 2 2 := ⟨_, _, Try.underlying220, rfl, rfl, 0, Try.sizeOf17⟩
theorem fo_220_3 : FieldOff Try.prog 220 3 3 := ⟨_, _, Try.underlying220, rfl, rfl, 0, Try.sizeOf9⟩
theorem st_220 : StructOf Try.prog 220 ((Try.t220.zero.getD undef).cells.toList) [(0, 1), (1, 1), (2, 1), (3, 1)] := ⟨_, Try.underlying220, fun w => by rw [Try.zeroValue220]; rfl, fun w => by simp [Try.sizeOf17, Try.sizeOf9]⟩
theorem fo_221_0 : FieldOff Try.prog 221 0 0 := ⟨_, _, Try.underlying221, rfl, rfl, 0, Try.sizeOf17⟩
theorem fo_221_1 : FieldOff Try.prog 221 1 1 := ⟨_, _, Try.underlying221, rfl, rfl, 0, Try.sizeOf17⟩
theorem fo_221_2 : FieldOff Try.prog 221 2 2 := ⟨_, _, Try.underlying221, rfl, rfl, 0, Try.sizeOf17⟩
theorem fo_221_3 : FieldOff Try.prog 221 3 3 := ⟨_, _, Try.underlying221, rfl, rfl, 0, Try.sizeOf9⟩
theorem st_221 : StructOf Try.prog 221 ((Try.t221.zero.getD undef).cells.toList) [(0, 1), (1, 1), (2, 1), (3, 1)] := ⟨_, Try.underlying221, fun w => by rw [Try.zeroValue221]; rfl, fun w => by simp [Try.sizeOf17, Try.sizeOf9]⟩
theorem fo_231_0 : FieldOff Try.prog 231 0 0 := ⟨_, _, Try.underlying231, rfl, rfl, 0, Try.sizeOf12⟩
theorem fo_231_1 : FieldOff Try.prog 231 1 1 := ⟨_, _, Try.underlying231, rfl, rfl, 0, Try.sizeOf12⟩
theorem fo_231_2 : FieldOff Try.prog 231 2 2 := ⟨_, _, Try.underlying231, rfl, rfl, 0, Try.sizeOf214⟩
theorem fo_231_3 : FieldOff Try.prog 231 3 3 := ⟨_, _, Try.underlying231, rfl, rfl, 0, Try.sizeOf226⟩
theorem fo_231_4 : FieldOff Try.prog 231 4 4 := ⟨_, _, Try.underlying231, rfl, rfl, 0, Try.sizeOf5⟩
theorem fo_231_5 : FieldOff Try.prog 231 5 5 := ⟨_, _, Try.underlying231, rfl, rfl, 0, Try.sizeOf5⟩
theorem fo_231_6 : FieldOff Try.prog 231 6 6 := ⟨_, _, Try.underlying231, rfl, rfl, 0, Try.sizeOf227⟩
theorem fo_231_7 : FieldOff Try.prog 231 7 7 := ⟨_, _, Try.underlying231, rfl, rfl, 0, Try.sizeOf228⟩
theorem fo_231_8 : FieldOff Try.prog 231 8 8 := ⟨_, _, Try.underlying231, rfl, rfl, 0, Try.sizeOf217⟩
theorem fo_231_9 : FieldOff Try.prog 231 9 9 := ⟨_, _, Try.underlying231, rfl, rfl, 0, Try.sizeOf229⟩
theorem fo_231_10 : FieldOff Try.prog 231 10 10 := ⟨_, _, Try.underlying231, rfl, rfl, 0, Try.sizeOf230⟩
theorem st_231 : StructOf Try.prog 231 ((Try.t231.zero.getD undef).cells.toList) [(0, 1), (1, 1), (2, 1), (3, 1), (4, 1), (5, 1), (6, 1), (7, 1), (8, 1), (9, 1), (10, 1)] := ⟨_, Try.underlying231, fun w => by rw [Try.zeroValue231]; rfl, fun w => by simp [Try.sizeOf12, Try.sizeOf214, Try.sizeOf217, Try.sizeOf226, Try.sizeOf227, Try.sizeOf228, Try.sizeOf229, Try.sizeOf230, Try.sizeOf5]⟩
theorem fo_232_0 : FieldOff Try.prog 232 0 0 := ⟨_, _, Try.underlying232, rfl, rfl, 0, Try.sizeOf12⟩
theorem fo_232_1 : FieldOff Try.prog 232 1 1 := ⟨_, _, Try.underlying232, rfl, rfl, 0, Try.sizeOf12⟩
theorem fo_232_2 : FieldOff Try.prog 232 2 2 := ⟨_, _, Try.underlying232, rfl, rfl, 0, Try.sizeOf214⟩
theorem fo_232_3 : FieldOff Try.prog 232 3 3 := ⟨_, _, Try.underlying232, rfl, rfl, 0, Try.sizeOf226⟩
theorem fo_232_4 : FieldOff Try.prog 232 4 4 := ⟨_, _, Try.underlying232, rfl, rfl, 0, Try.sizeOf5⟩
theorem fo_232_5 : FieldOff Try.prog 232 5 5 := ⟨_, _, Try.underlying232, rfl, rfl, 0, Try.sizeOf5⟩
theorem fo_232_6 : FieldOff Try.prog 232 6 6 := ⟨_, _, Try.underlying232, rfl, rfl, 0, Try.sizeOf227⟩
theorem fo_232_7 : FieldOff Try.prog 232 7 7 := ⟨_, _, Try.underlying232, rfl, rfl, 0, Try.sizeOf228⟩
theorem fo_232_8 : FieldOff Try.prog 232 8 8 := ⟨_, _, Try.underlying232, rfl, rfl, 0, Try.sizeOf217⟩
theorem fo_232_9 : FieldOff Try.prog 232 9 9 := ⟨_, _, Try.underlying232, rfl, rfl, 0, Try.sizeOf229⟩
theorem fo_232_10 : FieldOff Try.prog 232 10 10 := ⟨_, _, Try.underlying232, rfl, rfl, 0, Try.sizeOf230⟩
theorem st_232 : StructOf Try.prog 232 ((Try.t232.zero.getD undef).cells.toList) [(0, 1), (1, 1), (2, 1), (3, 1), (4, 1), (5, 1), (6, 1), (7, 1), (8, 1), (9, 1), (10, 1)] := ⟨_, Try.underlying232, fun w => by rw [Try.zeroValue232]; rfl, fun w => by simp [Try.sizeOf12, Try.sizeOf214, Try.sizeOf217, Try.sizeOf226, Try.sizeOf227, Try.sizeOf228, Try.sizeOf229, Try.sizeOf230, Try.sizeOf5]⟩
theorem mixed : Try.prog.follows .mixedOrders = true := by kernel_rfl
end Go.Proofs.Ytfdkkncmpjbkbaa
