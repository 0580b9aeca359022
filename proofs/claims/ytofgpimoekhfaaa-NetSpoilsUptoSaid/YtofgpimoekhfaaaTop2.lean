/- This file proves how the arguments of this program read as its lists and structs. No conditions. -/
import Derived.Test.YtofgpimoekhfaaaFacts
import Derived.KernelRfl
import Derived.Test.YtofgpimoekhfaaaTop
import Derived.Test.YtofgpimoekhfaaaFlat
set_option linter.unusedVariables false
set_option linter.unusedSimpArgs false
set_option maxHeartbeats 1000000
namespace Go.Proofs.Ytofgpimoekhfaaa
open Go Go.ChangeShapes Go.WideShapes Go.ChangeAt Go.RowKit
theorem laid_out : laidOutB Try.prog = true := by kernel_rfl
theorem kids : Kids Try.prog (· < Try.prog.types.size) := kids_rows laid_out (by kernel_rfl)
theorem full : ∀ t e, t < Try.prog.types.size → Try.prog.underlying t = some (.slice e) → 0 < Try.prog.cellsOf e := slices_full_of Try.prog (by kernel_rfl)
theorem own : ownKnob Try.prog.godebug = none := by kernel_rfl
theorem co_3 : Try.prog.cellsOf 3 = 1 := by kernel_rfl
theorem co_4 : Try.prog.cellsOf 4 = 1 := by kernel_rfl
theorem co_5 : Try.prog.cellsOf 5 = 1 := by kernel_rfl
theorem reads_3 : Reads Try.prog Int 3 := reads_int Try.underlying3
theorem reads_4 : Reads Try.prog Bool 4 := reads_bool Try.underlying4
theorem reads_5 : Reads Try.prog UInt8 5 := reads_byte Try.underlying5
theorem co_39 : Try.prog.cellsOf 39 = 2 := by kernel_rfl
theorem reads_39 : Reads Try.prog Config 39 := by
  intro H enc W sp held fuel cs d ps h hb
  obtain ⟨hl, hf⟩ := fields_of Try.underlying39 co_39 h hb
  obtain ⟨x0, h0, w0⟩ := (hf 0 _ rfl).int Try.underlying3 co_3
  obtain ⟨x1, h1, w1⟩ := (hf 1 _ rfl).int Try.underlying3 co_3
  exact ⟨⟨x0, x1⟩, len2 hl h0 h1, w0, w1⟩
theorem co_66 : Try.prog.cellsOf 66 = 3 := by kernel_rfl
theorem reads_66 : Reads Try.prog Op 66 := by
  intro H enc W sp held fuel cs d ps h hb
  obtain ⟨hl, hf⟩ := fields_of Try.underlying66 co_66 h hb
  obtain ⟨x0, h0, w0⟩ := (hf 0 _ rfl).int Try.underlying3 co_3
  obtain ⟨x1, h1, w1⟩ := (hf 1 _ rfl).int Try.underlying3 co_3
  obtain ⟨x2, h2, w2⟩ := (hf 2 _ rfl).int Try.underlying3 co_3
  exact ⟨⟨x0, x1, x2⟩, len3 hl h0 h1 h2, w0, w1, w2⟩
theorem co_42 : Try.prog.cellsOf 42 = 8 := by kernel_rfl
theorem reads_42 : Reads Try.prog Msg 42 := by
  intro H enc W sp held fuel cs d ps h hb
  obtain ⟨hl, hf⟩ := fields_of Try.underlying42 co_42 h hb
  obtain ⟨x0, h0, w0⟩ := (hf 0 _ rfl).int Try.underlying3 co_3
  obtain ⟨x1, h1, w1⟩ := (hf 1 _ rfl).int Try.underlying3 co_3
  obtain ⟨x2, h2, w2⟩ := (hf 2 _ rfl).int Try.underlying3 co_3
  obtain ⟨x3, h3, w3⟩ := (hf 3 _ rfl).int Try.underlying3 co_3
  obtain ⟨x4, h4, w4⟩ := (hf 4 _ rfl).int Try.underlying3 co_3
  obtain ⟨x5, h5, w5⟩ := (hf 5 _ rfl).int Try.underlying3 co_3
  obtain ⟨x6, h6, w6⟩ := (hf 6 _ rfl).int Try.underlying3 co_3
  obtain ⟨x7, h7⟩ := (hf 7 _ rfl).bool Try.underlying4 co_4
  exact ⟨⟨x0, x1, x2, x3, x4, x5, x6, x7⟩, len8 hl h0 h1 h2 h3 h4 h5 h6 h7, w0, w1, w2, w3, w4, w5, w6⟩
theorem co_84 : Try.prog.cellsOf 84 = 5 := by kernel_rfl
theorem reads_84 : Reads Try.prog Done 84 := by
  intro H enc W sp held fuel cs d ps h hb
  obtain ⟨hl, hf⟩ := fields_of Try.underlying84 co_84 h hb
  obtain ⟨x0, h0, w0⟩ := (hf 0 _ rfl).int Try.underlying3 co_3
  obtain ⟨x1, m1, g1, w1⟩ := FT.sub (α := Op) reads_66 co_66 (hf 1 _ rfl)
  obtain ⟨h1a, h1b, h1c⟩ := op_mid g1
  obtain ⟨x2, h2, w2⟩ := (hf 2 _ rfl).int Try.underlying3 co_3
  exact ⟨⟨x0, x1, x2⟩, len5 hl h0 h1a h1b h1c h2, w0, w1.1, w1.2.1, w1.2.2, w2⟩
theorem co_98 : Try.prog.cellsOf 98 = 7 := by kernel_rfl
theorem reads_98 : Reads Try.prog Step 98 := by
  intro H enc W sp held fuel cs d ps h hb
  obtain ⟨hl, hf⟩ := fields_of Try.underlying98 co_98 h hb
  obtain ⟨x0, h0, w0⟩ := (hf 0 _ rfl).int Try.underlying3 co_3
  obtain ⟨x1, h1, w1⟩ := (hf 1 _ rfl).int Try.underlying3 co_3
  obtain ⟨x2, h2, w2⟩ := (hf 2 _ rfl).int Try.underlying3 co_3
  obtain ⟨x3, h3, w3⟩ := (hf 3 _ rfl).int Try.underlying3 co_3
  obtain ⟨x4, m4, g4, w4⟩ := FT.sub (α := Op) reads_66 co_66 (hf 4 _ rfl)
  obtain ⟨h4a, h4b, h4c⟩ := op_mid g4
  exact ⟨⟨x0, x1, x2, x3, x4⟩, len7 hl h0 h1 h2 h3 h4a h4b h4c, w0, w1, w2, w3, w4.1, w4.2.1, w4.2.2⟩
theorem reads_56 : Reads Try.prog (List (Int)) 56 := reads_slice Try.underlying56 co_3 (by decide) reads_3
theorem co_56 : Try.prog.cellsOf 56 = 1 := by kernel_rfl
theorem reads_23 : Reads Try.prog (List (UInt8)) 23 := reads_slice Try.underlying23 co_5 (by decide) reads_5
theorem co_23 : Try.prog.cellsOf 23 = 1 := by kernel_rfl
theorem reads_22 : Reads Try.prog (List (List UInt8)) 22 := reads_slice Try.underlying22 co_23 (by decide) reads_23
theorem co_22 : Try.prog.cellsOf 22 = 1 := by kernel_rfl
theorem reads_47 : Reads Try.prog (List (Done)) 47 := reads_slice Try.underlying47 co_84 (by decide) reads_84
theorem co_47 : Try.prog.cellsOf 47 = 1 := by kernel_rfl
theorem reads_40 : Reads Try.prog (List (Step)) 40 := reads_slice Try.underlying40 co_98 (by decide) reads_98
theorem co_40 : Try.prog.cellsOf 40 = 1 := by kernel_rfl
end Go.Proofs.Ytofgpimoekhfaaa
