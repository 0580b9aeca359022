/- This file proves how the arguments of this program read as its lists and structs. No conditions. -/
import Derived.Test.YthnokijkdobdfaaFacts
import Derived.KernelRfl
import Derived.Test.YthnokijkdobdfaaTop
import Derived.Test.YthnokijkdobdfaaFlat
set_option linter.unusedVariables false
set_option linter.unusedSimpArgs false
set_option maxHeartbeats 1000000
namespace Go.Proofs.Ythnokijkdobdfaa
open Go Go.ChangeShapes Go.WideShapes Go.ChangeAt Go.RowKit
theorem laid_out : laidOutB Try.prog = true := by kernel_rfl
theorem kids : Kids Try.prog (· < Try.prog.types.size) := kids_rows laid_out (by kernel_rfl)
theorem full : ∀ t e, t < Try.prog.types.size → Try.prog.underlying t = some (.slice e) → 0 < Try.prog.cellsOf e := slices_full_of Try.prog (by kernel_rfl)
theorem own : ownKnob Try.prog.godebug = none := by kernel_rfl
theorem co_3 : Try.prog.cellsOf 3 = 1 := by kernel_rfl
theorem co_4 : Try.prog.cellsOf 4 = 1 := by kernel_rfl
theorem co_5 : Try.prog.cellsOf 5 = 1 := by kernel_rfl
theorem reads_3 : Reads Try.prog Int 3 := reads_int Try.underlying3
theorem reads_4 : Reads Try.prog Bool 4 := reads_bool Try.underlying4
theorem reads_5 : Reads Try.prog UInt8 5 := reads_byte Try.underlying5
theorem reads_24 : Reads Try.prog (List (Int)) 24 := reads_slice Try.underlying24 co_3 (by decide) reads_3
theorem co_24 : Try.prog.cellsOf 24 = 1 := by kernel_rfl
end Go.Proofs.Ythnokijkdobdfaa
