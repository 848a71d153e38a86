/- From the arguments of the statements to structures. Conditions: none. -/
import Derived.Test.YtnnlaccdendkpaaVA1
import Derived.Test.YtnnlaccdendkpaaVMy
import Derived.Test.YtnnlaccdendkpaaRows
namespace Go.Proofs.Ytnnlaccdendkpaa
open Go Go.Av Go.Hh Go.Proofs Go.ChangeShapes Go.WideShapes Go.ChangeAt Go.WideMaps Go.WideElems Go.RowKit
set_option maxRecDepth 100000
set_option maxHeartbeats 4000000
theorem own : ownKnob Try.prog.godebug = none := by kernel_rfl
theorem kids : Kids Try.prog (· < Try.prog.types.size) := kids_rows (by kernel_rfl) (by kernel_rfl)
theorem full : ∀ t e, t < Try.prog.types.size → Try.prog.underlying t = some (.slice e) → 0 < Try.prog.cellsOf e := slices_full_of Try.prog (by kernel_rfl)
theorem glob_met {W : World} : GRel W (allRo W) G_ := fun _ _ h => by cases h
end Go.Proofs.Ytnnlaccdendkpaa
