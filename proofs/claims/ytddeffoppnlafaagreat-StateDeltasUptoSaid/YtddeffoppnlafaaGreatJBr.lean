/- Conditions: none. -/
import Derived.Test.YtddeffoppnlafaaGreatJPz
import Derived.Test.YtddeffoppnlafaaGreatJTEr
import Derived.Test.YtddeffoppnlafaaGreatJCk
import Derived.Test.YtddeffoppnlafaaGreatJCrd
import Derived.Test.YtddeffoppnlafaaGreatJCr0
import Derived.Test.YtddeffoppnlafaaGreatJCr1
import Derived.Test.YtddeffoppnlafaaGreatJCr2
import Derived.Test.YtddeffoppnlafaaGreatJCr3
import Derived.Test.YtddeffoppnlafaaGreatJCr4
import Derived.Test.YtddeffoppnlafaaGreatJCr5
import Derived.Test.YtddeffoppnlafaaGreatJCr6
import Derived.Test.YtddeffoppnlafaaGreatJCr7
import Derived.Test.YtddeffoppnlafaaGreatRows
import Derived.JoinedCond
import Derived.Deep.CondSized
open Go Go.aH Go.eT Go.Proofs Go.ChangeShapes Go.WideShapes Go.ChangeAt Go.WideMaps Go.WideElems Go.RowKit
namespace Go.Proofs.YtddeffoppnlafaaGreat
theorem own:ownKnob Tryz.prog.godebug=none:=by kernel_rfl
theorem kids:Kids Tryz.prog (· < Tryz.prog.types.size):=kids_rows (by kernel_rfl) (by kernel_rfl)
theorem full: ∀t e,t<Tryz.prog.types.size->Tryz.prog.underlying t=some (.slice e)->0<Tryz.prog.cellsOf e:=slices_full_of Tryz.prog (by kernel_rfl)
theorem Ts{H:Type}: ∀(l r:List (DataW H)),Rows.uptoBulkAll l<=Rows.uptoBulkAll (l++r)
 |[],_=>by simp[Rows.uptoBulkAll]|x::l,r=>by
  have:=Ts l r;simp only[List.cons_append,Rows.uptoBulkAll];omega
theorem zc0:eU c2 lq 6 LS:=λx _=>fV.true zc1 rfl rfl rfl rfl x trivial
theorem zc2:c3 lq 44 30:=zc3 Tt zc0
theorem zc4{W:World}:qI W (nE W) lq:=λg cs h=>by cases h
end Go.Proofs.YtddeffoppnlafaaGreat
