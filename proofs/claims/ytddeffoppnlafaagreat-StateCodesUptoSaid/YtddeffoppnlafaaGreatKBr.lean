/- What the claims share. Conditions: none. -/
import Derived.Test.YtddeffoppnlafaaGreatKPz
import Derived.Test.YtddeffoppnlafaaGreatKTEr
import Derived.Test.YtddeffoppnlafaaGreatKCk
import Derived.Test.YtddeffoppnlafaaGreatKCrd
import Derived.Test.YtddeffoppnlafaaGreatKCr0
import Derived.Test.YtddeffoppnlafaaGreatKCr1
import Derived.Test.YtddeffoppnlafaaGreatKCr2
import Derived.Test.YtddeffoppnlafaaGreatKCr3
import Derived.Test.YtddeffoppnlafaaGreatKCr4
import Derived.Test.YtddeffoppnlafaaGreatKCr5
import Derived.Test.YtddeffoppnlafaaGreatKCr6
import Derived.Test.YtddeffoppnlafaaGreatKCr7
import Derived.Test.YtddeffoppnlafaaGreatRows
import Derived.JoinedCond
import Derived.Deep.CondSized
open Go Go.aK Go.fb Go.Proofs Go.ChangeShapes Go.WideShapes Go.ChangeAt Go.WideMaps Go.WideElems Go.RowKit
namespace Go.Proofs.YtddeffoppnlafaaGreat
theorem own:ownKnob Tryz.prog.godebug=none:=by kernel_rfl
theorem kids:Kids Tryz.prog (· < Tryz.prog.types.size):=kids_rows (by kernel_rfl) (by kernel_rfl)
theorem full: ∀t e,t<Tryz.prog.types.size→Tryz.prog.underlying t=some (.slice e)→0<Tryz.prog.cellsOf e:=slices_full_of Tryz.prog (by kernel_rfl)
theorem QM{H:Type}: ∀(l r:List (DataW H)),Rows.uptoBulkAll l≤Rows.uptoBulkAll (l++r)
 |[],_=>by simp[Rows.uptoBulkAll]
 |x::l,r=>by
  have:=QM l r
  simp only[List.cons_append,Rows.uptoBulkAll];omega
theorem YV:eF cZ kj 6 D4:=fun x _=>fw.true YW rfl rfl rfl rfl x trivial
theorem YX:c0 kj 42 30:=YY QN YV
theorem YZ{W:World}:o4 W (ma W) kj:=fun g cs h=>by cases h
end Go.Proofs.YtddeffoppnlafaaGreat
