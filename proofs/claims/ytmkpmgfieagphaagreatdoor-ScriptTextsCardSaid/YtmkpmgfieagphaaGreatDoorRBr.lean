/- What the claims share. Conditions: none. -/
import Derived.Test.YtmkpmgfieagphaaGreatDoorRTEk
import Derived.Test.YtmkpmgfieagphaaGreatDoorRPz
import Derived.Test.YtmkpmgfieagphaaGreatDoorRPg
import Derived.Test.YtmkpmgfieagphaaGreatDoorRows
import Derived.Lib.LaidTab
import Derived.SevenTiedAt
import Derived.Stop.LaidErr
open Go Go.aM Go.ed Go.Proofs Go.ChangeShapes Go.WideShapes Go.ChangeAt Go.WideMaps Go.WideElems Go.RowKit
namespace Go.Proofs.YtmkpmgfieagphaaGreatDoor
theorem own:ownKnob Tryz.prog.godebug=none:=by kernel_rfl
theorem kids:Kids Tryz.prog (· < Tryz.prog.types.size):=kids_rows (by kernel_rfl) (by kernel_rfl)
theorem full: ∀t e,t<Tryz.prog.types.size→Tryz.prog.underlying t=some (.slice e)→0<Tryz.prog.cellsOf e:=slices_full_of Tryz.prog (by kernel_rfl)
def u9:List (String × DataW Unit):=Rows.scriptPrintsRow.laid
theorem SH(os:Os)(args:Array Value):laidMetH Tryz.prog u9 ((World.doorLaid Tryz.prog 400 os).forCall (fun _ _=>0) ⟨#[],args,[]⟩).memory:=
 laidMetH_of_parts3 (fuel:=8) (laidMet_of_run' 8 (by kernel_rfl) (by kernel_rfl)) (by kernel_rfl) (by kernel_rfl)
theorem SI{W:World}(h:laidMetH Tryz.prog u9 W):Lib.TabIs Tryz.prog W (Rows.scriptPrintsRow.laid.getD 2 ("",.nil)).1 .u64 Lib.pow10Tab:=by
 rw[MakeChecks.laidMetH_plain _ _ _ (by kernel_rfl)]at h
 have ad:=laidMet.tail (laidMet.tail h)
 exact Lib.tabIs_of_head (g:=2) (t:=328) (e:=63) (n:=20) (by kernel_rfl) (by kernel_rfl) (by kernel_rfl) (by kernel_rfl) (by kernel_rfl) (by kernel_rfl) (rest:=[]) ad
def Aw:a7:=fun g=>match Nat.beq g 2 with
 |true=>some (Lib.pow10Tab.map fun z=>bh.v (.int .u64 z))
 |false=>none
theorem SJ{W:World}(h:laidMetH Tryz.prog u9 W):p6 W (lX W) Aw:=by
 have aG:=SI h
 unfold Lib.TabIs World.var? at aG
 rw[show Tryz.prog.globalNamed (Rows.scriptPrintsRow.laid.getD 2 ("",.nil)).1=some 2 by kernel_rfl]at aG
 simp only[Option.bind_some]at aG
 intro g cs ah
 unfold Aw at ah
 split at ah
 ·rename_i ae
  cases ah;obtain rfl:=Nat.eq_of_beq_eq_true ae
  split at aG
  ·rename_i arr t p7 aX
   cases aG
   have bB:2<W.heap.size:=(Array.getElem?_eq_some_iff.1 aX).1
   refine⟨.ptr _ _ (fun j=>.int .u64 (Lib.pow10Tab.getD j 0)) (fun j x ai=>⟨bB,?_⟩) (fun j x ai=>?_),bB,_,t,p7,aX,by simp⟩
   ·have dT:j<Lib.pow10Tab.length:=by have:=(List.getElem?_eq_some_iff.1 ai).1;simpa using this
    rw[addLit,Nat.zero_add,cell_of_row W 2 j _ t p7 aX];simp[List.getD,dT]
   ·have dT:j<Lib.pow10Tab.length:=by have:=(List.getElem?_eq_some_iff.1 ai).1;simpa using this
    rw[List.getElem?_map,List.getElem?_eq_getElem dT]at ai
    cases ai;simp only[List.getD,List.getElem?_eq_getElem dT,Option.getD_some]
    exact .v _ rfl
  ·cases aG
 ·cases ah
end Go.Proofs.YtmkpmgfieagphaaGreatDoor
