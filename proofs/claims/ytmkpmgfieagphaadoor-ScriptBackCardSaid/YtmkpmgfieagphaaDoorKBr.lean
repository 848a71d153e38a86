/- What the claims share. Conditions: none. -/
import Derived.Test.YtmkpmgfieagphaaDoorKTEk
import Derived.Test.YtmkpmgfieagphaaDoorKPz
import Derived.Test.YtmkpmgfieagphaaDoorKPg
import Derived.Test.YtmkpmgfieagphaaDoorRows
import Derived.Lib.LaidTab
import Derived.SevenTiedAt
import Derived.Stop.LaidErr
open Go Go.aG Go.du Go.Proofs Go.ChangeShapes Go.WideShapes Go.ChangeAt Go.WideMaps Go.WideElems Go.RowKit
namespace Go.Proofs.YtmkpmgfieagphaaDoor
theorem own:ownKnob Tryd.prog.godebug=none:=by kernel_rfl
theorem kids:Kids Tryd.prog (· < Tryd.prog.types.size):=kids_rows (by kernel_rfl) (by kernel_rfl)
theorem full: ∀t e,t<Tryd.prog.types.size→Tryd.prog.underlying t=some (.slice e)→0<Tryd.prog.cellsOf e:=slices_full_of Tryd.prog (by kernel_rfl)
def sM:List (String × DataW Unit):=Rows.scriptBackRow.laid
theorem Ow(os:Os)(args:Array Value):laidMetH Tryd.prog sM ((World.doorLaid Tryd.prog 400 os).forCall (fun _ _=>0) ⟨#[],args,[]⟩).memory:=
 laidMetH_of_parts3 (fuel:=8) (laidMet_of_run' 8 (by kernel_rfl) (by kernel_rfl)) (by kernel_rfl) (by kernel_rfl)
theorem Ox{W:World}(h:laidMetH Tryd.prog sM W):Lib.TabIs Tryd.prog W (Rows.scriptBackRow.laid.getD 2 ("",.nil)).1 .u64 Lib.pow10Tab:=by
 rw[MakeChecks.laidMetH_plain _ _ _ (by kernel_rfl)]at h
 have af:=laidMet.tail (laidMet.tail h)
 exact Lib.tabIs_of_head (g:=1) (t:=126) (e:=103) (n:=20) (by kernel_rfl) (by kernel_rfl) (by kernel_rfl) (by kernel_rfl) (by kernel_rfl) (by kernel_rfl) (rest:=[]) af
def yf:aY:=fun g=>match Nat.beq g 1 with
 |true=>some (Lib.pow10Tab.map fun z=>ba.v (.int .u64 z))
 |false=>none
theorem Oy{W:World}(h:laidMetH Tryd.prog sM W):oN W (kR W) yf:=by
 have aB:=Ox h
 unfold Lib.TabIs World.var? at aB
 rw[show Tryd.prog.globalNamed (Rows.scriptBackRow.laid.getD 2 ("",.nil)).1=some 1 by kernel_rfl]at aB
 simp only[Option.bind_some]at aB
 intro g cs ag
 unfold yf at ag
 split at ag
 ·rename_i ad
  cases ag;obtain rfl:=Nat.eq_of_beq_eq_true ad
  split at aB
  ·rename_i arr t oO aV
   cases aB
   have bz:1<W.heap.size:=(Array.getElem?_eq_some_iff.1 aV).1
   refine⟨.ptr _ _ (fun j=>.int .u64 (Lib.pow10Tab.getD j 0)) (fun j x ai=>⟨bz,?_⟩) (fun j x ai=>?_),bz,_,t,oO,aV,by simp⟩
   ·have dv:j<Lib.pow10Tab.length:=by have:=(List.getElem?_eq_some_iff.1 ai).1;simpa using this
    rw[addLit,Nat.zero_add,cell_of_row W 1 j _ t oO aV];simp[List.getD,dv]
   ·have dv:j<Lib.pow10Tab.length:=by have:=(List.getElem?_eq_some_iff.1 ai).1;simpa using this
    rw[List.getElem?_map,List.getElem?_eq_getElem dv]at ai
    cases ai;simp only[List.getD,List.getElem?_eq_getElem dv,Option.getD_some]
    exact .v _ rfl
  ·cases aB
 ·cases ag
end Go.Proofs.YtmkpmgfieagphaaDoor
