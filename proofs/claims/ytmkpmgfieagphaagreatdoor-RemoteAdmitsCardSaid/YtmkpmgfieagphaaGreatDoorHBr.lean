/- What the claims share. Conditions: none. -/
import Derived.Test.YtmkpmgfieagphaaGreatDoorHTEk
import Derived.Test.YtmkpmgfieagphaaGreatDoorHPk
import Derived.Test.YtmkpmgfieagphaaGreatDoorRows
import Derived.Lib.LaidTab
import Derived.SevenTiedAt
import Derived.Stop.LaidErr
open Go Go.aN Go.eg Go.Proofs Go.ChangeShapes Go.WideShapes Go.ChangeAt Go.WideMaps Go.WideElems Go.RowKit
namespace Go.Proofs.YtmkpmgfieagphaaGreatDoor
theorem own:ownKnob Tryz.prog.godebug=none:=by kernel_rfl
theorem kids:Kids Tryz.prog (· < Tryz.prog.types.size):=kids_rows (by kernel_rfl) (by kernel_rfl)
theorem full: ∀t e,t<Tryz.prog.types.size→Tryz.prog.underlying t=some (.slice e)→0<Tryz.prog.cellsOf e:=slices_full_of Tryz.prog (by kernel_rfl)
def yV:List (String × DataW Unit):=Rows.remoteChecksRow.laid
theorem Xt(os:Os)(args:Array Value):laidMetH Tryz.prog yV ((World.doorLaid Tryz.prog 400 os).forCall (fun _ _=>0) ⟨#[],args,[]⟩).memory:=
 laidMetH_of_parts3 (fuel:=8) (laidMet_of_run' 8 (by kernel_rfl) (by kernel_rfl)) (by kernel_rfl) (by kernel_rfl)
theorem Xu:Tryz.prog.globalNamed "homehub/cluster.standard" =some 0:=by kernel_rfl
theorem Xv:(Tryz.prog.globals[0]?).map (·.type)=some 249:=by kernel_rfl
def Cv:List ba:=l6.map fun s=>ba.v (.string s)
def yW:bc:=fun g=>match Nat.beq g 0 with
 |true=>some Cv
 |false=>none
theorem Xw:Xx yW:=rfl
theorem Xy{W:World}(h:laidMetH Tryz.prog yV W):so W (l7 W) yW:=by
 rw[MakeChecks.laidMetH_plain _ _ _ (by kernel_rfl)]at h
 obtain⟨ps,⟨g0,t0,ly,f0,zlI,pT,yX,Xz,oD,oE,_,_⟩,_,_⟩:=h
 obtain rfl:=Option.some.inj (Xu.symm.trans yX)
 obtain rfl:=Option.some.inj (Xv.symm.trans Xz)
 obtain⟨l,dR,hd⟩:=XA kids (of_decide_eq_true (by kernel_rfl)) (n:=8) (e:=9) (by kernel_rfl) (by kernel_rfl) (by kernel_rfl) oE
 have aq:l=l6:=by
  have aa:(l6.map fun s=>(DataW.lit (H:=Unit) (.string s.data.toList)))=l.map fun s=>.lit (.string s.data.toList):=by
   have:(DataW.agg (H:=Unit) (l6.map fun s=>.lit (.string s.data.toList)))= .agg (l.map fun s=>.lit (.string s.data.toList)):=by rw[←hd];rfl
   simpa using this
  exact(XB aa).symm
 subst aq
 intro g cs ah
 unfold yW at ah
 split at ah
 ·rename_i ad
  obtain rfl:=Nat.eq_of_beq_eq_true ad;simp only[Option.some.injEq]at ah;subst ah
  have cell: ∀j,j<8→W.cell? ⟨0,j,none⟩=some (ly.getD j undef):=fun j cW=>by
   have aa:=World.var?_cell yX oD j
   rw[aa]
   have:j<ly.size:=by have:=congrArg List.length dR;simp at this;rw[this];exact cW
   simp[this]
  refine⟨.ptr Cv ⟨0,0,none⟩ (fun j=>ly.getD j undef) (fun j x af=>?_) (fun j x af=>?_),?_⟩
  ·have cW:j<8:=(List.getElem?_eq_some_iff.1 af).1
   rw[addLit,Nat.zero_add];exact⟨show(0:Nat)<W.heap.size from Qa (a:=⟨0,j,none⟩) (cell j cW),cell j cW⟩
  ·have cW:j<8:=(List.getElem?_eq_some_iff.1 af).1
   have ae:ly[j]? =(l6.map Value.string)[j]? :=by rw[←dR];simp
   have aR:Cv[j]? =(l6.map fun s=>ba.v (.string s))[j]? :=rfl
   rw[aR,List.getElem?_map]at af
   rw[List.getElem?_map]at ae
   cases ai:l6[j]? with
   |none=>rw[ai]at af;cases af
   |some s=>
    rw[ai]at af ae;simp only[Option.map_some,Option.some.injEq]at af ae;subst af;rw[Array.getD_eq_getD_getElem?,ae];exact .v _ rfl
  ·unfold World.var? at oD
   rw[yX]at oD;simp only[Option.bind_some]at oD
   split at oD
   ·rename_i arr t tT a6
    cases oD;exact⟨(Array.getElem?_eq_some_iff.1 a6).1,_,t,tT,a6,by have:=congrArg List.length dR;simpa[Cv]using this⟩
   ·cases oD
 ·cases ah
end Go.Proofs.YtmkpmgfieagphaaGreatDoor
