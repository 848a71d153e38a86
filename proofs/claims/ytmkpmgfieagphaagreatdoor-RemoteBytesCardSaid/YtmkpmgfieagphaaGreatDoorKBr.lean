/- What the claims share. Conditions: none. -/
import Derived.Test.YtmkpmgfieagphaaGreatDoorKTEk
import Derived.Test.YtmkpmgfieagphaaGreatDoorKPk
import Derived.Test.YtmkpmgfieagphaaGreatDoorRows
import Derived.Lib.LaidTab
import Derived.SevenTiedAt
import Derived.Stop.LaidErr
open Go Go.aK Go.eK Go.Proofs Go.ChangeShapes Go.WideShapes Go.ChangeAt Go.WideMaps Go.WideElems Go.RowKit
namespace Go.Proofs.YtmkpmgfieagphaaGreatDoor
theorem own:ownKnob Tryz.prog.godebug=none:=by kernel_rfl
theorem kids:Kids Tryz.prog (· < Tryz.prog.types.size):=kids_rows (by kernel_rfl) (by kernel_rfl)
theorem full: ∀t e,t<Tryz.prog.types.size→Tryz.prog.underlying t=some (.slice e)→0<Tryz.prog.cellsOf e:=slices_full_of Tryz.prog (by kernel_rfl)
def sn:List (String × DataW Unit):=Rows.remoteChecksRow.laid
theorem OE(os:Os)(args:Array Value):laidMetH Tryz.prog sn ((World.doorLaid Tryz.prog 400 os).forCall (fun _ _=>0) ⟨#[],args,[]⟩).memory:=
 laidMetH_of_parts3 (fuel:=8) (laidMet_of_run' 8 (by kernel_rfl) (by kernel_rfl)) (by kernel_rfl) (by kernel_rfl)
theorem VZ:Tryz.prog.globalNamed "homehub/cluster.standard" =some 0:=by kernel_rfl
theorem V0:(Tryz.prog.globals[0]?).map (·.type)=some 249:=by kernel_rfl
def BJ:List a1:=l3.map fun s=>a1.v (.string s)
def tT:a7:=fun g=>match Nat.beq g 0 with
 |true=>some BJ
 |false=>none
theorem OF:V1 tT:=rfl
theorem OG{W:World}(h:laidMetH Tryz.prog sn W):so W (l4 W) tT:=by
 rw[MakeChecks.laidMetH_plain _ _ _ (by kernel_rfl)]at h
 obtain⟨ps,⟨g0,t0,ly,f0,zjz,F2,yx,V2,ov,ow,_,_⟩,_,_⟩:=h
 obtain rfl:=Option.some.inj (VZ.symm.trans yx)
 obtain rfl:=Option.some.inj (V0.symm.trans V2)
 obtain⟨l,dI,hd⟩:=V3 kids (of_decide_eq_true (by kernel_rfl)) (n:=8) (e:=9) (by kernel_rfl) (by kernel_rfl) (by kernel_rfl) ow
 have aq:l=l3:=by
  have aa:(l3.map fun s=>(DataW.lit (H:=Unit) (.string s.data.toList)))=l.map fun s=>.lit (.string s.data.toList):=by
   have:(DataW.agg (H:=Unit) (l3.map fun s=>.lit (.string s.data.toList)))= .agg (l.map fun s=>.lit (.string s.data.toList)):=by rw[←hd];rfl
   simpa using this
  exact(V4 aa).symm
 subst aq
 intro g cs ah
 unfold tT at ah
 split at ah
 ·rename_i ad
  obtain rfl:=Nat.eq_of_beq_eq_true ad;simp only[Option.some.injEq]at ah;subst ah
  have cell: ∀j,j<8→W.cell? ⟨0,j,none⟩=some (ly.getD j undef):=fun j cL=>by
   have aa:=World.var?_cell yx ov j
   rw[aa]
   have:j<ly.size:=by have:=congrArg List.length dI;simp at this;rw[this];exact cL
   simp[this]
  refine⟨.ptr BJ ⟨0,0,none⟩ (fun j=>ly.getD j undef) (fun j x af=>?_) (fun j x af=>?_),?_⟩
  ·have cL:j<8:=(List.getElem?_eq_some_iff.1 af).1
   rw[addLit,Nat.zero_add];exact⟨show(0:Nat)<W.heap.size from OH (a:=⟨0,j,none⟩) (cell j cL),cell j cL⟩
  ·have cL:j<8:=(List.getElem?_eq_some_iff.1 af).1
   have ae:ly[j]? =(l3.map Value.string)[j]? :=by rw[←dI];simp
   have aP:BJ[j]? =(l3.map fun s=>a1.v (.string s))[j]? :=rfl
   rw[aP,List.getElem?_map]at af
   rw[List.getElem?_map]at ae
   cases ai:l3[j]? with
   |none=>rw[ai]at af;cases af
   |some s=>
    rw[ai]at af ae;simp only[Option.map_some,Option.some.injEq]at af ae;subst af;rw[Array.getD_eq_getD_getElem?,ae];exact .v _ rfl
  ·unfold World.var? at ov
   rw[yx]at ov;simp only[Option.bind_some]at ov
   split at ov
   ·rename_i arr t tU ba
    cases ov;exact⟨(Array.getElem?_eq_some_iff.1 ba).1,_,t,tU,ba,by have:=congrArg List.length dI;simpa[BJ]using this⟩
   ·cases ov
 ·cases ah
end Go.Proofs.YtmkpmgfieagphaaGreatDoor
