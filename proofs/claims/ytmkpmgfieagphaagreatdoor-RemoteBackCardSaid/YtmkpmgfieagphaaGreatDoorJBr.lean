/- What the claims share. Conditions: none. -/
import Derived.Test.YtmkpmgfieagphaaGreatDoorJTEk
import Derived.Test.YtmkpmgfieagphaaGreatDoorJPk
import Derived.Test.YtmkpmgfieagphaaGreatDoorRows
import Derived.Lib.LaidTab
import Derived.SevenTiedAt
import Derived.Stop.LaidErr
open Go Go.aM Go.eQ Go.Proofs Go.ChangeShapes Go.WideShapes Go.ChangeAt Go.WideMaps Go.WideElems Go.RowKit
namespace Go.Proofs.YtmkpmgfieagphaaGreatDoor
theorem own:ownKnob Tryz.prog.godebug=none:=by kernel_rfl
theorem kids:Kids Tryz.prog (· < Tryz.prog.types.size):=kids_rows (by kernel_rfl) (by kernel_rfl)
theorem full: ∀t e,t<Tryz.prog.types.size→Tryz.prog.underlying t=some (.slice e)→0<Tryz.prog.cellsOf e:=slices_full_of Tryz.prog (by kernel_rfl)
def yg:List (String × DataW Unit):=Rows.remoteChecksRow.laid
theorem Vr(os:Os)(args:Array Value):laidMetH Tryz.prog yg ((World.doorLaid Tryz.prog 400 os).forCall (fun _ _=>0) ⟨#[],args,[]⟩).memory:=
 laidMetH_of_parts3 (fuel:=8) (laidMet_of_run' 8 (by kernel_rfl) (by kernel_rfl)) (by kernel_rfl) (by kernel_rfl)
theorem Vs:Tryz.prog.globalNamed "homehub/cluster.standard" =some 0:=by kernel_rfl
theorem Vt:(Tryz.prog.globals[0]?).map (·.type)=some 249:=by kernel_rfl
def Bp:List a6:=l0.map fun s=>a6.v (.string s)
def yh:a8:=fun g=>match Nat.beq g 0 with
 |true=>some Bp
 |false=>none
theorem Vu:Vv yh:=rfl
theorem Vw{W:World}(h:laidMetH Tryz.prog yg W):sf W (l1 W) yh:=by
 rw[MakeChecks.laidMetH_plain _ _ _ (by kernel_rfl)]at h
 obtain⟨ps,⟨g0,t0,ln,f0,zim,FD,yi,Vx,ow,ox,_,_⟩,_,_⟩:=h
 obtain rfl:=Option.some.inj (Vs.symm.trans yi)
 obtain rfl:=Option.some.inj (Vt.symm.trans Vx)
 obtain⟨l,dI,hd⟩:=Vy kids (of_decide_eq_true (by kernel_rfl)) (n:=8) (e:=9) (by kernel_rfl) (by kernel_rfl) (by kernel_rfl) ox
 have ar:l=l0:=by
  have aa:(l0.map fun s=>(DataW.lit (H:=Unit) (.string s.data.toList)))=l.map fun s=>.lit (.string s.data.toList):=by
   have:(DataW.agg (H:=Unit) (l0.map fun s=>.lit (.string s.data.toList)))= .agg (l.map fun s=>.lit (.string s.data.toList)):=by rw[←hd];rfl
   simpa using this
  exact(Vz aa).symm
 subst ar
 intro g cs ah
 unfold yh at ah
 split at ah
 ·rename_i ad
  obtain rfl:=Nat.eq_of_beq_eq_true ad;simp only[Option.some.injEq]at ah;subst ah
  have cell: ∀j,j<8→W.cell? ⟨0,j,none⟩=some (ln.getD j undef):=fun j cL=>by
   have aa:=World.var?_cell yi ow j
   rw[aa]
   have:j<ln.size:=by have:=congrArg List.length dI;simp at this;rw[this];exact cL
   simp[this]
  refine⟨.ptr Bp ⟨0,0,none⟩ (fun j=>ln.getD j undef) (fun j x ag=>?_) (fun j x ag=>?_),?_⟩
  ·have cL:j<8:=(List.getElem?_eq_some_iff.1 ag).1
   rw[addLit,Nat.zero_add];exact⟨show(0:Nat)<W.heap.size from Ob (a:=⟨0,j,none⟩) (cell j cL),cell j cL⟩
  ·have cL:j<8:=(List.getElem?_eq_some_iff.1 ag).1
   have ae:ln[j]? =(l0.map Value.string)[j]? :=by rw[←dI];simp
   have aR:Bp[j]? =(l0.map fun s=>a6.v (.string s))[j]? :=rfl
   rw[aR,List.getElem?_map]at ag
   rw[List.getElem?_map]at ae
   cases ai:l0[j]? with
   |none=>rw[ai]at ag;cases ag
   |some s=>
    rw[ai]at ag ae;simp only[Option.map_some,Option.some.injEq]at ag ae;subst ag;rw[Array.getD_eq_getD_getElem?,ae];exact .v _ rfl
  ·unfold World.var? at ow
   rw[yi]at ow;simp only[Option.bind_some]at ow
   split at ow
   ·rename_i arr t tL bb
    cases ow;exact⟨(Array.getElem?_eq_some_iff.1 bb).1,_,t,tL,bb,by have:=congrArg List.length dI;simpa[Bp]using this⟩
   ·cases ow
 ·cases ah
end Go.Proofs.YtmkpmgfieagphaaGreatDoor
