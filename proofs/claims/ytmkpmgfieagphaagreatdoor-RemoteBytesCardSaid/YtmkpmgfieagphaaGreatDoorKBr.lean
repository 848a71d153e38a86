/- What the claims share. Conditions: none. -/
import Derived.Test.YtmkpmgfieagphaaGreatDoorKTEk
import Derived.Test.YtmkpmgfieagphaaGreatDoorKPk
import Derived.Test.YtmkpmgfieagphaaGreatDoorRows
import Derived.Lib.LaidTab
import Derived.SevenTiedAt
import Derived.Stop.LaidErr
open Go Go.aL Go.eL Go.Proofs Go.ChangeShapes Go.WideShapes Go.ChangeAt Go.WideMaps Go.WideElems Go.RowKit
namespace Go.Proofs.YtmkpmgfieagphaaGreatDoor
theorem own:ownKnob Tryz.prog.godebug=none:=by kernel_rfl
theorem kids:Kids Tryz.prog (· < Tryz.prog.types.size):=kids_rows (by kernel_rfl) (by kernel_rfl)
theorem full: ∀t e,t<Tryz.prog.types.size→Tryz.prog.underlying t=some (.slice e)→0<Tryz.prog.cellsOf e:=slices_full_of Tryz.prog (by kernel_rfl)
def so:List (String × DataW Unit):=Rows.remoteChecksRow.laid
theorem OF(os:Os)(args:Array Value):laidMetH Tryz.prog so ((World.doorLaid Tryz.prog 400 os).forCall (fun _ _=>0) ⟨#[],args,[]⟩).memory:=
 laidMetH_of_parts3 (fuel:=8) (laidMet_of_run' 8 (by kernel_rfl) (by kernel_rfl)) (by kernel_rfl) (by kernel_rfl)
theorem V0:Tryz.prog.globalNamed "homehub/cluster.standard" =some 0:=by kernel_rfl
theorem V1:(Tryz.prog.globals[0]?).map (·.type)=some 249:=by kernel_rfl
def BK:List a6:=l4.map fun s=>a6.v (.string s)
def tU:a8:=fun g=>match Nat.beq g 0 with
 |true=>some BK
 |false=>none
theorem OG:V2 tU:=rfl
theorem OH{W:World}(h:laidMetH Tryz.prog so W):sq W (l5 W) tU:=by
 rw[MakeChecks.laidMetH_plain _ _ _ (by kernel_rfl)]at h
 obtain⟨ps,⟨g0,t0,lz,f0,zjz,F3,yy,V3,ow,ox,_,_⟩,_,_⟩:=h
 obtain rfl:=Option.some.inj (V0.symm.trans yy)
 obtain rfl:=Option.some.inj (V1.symm.trans V3)
 obtain⟨l,dJ,hd⟩:=V4 kids (of_decide_eq_true (by kernel_rfl)) (n:=8) (e:=9) (by kernel_rfl) (by kernel_rfl) (by kernel_rfl) ox
 have aq:l=l4:=by
  have aa:(l4.map fun s=>(DataW.lit (H:=Unit) (.string s.data.toList)))=l.map fun s=>.lit (.string s.data.toList):=by
   have:(DataW.agg (H:=Unit) (l4.map fun s=>.lit (.string s.data.toList)))= .agg (l.map fun s=>.lit (.string s.data.toList)):=by rw[←hd];rfl
   simpa using this
  exact(V5 aa).symm
 subst aq
 intro g cs ah
 unfold tU at ah
 split at ah
 ·rename_i ad
  obtain rfl:=Nat.eq_of_beq_eq_true ad;simp only[Option.some.injEq]at ah;subst ah
  have cell: ∀j,j<8→W.cell? ⟨0,j,none⟩=some (lz.getD j undef):=fun j cM=>by
   have aa:=World.var?_cell yy ow j
   rw[aa]
   have:j<lz.size:=by have:=congrArg List.length dJ;simp at this;rw[this];exact cM
   simp[this]
  refine⟨.ptr BK ⟨0,0,none⟩ (fun j=>lz.getD j undef) (fun j x af=>?_) (fun j x af=>?_),?_⟩
  ·have cM:j<8:=(List.getElem?_eq_some_iff.1 af).1
   rw[addLit,Nat.zero_add];exact⟨show(0:Nat)<W.heap.size from OI (a:=⟨0,j,none⟩) (cell j cM),cell j cM⟩
  ·have cM:j<8:=(List.getElem?_eq_some_iff.1 af).1
   have ae:lz[j]? =(l4.map Value.string)[j]? :=by rw[←dJ];simp
   have aQ:BK[j]? =(l4.map fun s=>a6.v (.string s))[j]? :=rfl
   rw[aQ,List.getElem?_map]at af
   rw[List.getElem?_map]at ae
   cases ai:l4[j]? with
   |none=>rw[ai]at af;cases af
   |some s=>
    rw[ai]at af ae;simp only[Option.map_some,Option.some.injEq]at af ae;subst af;rw[Array.getD_eq_getD_getElem?,ae];exact .v _ rfl
  ·unfold World.var? at ow
   rw[yy]at ow;simp only[Option.bind_some]at ow
   split at ow
   ·rename_i arr t tV bb
    cases ow;exact⟨(Array.getElem?_eq_some_iff.1 bb).1,_,t,tV,bb,by have:=congrArg List.length dJ;simpa[BK]using this⟩
   ·cases ow
 ·cases ah
end Go.Proofs.YtmkpmgfieagphaaGreatDoor
