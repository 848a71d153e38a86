/- What the claims share. Conditions: none. -/
import Derived.Test.YtmkpmgfieagphaaGreatDoorQTEk
import Derived.Test.YtmkpmgfieagphaaGreatDoorQPk
import Derived.Test.YtmkpmgfieagphaaGreatDoorRows
import Derived.Lib.LaidTab
import Derived.SevenTiedAt
import Derived.Stop.LaidErr
open Go Go.aK Go.eO Go.Proofs Go.ChangeShapes Go.WideShapes Go.ChangeAt Go.WideMaps Go.WideElems Go.RowKit
namespace Go.Proofs.YtmkpmgfieagphaaGreatDoor
theorem own:ownKnob Tryz.prog.godebug=none:=by kernel_rfl
theorem kids:Kids Tryz.prog (· < Tryz.prog.types.size):=kids_rows (by kernel_rfl) (by kernel_rfl)
theorem full: ∀t e,t<Tryz.prog.types.size→Tryz.prog.underlying t=some (.slice e)→0<Tryz.prog.cellsOf e:=slices_full_of Tryz.prog (by kernel_rfl)
def rJ:List (String × DataW Unit):=Rows.remoteChecksRow.laid
theorem Nf(os:Os)(args:Array Value):laidMetH Tryz.prog rJ ((World.doorLaid Tryz.prog 400 os).forCall (fun _ _=>0) ⟨#[],args,[]⟩).memory:=
 laidMetH_of_parts3 (fuel:=8) (laidMet_of_run' 8 (by kernel_rfl) (by kernel_rfl)) (by kernel_rfl) (by kernel_rfl)
theorem UF:Tryz.prog.globalNamed "homehub/cluster.standard" =some 0:=by kernel_rfl
theorem UG:(Tryz.prog.globals[0]?).map (·.type)=some 249:=by kernel_rfl
def AJ:List a1:=lG.map fun s=>a1.v (.string s)
def sY:a8:=fun g=>match Nat.beq g 0 with
 |true=>some AJ
 |false=>none
theorem Ng:UH sY:=rfl
theorem Nh{W:World}(h:laidMetH Tryz.prog rJ W):rK W (lH W) sY:=by
 rw[MakeChecks.laidMetH_plain _ _ _ (by kernel_rfl)]at h
 obtain⟨ps,⟨g0,t0,k5,f0,zh0,EJ,xH,UI,nR,nS,_,_⟩,_,_⟩:=h
 obtain rfl:=Option.some.inj (UF.symm.trans xH)
 obtain rfl:=Option.some.inj (UG.symm.trans UI)
 obtain⟨l,dH,hd⟩:=UJ kids (of_decide_eq_true (by kernel_rfl)) (n:=8) (e:=9) (by kernel_rfl) (by kernel_rfl) (by kernel_rfl) nS
 have ar:l=lG:=by
  have aa:(lG.map fun s=>(DataW.lit (H:=Unit) (.string s.data.toList)))=l.map fun s=>.lit (.string s.data.toList):=by
   have:(DataW.agg (H:=Unit) (lG.map fun s=>.lit (.string s.data.toList)))= .agg (l.map fun s=>.lit (.string s.data.toList)):=by rw[←hd];rfl
   simpa using this
  exact(UK aa).symm
 subst ar
 intro g cs ah
 unfold sY at ah
 split at ah
 ·rename_i ad
  obtain rfl:=Nat.eq_of_beq_eq_true ad;simp only[Option.some.injEq]at ah;subst ah
  have cell: ∀j,j<8→W.cell? ⟨0,j,none⟩=some (k5.getD j undef):=fun j cJ=>by
   have aa:=World.var?_cell xH nR j
   rw[aa]
   have:j<k5.size:=by have:=congrArg List.length dH;simp at this;rw[this];exact cJ
   simp[this]
  refine⟨.ptr AJ ⟨0,0,none⟩ (fun j=>k5.getD j undef) (fun j x af=>?_) (fun j x af=>?_),?_⟩
  ·have cJ:j<8:=(List.getElem?_eq_some_iff.1 af).1
   rw[addLit,Nat.zero_add];exact⟨show(0:Nat)<W.heap.size from Ni (a:=⟨0,j,none⟩) (cell j cJ),cell j cJ⟩
  ·have cJ:j<8:=(List.getElem?_eq_some_iff.1 af).1
   have ae:k5[j]? =(lG.map Value.string)[j]? :=by rw[←dH];simp
   have aQ:AJ[j]? =(lG.map fun s=>a1.v (.string s))[j]? :=rfl
   rw[aQ,List.getElem?_map]at af
   rw[List.getElem?_map]at ae
   cases ai:lG[j]? with
   |none=>rw[ai]at af;cases af
   |some s=>
    rw[ai]at af ae;simp only[Option.map_some,Option.some.injEq]at af ae;subst af;rw[Array.getD_eq_getD_getElem?,ae];exact .v _ rfl
  ·unfold World.var? at nR
   rw[xH]at nR;simp only[Option.bind_some]at nR
   split at nR
   ·rename_i arr t sZ bd
    cases nR;exact⟨(Array.getElem?_eq_some_iff.1 bd).1,_,t,sZ,bd,by have:=congrArg List.length dH;simpa[AJ]using this⟩
   ·cases nR
 ·cases ah
end Go.Proofs.YtmkpmgfieagphaaGreatDoor
