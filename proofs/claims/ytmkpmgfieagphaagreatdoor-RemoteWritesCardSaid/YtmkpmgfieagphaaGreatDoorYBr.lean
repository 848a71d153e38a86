/- What the claims share. Conditions: none. -/
import Derived.Test.YtmkpmgfieagphaaGreatDoorYTEk
import Derived.Test.YtmkpmgfieagphaaGreatDoorYPk
import Derived.Test.YtmkpmgfieagphaaGreatDoorRows
import Derived.Lib.LaidTab
import Derived.SevenTiedAt
import Derived.Stop.LaidErr
open Go Go.aO Go.eK Go.Proofs Go.ChangeShapes Go.WideShapes Go.ChangeAt Go.WideMaps Go.WideElems Go.RowKit
namespace Go.Proofs.YtmkpmgfieagphaaGreatDoor
theorem own:ownKnob Tryz.prog.godebug=none:=by kernel_rfl
theorem kids:Kids Tryz.prog (· < Tryz.prog.types.size):=kids_rows (by kernel_rfl) (by kernel_rfl)
theorem full: ∀t e,t<Tryz.prog.types.size→Tryz.prog.underlying t=some (.slice e)→0<Tryz.prog.cellsOf e:=slices_full_of Tryz.prog (by kernel_rfl)
def x4:List (String × DataW Unit):=Rows.remoteChecksRow.laid
theorem V8(os:Os)(args:Array Value):laidMetH Tryz.prog x4 ((World.doorLaid Tryz.prog 400 os).forCall (fun _ _=>0) ⟨#[],args,[]⟩).memory:=
 laidMetH_of_parts3 (fuel:=8) (laidMet_of_run' 8 (by kernel_rfl) (by kernel_rfl)) (by kernel_rfl) (by kernel_rfl)
theorem V9:Tryz.prog.globalNamed "homehub/cluster.standard" =some 0:=by kernel_rfl
theorem Wa:(Tryz.prog.globals[0]?).map (·.type)=some 249:=by kernel_rfl
def Bo:List bb:=lN.map fun s=>bb.v (.string s)
def x5:bd:=fun g=>match Nat.beq g 0 with
 |true=>some Bo
 |false=>none
theorem Wb:Wc x5:=rfl
theorem Wd{W:World}(h:laidMetH Tryz.prog x4 W):rR W (lO W) x5:=by
 rw[MakeChecks.laidMetH_plain _ _ _ (by kernel_rfl)]at h
 obtain⟨ps,⟨g0,t0,k7,f0,We,FN,x6,Wf,n4,n5,_,_⟩,_,_⟩:=h
 obtain rfl:=Option.some.inj (V9.symm.trans x6)
 obtain rfl:=Option.some.inj (Wa.symm.trans Wf)
 obtain⟨l,dL,hd⟩:=Wh kids (of_decide_eq_true (by kernel_rfl)) (n:=8) (e:=9) (by kernel_rfl) (by kernel_rfl) (by kernel_rfl) n5
 have ar:l=lN:=by
  have aa:(lN.map fun s=>(DataW.lit (H:=Unit) (.string s.data.toList)))=l.map fun s=>.lit (.string s.data.toList):=by
   have:(DataW.agg (H:=Unit) (lN.map fun s=>.lit (.string s.data.toList)))= .agg (l.map fun s=>.lit (.string s.data.toList)):=by rw[←hd];rfl
   simpa using this
  exact(Wi aa).symm
 subst ar
 intro g cs ah
 unfold x5 at ah
 split at ah
 ·rename_i ad
  obtain rfl:=Nat.eq_of_beq_eq_true ad;simp only[Option.some.injEq]at ah;subst ah
  have cell: ∀j,j<8→W.cell? ⟨0,j,none⟩=some (k7.getD j undef):=fun j cU=>by
   have aa:=World.var?_cell x6 n4 j
   rw[aa]
   have:j<k7.size:=by have:=congrArg List.length dL;simp at this;rw[this];exact cU
   simp[this]
  refine⟨.ptr Bo ⟨0,0,none⟩ (fun j=>k7.getD j undef) (fun j x af=>?_) (fun j x af=>?_),?_⟩
  ·have cU:j<8:=(List.getElem?_eq_some_iff.1 af).1
   rw[addLit,Nat.zero_add];exact⟨show(0:Nat)<W.heap.size from OR (a:=⟨0,j,none⟩) (cell j cU),cell j cU⟩
  ·have cU:j<8:=(List.getElem?_eq_some_iff.1 af).1
   have ae:k7[j]? =(lN.map Value.string)[j]? :=by rw[←dL];simp
   have aW:Bo[j]? =(lN.map fun s=>bb.v (.string s))[j]? :=rfl
   rw[aW,List.getElem?_map]at af
   rw[List.getElem?_map]at ae
   cases ai:lN[j]? with
   |none=>rw[ai]at af;cases af
   |some s=>
    rw[ai]at af ae;simp only[Option.map_some,Option.some.injEq]at af ae;subst af;rw[Array.getD_eq_getD_getElem?,ae];exact .v _ rfl
  ·unfold World.var? at n4
   rw[x6]at n4;simp only[Option.bind_some]at n4
   split at n4
   ·rename_i arr t tj bk
    cases n4;exact⟨(Array.getElem?_eq_some_iff.1 bk).1,_,t,tj,bk,by have:=congrArg List.length dL;simpa[Bo]using this⟩
   ·cases n4
 ·cases ah
end Go.Proofs.YtmkpmgfieagphaaGreatDoor
