/- The law ScriptBack in plain Lean (numbers of seat D). Conditions: none. -/
import Derived.Test.YtmkpmgfieagphaaDoorKLokA
import Derived.Test.YtmkpmgfieagphaaDoorKVe
namespace Go.aG
open Go Go.du
theorem Pc{l:List aT}(h:q9 ⟨.li .aT,l⟩): ∀a∈l,gF a:=by
 have h:jY ⟨.li .aT,l⟩:=h
 cases h
 rename_i aa af
 exact fun a aI=>Pd (af a aI)
theorem texts{l:List aT}(h: ∀a∈l,gF a)(hc:(((m7 l).2 != 0)||(decide ((ByteArray.size (m7 l).1:Int)>1048564)))=false):m8 (m7 l).1=(l,0,0)∧
 m8 (ByteArray.append (ByteArray.append (⟨#[35,32,98,101,103,105,110,10,10]⟩:ByteArray) (m7 l).1) (⟨#[35,10]⟩:ByteArray))=(l,0,0)∧(m7 l).1.size≤1048564:=by
 rw[Bool.or_eq_false_iff]at hc
 have aP:(m7 l).2=0:=by simpa using hc.1
 have ah:=of_decide_eq_false hc.2
 obtain⟨aa,af⟩:=Pe h aP
 exact⟨Pf (fun a aI=>⟨h a aI,aa a aI⟩) af (by omega),Pg (fun a aI=>⟨h a aI,aa a aI⟩) af (by omega),by omega⟩
theorem Ph{l:List aT}{x:ByteArray}(h: ∀a∈l,gF a)(hx:bD x):sN l x:=by
 refine⟨fun _=>yg,fun ah=>?_⟩
 have an:l.length≤100:=by
  simp only[Bool.or_eq_false_iff,decide_eq_false_iff_not]at ah;omega
 intro aM
 have ai:aM:=by
  refine⟨Pj h an,fun _=>yg,fun hc=>?_⟩
  obtain⟨cB,c4,ah⟩:=texts h hc
  have Pk:ByteArray.size (⟨#[35,32,98,101,103,105,110,10,10]⟩:ByteArray)=9:=rfl
  have a6:ByteArray.size (⟨#[35,10]⟩:ByteArray)=2:=rfl
  refine⟨BN _,by omega,by rw[gG];omega,BN _,?_⟩
  intro ra b8
  have eL: ∀b,b8 b:=fun b=>⟨fun _=>⟨by
   show rb (m8 (ByteArray.append (ByteArray.append (⟨#[35,32,98,101,103,105,110,10,10]⟩:ByteArray) (m7 l).1) (⟨#[35,10]⟩:ByteArray))).1 l;rw[c4]
   exact HZ l,fun _=>yg⟩,fun _ _=>yg⟩
  refine⟨fun _=>⟨?_,eL _⟩,fun _=>eL _⟩
  show rb (m8 (m7 l).1).1 l;rw[cB];exact HZ l
 refine⟨BO hx,fun aP=>?_,fun _=>ai⟩
 have aP:(m5 x).2=0:=by simpa using aP
 exact⟨vb (H0 hx aP).1,fun _=>ai⟩
theorem Pl{l:List aT}{x:ByteArray}(h: ∀a∈l,gF a)(hx:bD x):m3 l x=true:=by
 unfold m3
 rw[Pm]
 cases ((decide ((List.length l:Int)>100))||(decide ((ByteArray.size x:Int)>3000)))with
 |true=>rfl
 |false=>
  have ak:(m5 x).2=0→(((m6 (m5 x).1).2 != 0)||(bm .neq (m6 (m5 x).1).1 x))=false:=fun aP=>by
   rw[(H0 hx aP).2,sO rfl];rfl
  dsimp only
  cases hc:(((m7 l).2 != 0)||(decide ((ByteArray.size (m7 l).1:Int)>1048564)))with
  |true=>
   cases aP:((m5 x).2==0)with
   |false=>simp only[cond_false,cond_true]
   |true=>
    rw[ak (by simpa using aP)]
    simp only[cond_false,cond_true]
  |false=>
   obtain⟨cB,c4,_⟩:=texts h hc;rw[cB,c4,Pn]
   cases aP:((m5 x).2==0)with
   |false=>rfl
   |true=>
    rw[ak (by simpa using aP)]
    rfl
theorem Po: ∀x,(∀d∈dm nT.ps x,q9 d)→mD nT.pre x∧kn nT.rs (nT.m x)=l4 true:=by
 intro x h
 have an: ∀a∈x.1,gF a:=Pc (h _ (List.mem_of_getElem? (i:=0) rfl))
 have hx:bD x.2:=l5 (h ⟨.str,x.2⟩ (List.mem_of_getElem? (i:=1) rfl))
 refine⟨Ph an hx,?_⟩
 show l4 (m3 x.1 x.2)=l4 true
 rw[Pl an hx]
end Go.aG
