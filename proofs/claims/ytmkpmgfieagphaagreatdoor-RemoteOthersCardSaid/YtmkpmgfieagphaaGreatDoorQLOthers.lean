/- The law RemoteOthers in plain Lean. Conditions: none. -/
import Derived.Test.YtmkpmgfieagphaaGreatDoorQLu
namespace Go.aK
open Go Go.eO
theorem We{x:Case}(ar:x.members.length≤9223372036854775807)(o:ByteArray):NC x o:=by
 refine⟨Ny ar,fun _=>qo,fun ah=>?_⟩
 obtain⟨_,hm,hw,aH,_⟩:=EN ah
 refine⟨s4 hm (by omega) aH,fun _=>⟨fun _ _=>qo,fun _ _=>qo⟩,fun _=>⟨fun _ _=>qo,fun _ _=>qo⟩⟩
theorem Wf(x:Case)(o:ByteArray):AR x o=true:=by
 unfold AR
 rw[Nz]
 dsimp only
 cases ah:nV x with
 |true=>rfl
 |false=>
  obtain⟨_,hm,hw,aH,_⟩:=EN ah;simp only[cond_false]
  have ar:=AP x.c x.members x.gk x.gS x.a x.now x.dD
  have an:=Wh x.c x.members x.gk x.gS x.a x.now x.dD (other:=o)
  rw[NA,nW];generalize fj x.c x.members x.gk x.gS x.a x.now x.dD=r at ar an⊢
  have hd:decide ((List.length r.2.1:Int)≤IntKind.wrap .i64 ((List.length x.gk:Int)+(1:Int)))=true:=by
   rw[kg (by omega) (by omega)]
   exact decide_eq_true (by omega)
  rw[hd]
  by_cases h:o=r.1
  ·rw[decide_eq_true h]
   rfl
  ·rw[decide_eq_false h,ND,ND,an h]
   simp
theorem Wi: ∀x,(∀d∈dv pj.ps x,pf d)→kz pj.pre x∧kA pj.rs (pj.m x)=ph true:=by
 intro x h
 have hc:pf ⟨.st .Case,x.1⟩:=h _ (List.mem_of_getElem? (i:=0) rfl)
 refine⟨We (NB hc) x.2,?_⟩
 show ph (AR x.1 x.2)=ph true
 rw[Wf]
end Go.aK
