/- The law ScriptParses in plain Lean. Conditions: none. -/
import Derived.Test.YtmkpmgfieagphaaGreatDoorQLokA
import Derived.Test.YtmkpmgfieagphaaGreatDoorQLu
namespace Go.aL
open Go Go.ei
theorem SN{x:ByteArray}(hx:hz x):nq (sU x):=by
 have ah:=(kJ (c:=32) hx.nX).2
 by_cases h: ∃k:Nat,k<16∧iD k=(aO 32 x).1
 ·obtain⟨k,aj,he⟩:=h
  rw[K4 hx.nX aj he];exact Am ⟨by omega,by omega⟩ ah
 ·rw[K5 hx.nX fun i hi e=>h ⟨i,hi,e⟩]
  exact Am bM ah
theorem SO{x:ByteArray}(hx:hz x):DT x:=⟨SP hx,SQ (SN hx)⟩
theorem SR{x:ByteArray}(hx:bq x):u0 x:=by
 refine⟨fun _=>K6,fun h=>⟨DU hx,?_,fun _=>K6⟩⟩
 have h: ¬(x.size:Int)>3000:=of_decide_eq_false h
 exact SO (show x.size≤6000 by omega)
theorem SS{x:ByteArray}(hx:bq x):m4 x=true:=by
 unfold m4
 rw[SU]
 cases decide ((x.size:Int)>3000)with
 |true=>rfl
 |false=>
  rw[SV hx];simp only[cond_false,beq_self_eq_true,An,cond_true];rfl
theorem SW: ∀x,(∀d∈dj oZ.ps x,xm d)→mn oZ.pre x∧ll oZ.rs (oZ.m x)=ke true:=by
 intro x h
 have hx:bq x:=SX (h ⟨.str,x⟩ (List.mem_of_getElem? (i:=0) rfl))
 refine⟨SR hx,?_⟩
 show ke (m4 x)=ke true
 rw[SS hx]
end Go.aL
