/- The law RemoteOnce in plain Lean. Conditions: none. -/
import Derived.Test.YtmkpmgfieagphaaGreatDoorHLy
namespace Go.aN
open Go Go.eg
theorem Yp(l:List aX):yY l l=true:=by
 unfold yY
 dsimp only
 rw[show((l.length:Int) != (l.length:Int))=false by simp,cond_false,fj (p:=fun _=>false) (F:=fun _=>false) (fun i u=>by simp[tX]),tY fun _ _=>rfl]
theorem Yj(x y:List aX):GV x y:=by
 intro h
 have h:((x.length:Int) != (y.length:Int))=false:=h
 have h:(x.length:Int)=(y.length:Int):=by simpa using h
 refine⟨fun _ _=>True,trivial,fun i _ hi _=>⟨⟨by omega,?_⟩,fun _=>trivial⟩⟩
 rw[toNat_cast]at hi
 omega
theorem Ys(ws:List aX)(name:ByteArray):tZ ws name=v8 ws name:=by
 unfold tZ v8
 cases ak:(hL ws name).2 with
 |true=>
  obtain⟨i,he,hi,hm,hn⟩:=Yt ak;rw[he,Qf ws (aw .aX),wa hi (decide_eq_true hm) fun j af=>decide_eq_false (hn j af)];rfl
 |false=>
  obtain⟨i,_,_,hn⟩:=Yu ak;rw[List.find?_eq_none.2 fun g ah=>by simp[hn g ah]]
  rfl
def v7(l:List aX):Prop:=∀g∈l,yZ g.gT
theorem Qg{l:List aX}(h:v7 l)(x:ByteArray):yZ (v8 l x):=by
 unfold v8
 cases hf:l.find? (fun g=>decide (g.cq=x))with
 |none=>exact⟨0,rfl,by decide⟩
 |some g=>exact h g (List.mem_of_find?_eq_some hf)
theorem Ym(a:gl):(⟨a.token,⟨a.request.kind,a.request.dO,⟨a.request.key.dev,a.request.key.cK,a.request.key.attr⟩,a.request.name,⟨a.request.value.kind,a.request.value.n,a.request.value.s⟩,a.request.text⟩⟩:gl)=a:=rfl
theorem Yn(c:Config):(⟨⟨c.home.bq,c.home.a8⟩,c.sr,c.ss,⟨c.lB.offset,c.lB.changes⟩,c.key⟩:Config)=c:=rfl
theorem Qe{x:Case}(h:sq ⟨.st .Case,x⟩):v7 x.kS:=by
 have nH:lC ⟨.li .aX,x.kS⟩:=h _ (List.mem_of_getElem? (i:=8) rfl)
 cases nH
 rename_i _ ae
 intro g ah
 have ad:lC ⟨.int .u64,g.gT.bits⟩:=ae g ah _ (List.mem_of_getElem? (i:=2) rfl)
 cases ad
 rename_i hw
 have hw:(decide (0≤g.gT.bits)&&decide (g.gT.bits≤18446744073709551615))=true:=hw
 simp only[Bool.and_eq_true,decide_eq_true_eq]at hw
 exact⟨g.gT.bits.toNat,by omega,by omega⟩
end Go.aN
