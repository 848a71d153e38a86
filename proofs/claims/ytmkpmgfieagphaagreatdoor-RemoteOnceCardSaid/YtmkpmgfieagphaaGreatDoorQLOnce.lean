/- The law RemoteOnce in plain Lean. Conditions: none. -/
import Derived.Test.YtmkpmgfieagphaaGreatDoorQLu
namespace Go.aK
open Go Go.eO
theorem Nl(l:List bA):s0 l l=true:=by
 unfold s0
 dsimp only
 rw[show((l.length:Int) != (l.length:Int))=false by simp,cond_false,ib (p:=fun _=>false) (F:=fun _=>false) (fun i u=>by simp[uX]),xI fun _ _=>rfl]
theorem Nn(x y:List bA):AK x y:=by
 intro h
 have h:((x.length:Int) != (y.length:Int))=false:=h
 have h:(x.length:Int)=(y.length:Int):=by simpa using h
 refine⟨fun _ _=>True,trivial,fun i _ hi _=>⟨⟨by omega,?_⟩,fun _=>trivial⟩⟩
 rw[toNat_cast]at hi
 omega
theorem No(ws:List bA)(name:ByteArray):rL ws name=iP ws name:=by
 unfold rL iP
 cases ak:(hq ws name).2 with
 |true=>
  obtain⟨i,he,hi,hm,hn⟩:=EK ak;rw[he,Np ws (aE .bA),uY hi (decide_eq_true hm) fun j af=>decide_eq_false (hn j af)];rfl
 |false=>
  obtain⟨i,_,_,hn⟩:=EL ak;rw[List.find?_eq_none.2 fun g ah=>by simp[hn g ah]]
  rfl
theorem Nq{l r:List bA}{x:ByteArray}{w:dA}(h: ∀g∈l,g.cr≠x):iP (l++⟨x,w⟩::r) x=w:=by
 unfold iP
 rw[List.find?_append,List.find?_eq_none.2 fun g ah=>by simp[h g ah],List.find?_cons,decide_eq_true rfl]
 rfl
theorem Nr(ws:List bA)(name:ByteArray)(w:dA):iP (jM ws name w) name=w:=by
 unfold jM
 cases ak:(hq ws name).2 with
 |true=>
  obtain⟨i,he,hi,hm,hn⟩:=EK ak;rw[he];simp only[cond_true,toNat_cast];rw[hm,Ns hi];refine Nq fun g ah=>?_
  obtain⟨j,af,V2⟩:=Nt.1 ah
  have:=hn j af
  rw[m3 V2]at this;exact this
 |false=>
  obtain⟨i,he,hi,hn⟩:=EL ak;rw[he];simp only[cond_false,toNat_cast];rw[List.append_assoc,List.singleton_append];exact Nq fun g ah=>hn g (List.mem_of_mem_take ah)
def uZ(l:List bA):Prop:=∀g∈l,s3 g.hN
theorem Nu{l:List bA}(h:uZ l)(x:ByteArray):s3 (iP l x):=by
 unfold iP
 cases hf:l.find? (fun g=>decide (g.cr=x))with
 |none=>exact⟨0,rfl,by decide⟩
 |some g=>exact h g (List.mem_of_find?_eq_some hf)
theorem V3{ws:List bA}(h:uZ ws)(name:ByteArray){w:dA}(hw:s3 w):uZ (jM ws name w):=by
 unfold jM
 cases (hq ws name).2 with
 |true=>
  intro g ah
  rcases List.mem_or_eq_of_mem_set ah with ah|rfl
  ·exact h g ah
  ·exact hw
 |false=>
  intro g ah;simp only[cond_false,List.mem_append,List.mem_singleton]at ah
  rcases ah with (ah|rfl)|ah
  ·exact h g (List.mem_of_mem_take ah)
  ·exact hw
  ·exact h g (List.mem_of_mem_drop ah)
theorem EM(c:Config)(ms:List cg)(ws:List bA)(au:List Int)(a:fx)(now dD:Int):
 ((fj c ms ws au a now dD).2.1=ws∧(fj c ms ws au a now dD).2.2≠0)∨(((eI c.key a.token now au).2=0∧pd c.home a.request=0∧pe c.home ms (eI c.key a.token now au).1.cr dD a.request=0)∧
  ∃w,k6 (iP ws (eI c.key a.token now au).1.cr) a.request.dS=(w,true)∧fj c ms ws au a now dD=((eI c.key a.token now au).1.cr,jM ws (eI c.key a.token now au).1.cr w,0)):=by
 rw[AL]
 cases c8:((eI c.key a.token now au).2 != 0)with
 |true=>exact .inl ⟨rfl,by simpa using c8⟩
 |false=>
  cases fy:(pd c.home a.request != 0)with
  |true=>exact .inl ⟨rfl,by simpa using fy⟩
  |false=>
   cases ml:(pe c.home ms (eI c.key a.token now au).1.cr dD a.request != 0)with
   |true=>exact .inl ⟨rfl,by simpa using ml⟩
   |false=>
    unfold u0;rw[No];simp only[cond_false]
    cases kf:(k6 (iP ws (eI c.key a.token now au).1.cr) a.request.dS).2 with
    |false=>exact .inl ⟨rfl,by show(18:Int)≠0;decide⟩
    |true=>exact .inr ⟨⟨lI c8,lI fy,lI ml⟩,(k6 (iP ws (eI c.key a.token now au).1.cr) a.request.dS).1,by rw[←kf],rfl⟩
theorem once{c:Config}{ms:List cg}{ws:List bA}{au:List Int}{a b:fx}{now dD:Int}(AM:uZ ws)(h:(fj c ms ws au a now dD).2.2=0):
 fj c ms (fj c ms (fj c ms ws au a now dD).2.1 au b now dD).2.1 au a now dD=(⟨#[]⟩,(fj c ms (fj c ms ws au a now dD).2.1 au b now dD).2.1,18):=by
 rcases EM c ms ws au a now dD with⟨_,ae⟩|⟨⟨rM,z2,z3⟩,w,hw,he⟩
 ·exact absurd h ae
 ·obtain⟨⟨kg,wr⟩,_⟩:=acc (Nu AM _) hw
  have aA:(fj c ms ws au a now dD).2.1=jM ws (eI c.key a.token now au).1.cr w:=by rw[he]
  rw[aA]
  have V4:=V3 AM (eI c.key a.token now au).1.cr kg
  have key: ∀v:List bA,s3 (iP v (eI c.key a.token now au).1.cr)→Rec (iP v (eI c.key a.token now au).1.cr) a.request.dS→fj c ms v au a now dD=(⟨#[]⟩,v,18):=fun v aa ae=>by
   rw[AL,rM,z2,z3];unfold u0;rw[No,V5 aa ae];rfl
  have ai:=Nr ws (eI c.key a.token now au).1.cr w
  rcases EM c ms (jM ws (eI c.key a.token now au).1.cr w) au b now dD with⟨aa,_⟩|⟨_,eu,AN,V6⟩
  ·rw[aa]
   exact key _ (by rw[ai];exact kg) (by rw[ai];exact wr)
  ·have bh:(fj c ms (jM ws (eI c.key a.token now au).1.cr w) au b now dD).2.1=jM (jM ws (eI c.key a.token now au).1.cr w) (eI c.key b.token now au).1.cr eu:=by rw[V6]
   rw[bh];obtain⟨⟨V7,_⟩,Nv⟩:=acc (Nu V4 _) AN
   by_cases hn:(eI c.key b.token now au).1.cr=(eI c.key a.token now au).1.cr
   ·rw[hn]at Nv⊢
    have AO:=Nr (jM ws (eI c.key a.token now au).1.cr w) (eI c.key a.token now au).1.cr eu
    exact key _ (by rw[AO];exact V7) (by rw[AO];exact Nv _ (by rw[ai];exact wr))
   ·have an:=Nw (jM ws (eI c.key a.token now au).1.cr w) eu (name:=(eI c.key b.token now au).1.cr) (other:=(eI c.key a.token now au).1.cr) fun e=>hn e.symm
    exact key _ (by rw[an,ai];exact kg) (by rw[an,ai];exact wr)
theorem V8(a:fx):(⟨a.token,⟨a.request.kind,a.request.dS,⟨a.request.key.dev,a.request.key.dc,a.request.key.attr⟩,a.request.name,⟨a.request.value.kind,a.request.value.n,a.request.value.s⟩,a.request.text⟩⟩:fx)=a:=rfl
theorem V9(c:Config):(⟨⟨c.home.bH,c.home.bw⟩,c.kv,c.ky,⟨c.gj.offset,c.gj.changes⟩,c.key⟩:Config)=c:=rfl
theorem Wa{x:Case}(ar:x.members.length≤9223372036854775807)(b:fx):Nx x b:=by
 refine⟨Ny ar,fun _=>qo,fun ah=>?_⟩
 simp only[Bool.or_eq_false_iff,decide_eq_false_iff_not]at ah
 obtain⟨⟨ah,ad⟩,_⟩:=ah
 obtain⟨_,hm,hw,aH,_⟩:=EN ah
 have nT:=AP x.c x.members x.gk x.gS x.a x.now x.dD
 have u1:=AP x.c x.members (fj x.c x.members x.gk x.gS x.a x.now x.dD).2.1 x.gS b x.now x.dD
 refine⟨s4 hm (by omega) aH,fun _=>⟨Nn _ _,fun _=>qo⟩,fun _=>⟨s4 hm ?_ (by unfold nU;omega),s4 hm ?_ aH,fun _=>⟨Nn _ _,fun _=>qo⟩,fun _ _=>qo⟩⟩
 ·have nT:(fj ⟨⟨x.c.home.bH,x.c.home.bw⟩,x.c.kv,x.c.ky,⟨x.c.gj.offset,x.c.gj.changes⟩,x.c.key⟩ x.members x.gk x.gS ⟨x.a.token,⟨x.a.request.kind,x.a.request.dS,⟨x.a.request.key.dev,x.a.request.key.dc,x.a.request.key.attr⟩,x.a.request.name,⟨x.a.request.value.kind,x.a.request.value.n,x.a.request.value.s⟩,x.a.request.text⟩⟩ x.now x.dD).2.1.length≤x.gk.length+1:=nT
  omega
 ·have EO:=Nat.le_trans u1 (Nat.add_le_add_right nT 1)
  exact Nat.le_trans EO (by omega)
theorem Wb{x:Case}(AM:uZ x.gk)(b:fx):AQ x b=true:=by
 unfold AQ
 rw[Nz,NA,V8,V9]
 dsimp only
 cases ah:((nV x||decide ((b.token.size:Int)>1000))||decide ((b.request.text.size:Int)>25000))with
 |true=>rfl
 |false=>
  simp only[cond_false]
  cases he:((fj x.c x.members x.gk x.gS x.a x.now x.dD).2.2 != 0)with
  |true=>
   rcases EM x.c x.members x.gk x.gS x.a x.now x.dD with⟨aa,_⟩|⟨_,w,_,aa⟩
   ·rw[aa,Nl]
    rfl
   ·rw[aa]at he
    cases he
  |false=>
   rw[once AM (lI he),Nl];rfl
theorem Wc{x:Case}(h:pf ⟨.st .Case,x⟩):uZ x.gk:=by
 have m4:k7 ⟨.li .bA,x.gk⟩:=h _ (List.mem_of_getElem? (i:=8) rfl)
 cases m4
 rename_i _ ae
 intro g ah
 have ad:k7 ⟨.int .u64,g.hN.bits⟩:=ae g ah _ (List.mem_of_getElem? (i:=2) rfl)
 cases ad
 rename_i hw
 have hw:(decide (0≤g.hN.bits)&&decide (g.hN.bits≤18446744073709551615))=true:=hw
 simp only[Bool.and_eq_true,decide_eq_true_eq]at hw
 exact⟨g.hN.bits.toNat,by omega,by omega⟩
theorem Wd: ∀x,(∀d∈dv pg.ps x,pf d)→kz pg.pre x∧kA pg.rs (pg.m x)=ph true:=by
 intro x h
 have hc:pf ⟨.st .Case,x.1⟩:=h _ (List.mem_of_getElem? (i:=0) rfl)
 refine⟨Wa (NB hc) x.2,?_⟩
 show ph (AQ x.1 x.2)=ph true
 rw[Wb (Wc hc)]
end Go.aK
