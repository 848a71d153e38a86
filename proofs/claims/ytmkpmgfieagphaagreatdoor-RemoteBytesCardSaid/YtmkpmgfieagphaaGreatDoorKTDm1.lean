/- TD, part K: calls that see all own blocks. Conditions: none. -/
import Derived.Test.YtmkpmgfieagphaaGreatDoorKTDj
import Derived.Test.YtmkpmgfieagphaaGreatDoorKSMu
import Derived.Test.YtmkpmgfieagphaaGreatDoorKTDa
import Derived.Lib.AppendStr
namespace Go.aL
open Go
def EA:ek→ek→Prop
 | .box _ _,.box _ _=>True
 | .row _ _ n _,.row _ _ m _=>n=m
 | .bM _,.bM _=>True
 |_,_=>False
section
variable {w w':World} {ro ro':Nat→Prop} {σ eV:Heap} {β dM:Nat→Value} {N oW:Nat}
theorem bs.move{x:aD}{c:Value}(h:bs w ro σ β N x c)(hw: ∀b,ro b→w'.heap[b]? =w.heap[b]?)(cc: ∀b,ro b→ro' b)(gU:N≤oW)
 (aj: ∀id o,id<N→aE eV id=some o→dM id=β id∧∃cA,aE σ id=some cA∧EA cA o):bs w' ro' eV dM oW x c:=by
 induction h with
 |av x c hx=>exact .av x c (hx.keep hw cc)
 |agg cs c ai _ aY=>exact .agg cs c ai aY
 |tuple cs c ai _ aY=>exact .tuple cs c ai aY
 |ptr id off c aq ak=>
  refine .ptr id off c (by omega) fun t cs ah=>?_
  obtain⟨ad,cA,dW,ai⟩:=aj id _ aq ah
  cases cA with
  |box bD cs'=>
   obtain⟨b,aa,ae⟩:=ak bD cs' dW;exact⟨b,ad.trans aa,ae⟩
  |_=>exact ai.elim
 |dA id off c aq ak=>
  refine .dA id off c (by omega) fun t cs ah=>?_
  obtain⟨ad,cA,dW,ai⟩:=aj id _ aq ah
  cases cA with
  |box bD cs'=>
   obtain⟨b,aa,ae⟩:=ak bD cs' dW;exact⟨b,ad.trans aa,ae⟩
  |_=>exact ai.elim
 |cW id i off c aq ak=>
  refine .cW id i off c (by omega) fun z t n es ah=>?_
  obtain⟨ad,cA,dW,ai⟩:=aj id _ aq ah
  cases cA with
  |row iw bD cJ dQ=>
   have ai:cJ=n:=ai
   subst ai;obtain⟨b,l,h1,aa,ae⟩:=ak iw bD cJ dQ dW;exact⟨b,l,h1,ad.trans aa,ae⟩
  |_=>exact ai.elim
 |aO id c aq ak=>
  refine .aO id c (by omega) fun z t n es ah=>?_
  obtain⟨ad,cA,dW,ai⟩:=aj id _ aq ah
  cases cA with
  |row iw bD cJ dQ=>rw[ad];exact ak iw bD cJ dQ dW
  |_=>exact ai.elim
 |fn f p q c d aa ae _ _ hl ho=>exact .fn f p q c d aa ae hl ho
 |ref id c aq ak=>
  refine .ref id c (by omega) fun bP ah=>?_
  obtain⟨ad,cA,dW,ai⟩:=aj id _ aq ah
  cases cA with
  |bM lI=>rw[ad];exact ak lI dW
  |_=>exact ai.elim
 |top c=>exact .top c
end
section
variable {P:Program} {G:a8} {s:aP} {E:Entry} {a:Act} {w w':World} {β:Nat→Value} {ro:Nat→Prop}
variable {o:Oper}
theorem Tm{x:Operand}{xs:Array Operand}{f:Fn}{p q:List aD}{c d:Array Value}(h:c3 E G s a w β ro)(aa:c.size=p.length)(ae:d.size=q.length)(kg: ∀(j:Nat) (x:aD),p[j]? =some x→bs w ro s.heap β s.next x (c.getD j undef))(vv: ∀(j:Nat) (x:aD),q[j]? =some x→bs w ro s.heap β s.next x (d.getD j undef)):
 ∀(i:Nat) (y:aD),(p++xs.toList.map (aJ G s)++q)[i]? =some y→bs w ro s.heap β s.next y ((c++xs.map a.eval++d).getD i undef):=fun i y ax=>by
 rw[Array.getD_eq_getD_getElem?]
 rcases Nat.lt_or_ge i (p.length+xs.size)with hi|hi
 ·rw[List.getElem?_append_left (by simpa using hi)]at ax
  rw[Array.getElem?_append_left (by simpa[aa]using hi)]
  rcases Nat.lt_or_ge i p.length with mw|mw
  ·rw[List.getElem?_append_left mw]at ax
   rw[Array.getElem?_append_left (by omega),←Array.getD_eq_getD_getElem?]
   exact kg i y ax
  ·rw[List.getElem?_append_right mw,List.getElem?_map]at ax
   rw[Array.getElem?_append_right (by omega),aa]
   cases aS:xs.toList[i-p.length]? with
   |none=>simp[aS]at ax
   |some z=>
    simp only[aS,Option.map_some,Option.some.injEq]at ax;subst ax
    have pc:xs[i-p.length]? =some z:=by simpa using aS
    simp only[Array.getElem?_map,pc,Option.map_some,Option.getD_some]
    exact h.eval z
 ·rw[List.getElem?_append_right (by simpa using hi)]at ax
  rw[Array.getElem?_append_right (by simpa[aa]using hi),←Array.getD_eq_getD_getElem?]
  have:=vv _ y ax
  simpa[aa]using this
def vw(P:Program)(G:a8)(o:Oper)(s:aP)(f:FuncId)(p q:List aD)(xs:Array Operand):Prop:=
 ∀E a w β ro,c3 E G s a w β ro→∃c d:Array Value,c.size=p.length∧d.size=q.length∧(∀(j:Nat) (x:aD),p[j]? =some x→bs w ro s.heap β s.next x (c.getD j undef))∧(∀(j:Nat) (x:aD),q[j]? =some x→bs w ro s.heap β s.next x (d.getD j undef))∧
  ∀cK,(execOp a.eval o).run P cK=(callFunc f (c++xs.map a.eval++d)).run P cK
theorem vw.value{x:Operand}{xs:Array Operand}{ts:Array TypeId}(an:o.op= .call {callee:=.value x,args:=xs,argTypes:=ts}){f:FuncId}{p q:List aD}(hx:aJ G s x= .fn (.func f) p q):vw P G o s f p q xs:=by
 intro E a w β ro h
 have lL:=h.eval x
 rw[hx]at lL
 generalize he:a.eval x=Kg at lL
 cases lL with
 |fn _ _ _ c d aa ae kg vv=>
  refine⟨c,d,aa,ae,kg,vv,fun cK=>?_⟩
  simp only[execOp,an,resolve,he,Deferred.ofValue,Sem.run_bind,Sem.run_pure,Result.andThen_ok,invoke]
def methodOf(P:Program)(t:TypeId)(name:String):Option Nat:=
 match P.info? t,P.underlying t with
 |some i,some d=>match i.methods.find? (·.name==name),(match d with
  | .pointer _=>false
  |_=>true)with
  |some m,true=>match m.path.isEmpty,m.func with
   |true,some (f,false)=>some f
   |_,_=>none
  |_,_=>none
 |_,_=>none
theorem zfC{t:TypeId}{name:String}{f:Nat}(h:methodOf P t name=some f)(v:Value)(n:Nat)(w:World):(method (n+1) t v name).run P w= .ok (f,v) w:=by
 unfold methodOf at h
 split at h
 ·rename_i i d hi hd
  split at h
  ·rename_i m hm ak
   split at h
   ·rename_i g rz mc
    cases h
    have rH:m.path.toList=[]:=by
     have:=Array.isEmpty_iff.1 rz
     rw[this]
    unfold method;simp only[Sem.run_bind,typeInfo,hi,Sem.run_pure,Result.andThen_ok,hm,rH,follow,mc]
    cases d<;>first|(cases ak;done)|simp[receiverAt,run_underlying hd,Place.get,Result.andThen,typeInfo,hi,hm,rH,follow,mc]
   ·cases h
  ·cases h
 ·cases h
theorem vw.invoke{y:aD}{x:Operand}{xs:Array Operand}{ts:Array TypeId}{name:String}(an:o.op= .call {callee:=.invoke x name,args:=xs,argTypes:=ts}){t:TypeId}{f:Nat}(hm:methodOf P t name=some f)
 (aw: ∀E a w β ro,c3 E G s a w β ro→∃v,a.eval x= .iface t v∧bs w ro s.heap β s.next y v):vw P G o s f [y] [] xs:=by
 intro E a w β ro h
 obtain⟨v,he,ag⟩:=aw E a w β ro h
 refine⟨#[v],#[],rfl,rfl,fun j z af=>?_,fun j z af=>by simp at af,fun cK=>?_⟩
 ·cases j with
  |zero=>simp at af;subst af;exact ag
  |succ j=>simp at af
 ·have hex:(#[Value.iface t v]++xs.map a.eval).extract 1 (#[Value.iface t v]++xs.map a.eval).size=xs.map a.eval:=by
   apply Array.ext';simp only[Array.toList_extract,Array.toList_append,Array.size_append];simp[List.extract];exact List.take_of_length_le (by simp)
  have zfD:=fun n=>zfC (P:=P) hm v n cK
  have hd:P.types.size+Made.depth=(P.types.size+99)+1:=rfl
  simp only[execOp,an,resolve,he,Sem.run_bind,Sem.run_pure,Result.andThen_ok,Go.invoke]
  have aM:(#[Value.iface t v]++xs.map a.eval)[0]? =some (.iface t v):=by rw[Array.getElem?_append_left (by show 0<1;decide)];rfl
  rw[hex,aM]
  have ak: ∀k:Program→Sem Next,((program >>= k):Sem Next).run P cK=(k P).run P cK:=fun k=>rfl
  show((program >>= fun Ah=>method (Ah.types.size+Made.depth) t v name >>= fun x=>callFunc x.1 (#[x.2]++xs.map a.eval)):Sem Next).run P cK=_;rw[ak,Sem.run_bind,hd,zfD,Result.andThen_ok,Array.append_empty]
theorem zfE{xs:Array Operand}{f:FuncId}{p q:List aD}(vx:vw P G o s f p q xs)(gC:m5 P f=true)
 {R:aD→Heap→Prop}(hc:dG P G f (p++xs.toList.map (aJ G s)++q) s.heap s.next R){bp:aP→Prop}
 (fQ: ∀r bV,R r bV→∃m,s.next≤m∧gB m r=true∧ld m bV=true∧(∀id o,id<s.next→aE bV id=some o→∃cA,aE s.heap id=some cA∧EA cA o)∧bp (aP.put ⟨s.cS,bV,m,s.base⟩ o.dst r)):
 ∀(E:Entry) (a:Act) (w:World),Rel E G s a w→∀(K:Act→World→Prop) (Q:Exit→Act→World→Prop),(∀t,bp t→∀bc w',Rel E G t bc w'→K bc w')→o.wp P a w K Q:=by
 intro E a w ⟨β,ro,h⟩ K Q hK
 obtain⟨c,d,aa,ae,kg,vv,cr⟩:=vx E a w β ro h
 ·unfold Oper.wp
  rw[cr w,Dt gC]
  have hp:=hc w β ro (c++xs.map a.eval++d) (by simp[aa,ae,Nat.add_assoc]) (Tm (x:=.const undef) (f:=.func f) h aa ae kg vv) h.heap h.ic h.trans.new
  refine Calls.mono hp fun e w' aI=>?_
  obtain⟨v,r,bV,dM,ro',cJ,rfl,ag,dB,hP,cE⟩:=aI;obtain⟨m,hm,zfF,Tn,zH,eX⟩:=fQ r bV ag
  have hw: ∀b,ro b→w'.heap[b]? =w.heap[b]? :=fun b ad=>cE.frame b (h.heap.lt b ad) (h.heap.fh b ad)
  have cc: ∀b,ro b→ro' b:=cE.j2
  have aj: ∀id o,id<s.next→aE bV id=some o→dM id=β id∧∃cA,aE s.heap id=some cA∧EA cA o:=fun id o bH ah=>⟨(cE.dL id bH o ah).2,zH id o bH ah⟩
  have fe:c3 E G ⟨s.cS,bV,m,s.base⟩ a w' dM ro':=by
   refine⟨h.defers,h.size,fun i x hx=>(h.slot i x hx).move hw cc hm aj,⟨fun id o ah=>?_,hP.inj,hP.fh,hP.lt⟩,h.ic.keep hw cc,?_,h.base⟩
   ·obtain⟨_,zT⟩:=rF Tn ah
    cases hP.c6 id o ah with
    |box t cs b arr aB bf ck ep=>exact .box t cs b arr aB bf ck fun j x af=>(ep j x af).lower (rE (zT t cs rfl) af)
    |row t n es xs aB bf ck=>exact .row t n es xs aB bf ck
    |gb t n es aB=>exact .gb t n es aB
    |bM bP b o aB bf ck=>exact .bM bP b o aB bf ck
   ·have t:=h.trans
    refine⟨cE.os.trans t.os,cE.tape.trans t.tape,cE.output.trans t.output,Nat.le_trans t.size cE.size,fun b ad hn=>?_,fun b ad=>?_,fun b ad=>cc b (t.j2 b ad),fun b ad=>?_,fun id bH o ah=>?_,fun id o ah=>(rF Tn ah).1,Nat.le_trans t.le hm⟩
    ·rw[←t.frame b ad hn]
     refine cE.frame b (Nat.lt_of_lt_of_le ad t.size) fun hB=>?_
     rcases t.hk b hB with q|q
     ·exact hn q
     ·omega
    ·rcases cE.jl b ad with q|q|q
     ·exact t.jl b q
     ·rcases t.hk b q with q|q
      ·exact .inr (.inl q)
      ·exact .inr (.inr q)
     ·exact .inr (.inr (Nat.le_trans t.size q))
    ·rcases cE.hk b ad with q|q
     ·exact t.hk b q
     ·exact .inr (Nat.le_trans t.size q)
    ·have Kb:id<s.next:=Nat.lt_of_lt_of_le bH t.le
     obtain⟨aa,ae⟩:=aj id o Kb ah;obtain⟨cA,au,_⟩:=ae;obtain⟨c1,dg⟩:=t.dL id bH cA au;exact⟨c1,aa.trans dg⟩
  exact hK _ eX _ _ ⟨dM,ro',fe.put o.dst r v (dB.lower zfF)⟩
end
end Go.aL
namespace Go.aL
open Go
inductive vy:ek→ek→Prop where
 |same (o:ek):vy o o
 |box (t:TypeId) {cs ds:List aD}:fU cs ds→vy (.box t cs) (.box t ds)
 |row (t:TypeId) (n:Nat) {es fs:List (List a6)}:es.length=fs.length→(∀e∈fs,e.length=n)→ga es.flatten fs.flatten→vy (.row false t n es) (.row false t n fs)
def qK(s t:aP):Prop:=∀E (G:a8) a w β ro,c3 E G s a w β ro→c3 E G t a w β ro
theorem qK.le{s t:aP}(h:qK s t):cn s t:=fun E G a w ⟨β,ro,ag⟩=>⟨β,ro,h E G a w β ro ag⟩
theorem qK.of{s t:aP}(ad:t.base=s.base)(hn:s.next≤t.next)(aq:t.cS.length=s.cS.length)(ai: ∀(i:Nat) (v:aD),t.cS[i]? =some v→∃u,s.cS[i]? =some u∧Sub u v)
 (bb: ∀(id:Nat) (o:ek),aE t.heap id=some o→∃cA,aE s.heap id=some cA∧vy cA o):qK s t:=by
 intro E G a w β ro h
 have nQ: ∀id ty cs,aE t.heap id=some (.box ty cs)→β id=β id∧∃ty cs,aE s.heap id=some (.box ty cs):=fun id ty cs ah=>by
  obtain⟨cA,aa,ae⟩:=bb id _ ah
  cases ae with
  |same=>exact⟨rfl,ty,cs,aa⟩
  |box _ h=>exact⟨rfl,_,_,aa⟩
 have cZ: ∀id z ty n es,aE t.heap id=some (.row z ty n es)→β id=β id∧∃z ty es,aE s.heap id=some (.row z ty n es):=fun id z ty n es ah=>by
  obtain⟨cA,aa,ae⟩:=bb id _ ah
  cases ae with
  |same=>exact⟨rfl,z,ty,es,aa⟩
  |row _ _=>exact⟨rfl,_,_,_,aa⟩
 have nR: ∀id bP,aE t.heap id=some (.bM bP)→β id=β id∧∃bP,aE s.heap id=some (.bM bP):=fun id bP ah=>by
  obtain⟨cA,aa,ae⟩:=bb id _ ah
  cases ae with
  |same=>exact⟨rfl,bP,aa⟩
 have hex: ∀id o,aE t.heap id=some o→∃cA,aE s.heap id=some cA∧cA.live=o.live:=fun id o ah=>by
  obtain⟨cA,aa,ae⟩:=bb id o ah
  cases ae<;>exact⟨_,aa,rfl⟩
 have own: ∀b,Own t.heap β b→Own s.heap β b:=fun b ⟨id,o,ah,KE,bg⟩=>by
  obtain⟨cA,aa,ae⟩:=hex id o ah;exact⟨id,cA,aa,by rw[ae];exact KE,bg⟩
 refine⟨h.defers,by rw[aq];exact h.size,fun i x hx=>?_,⟨fun id o ah=>?_,fun id gl o cA b aa ae au aQ bF cG=>?_,fun b ad an=>h.heap.fh b ad (own b an),h.heap.lt⟩,h.ic,?_,by rw[ad];exact h.base⟩
 ·obtain⟨u,hu,gA⟩:=ai i x hx
  exact(gA _ _ _ _ _ _ (h.slot i u hu)).keep (fun _ _=>rfl) (fun _ h=>h) hn nQ cZ nR
 ·obtain⟨cA,aa,zfG⟩:=bb id o ah
  have dh:=(h.heap.c6 id cA aa).keep (fun _ _=>rfl) (fun _ h=>h) hn (Nat.le_refl _) rfl (fun _ _ _=>rfl) nQ cZ nR
  cases zfG with
  |same=>exact dh
  |box ty gA=>
   cases dh with
   |box _ _ b arr aB bf ck ep=>
    refine .box ty _ b arr aB bf (by rw[ck,gA.at.1]) fun j x af=>?_
    obtain⟨u,hu,LO⟩:=gA.at.2 j x af;exact LO _ _ _ _ _ _ (ep j u hu)
  |row ty n aq hn gA=>
   cases dh with
   |row _ _ _ xs aB bf ck=>
    refine .row ty n _ xs (by rw[←aq];exact aB) hn fun j x af=>?_
    obtain⟨u,hu,LO⟩:=gA.at.2 j x af;exact LO _ _ _ (ck j u hu)
 ·obtain⟨p,g1,g2⟩:=hex id o aa
  obtain⟨fX,g3,g4⟩:=hex gl cA ae;exact h.heap.inj id gl p fX b g1 g3 (by rw[g2];exact au) (by rw[g4];exact aQ) bF cG
 ·have px:=h.trans
  refine⟨px.os,px.tape,px.output,px.size,px.frame,px.jl,px.j2,fun b ad=>px.hk b (own b ad),fun id hi o ah=>?_,fun id o ah=>?_,Nat.le_trans px.le hn⟩
  ·obtain⟨p,g1,_⟩:=hex id o ah
   exact px.dL id hi p g1
  ·obtain⟨p,g1,_⟩:=hex id o ah
   exact Nat.lt_of_lt_of_le (px.new id p g1) hn
theorem cn.of{s t:aP}(ad:t.base=s.base)(hn:s.next≤t.next)(aq:t.cS.length=s.cS.length)(ai: ∀(i:Nat) (v:aD),t.cS[i]? =some v→∃u,s.cS[i]? =some u∧Sub u v)
 (bb: ∀(id:Nat) (o:ek),aE t.heap id=some o→∃cA,aE s.heap id=some cA∧vy cA o):cn s t:=(qK.of ad hn aq ai bb).le
theorem qK.put{s t:aP}{i:Nat}{x:a6}(h:qK s t)(ai:s.cS[i]? =some (.av x)):qK s (t.put (some i) (.av x)):=by
 intro E G a w β ro ag
 have aH:=h E G a w β ro ag
 refine⟨aH.defers,by simp only[aP.put,List.length_set];exact aH.size,fun j y ax=>?_,aH.heap,aH.ic,aH.trans,aH.base⟩
 simp only[aP.put,List.getElem?_set]at ax
 split at ax
 ·rename_i e
  subst e
  split at ax
  ·cases ax
   cases ag.slot i (.av x) ai with
   |av _ _ aw=>exact .av _ _ aw
  ·cases ax
 ·exact aH.slot j y ax
section
variable {P:Program} {G:a8}
theorem dR.xJ{o:Oper}{s t bD:aP}(h:dR P G o s t)(aq:cn t bD):dR P G o s bD:=
 fun E a w ag K Q hK=>h E a w ag K Q fun bc w' dX=>hK bc w' (aq E G bc w' dX)
theorem To{s:aP}{dst:Option Nat}{v bh:aD}(h:Sub v bh):cn (s.put dst v) (s.put dst bh):=by
 cases dst with
 |none=>exact cn.refl _
 |some d=>
  refine cn.of rfl (Nat.le_refl _) (by simp[aP.put]) (fun i u hu=>?_) (fun id o an=>⟨o,an,.same o⟩)
  simp only[aP.put,List.getElem?_set]at hu⊢
  split at hu
  ·rename_i e
   rw[if_pos e]
   split at hu
   ·rename_i bH
    cases hu;rw[if_pos bH];exact⟨_,rfl,h⟩
   ·cases hu
  ·rename_i e
   rw[if_neg e];exact⟨u,hu,Sub.refl _⟩
theorem Tp{s:aP}{h':Heap}{dst:Option Nat}{v:aD}(bb: ∀id o,aE h' id=some o→∃cA,aE s.heap id=some cA∧vy cA o):cn (s.put dst v) (aP.put {s with heap:=h'} dst v):=by
 cases dst with
 |none=>exact cn.of rfl (Nat.le_refl _) rfl (fun i u hu=>⟨u,hu,Sub.refl _⟩) bb
 |some d=>exact cn.of rfl (Nat.le_refl _) rfl (fun i u hu=>⟨u,hu,Sub.refl _⟩) bb
theorem LP: ∀{l m:List a6},fU (l.map .av) (m.map .av)→ga l m
 |[],[],_=>.nil
 |[],_::_,h=>by cases h
 |_::_,[],h=>by cases h
 |x::l,y::m,h=>by
  cases h with
  |cons aa ae=>
   refine .cons (fun w ro c hc=>?_) (LP ae)
   have:=aa w ro [] (fun _=>undef) 0 c (.av x c hc)
   cases this with
   |av _ _ h=>exact h
theorem ga.refl: ∀(l:List a6),ga l l
 |[]=>.nil
 |x::r=>.cons (lQ.refl x) (ga.refl r)
theorem ga.append{a b c d:List a6}(h:ga a b)(k:ga c d):ga (a++c) (b++d):=by
 induction h with
 |nil=>exact k
 |cons h _ aY=>exact .cons h aY
end
section
variable {P:Program} {G:a8} {s:aP}
theorem zfH{o:Oper}(t:TypeId)(len:Nat)(parts:Array (Nat × Operand))(an:o.op= .buildSlice t len parts){e n:Nat}(hu:P.underlying t=some (.slice e))(bN:(P.info? e).map (·.size)=some n)
 {zs:List Value}(aS:zeroCells P e=some zs)(sU:zs.all Value.oneCell'=true)(mq:zs.length=n)(hlen:0<len*n∧len*n≤16777216)
 {ps:List (Nat × aD)}(rI:parts.toList.map (fun p=>(p.1,aJ G s p.2))=ps)(ec:ps.all (fun p=>(cT p.2).all (eE s.heap))=true)
 {ds:List aD}(hf:j8 (fun i=>some (i*n,n)) ((List.replicate len (zs.map fun z=>aD.av (.v z))).flatten) ps=some ds)(ad:s.base≤s.next):
 dR P G o s ({s with heap:=(s.next,.box e ds)::s.heap,next:=s.next+1}.put o.dst (.dA s.next len)):=by
 have m6:ds.length=len*n:=by
  have: ∀(ps:List (Nat × aD)) (cs ds:List aD),j8 (fun i=>some (i*n,n)) cs ps=some ds→ds.length=cs.length:=by
   intro ps
   induction ps with
   |nil=>intro cs ds h;simp[j8]at h;rw[h]
   |cons p r aY=>
    intro cs ds h;obtain⟨i,v⟩:=p;simp only[j8]at h
    split at h
    ·rename_i hc
     rw[aY _ _ h,qj _ _ _ (by omega)]
    ·cases h
  rw[this ps _ _ hf,j3 (n:=n) (fun e he=>by rw[List.mem_replicate]at he;rw[he.2];simpa using mq)]
  simp
 intro E a w ⟨β,ro,ag⟩ K Q hK
 obtain⟨aa,ae⟩:=Kp ag rI ec
 obtain⟨z,j6,o1,_⟩:=zK aS w
 have eW:(List.replicate len (zs.map fun z=>aD.av (.v z))).flatten.length=len*n:=by
  rw[j3 (n:=n) (fun e he=>by rw[List.mem_replicate]at he;rw[he.2];simpa using mq)];simp
 have zdz:zs.toArray.size=n:=by simpa using mq
 have rJ:0<n:=by
  rcases Nat.eq_zero_or_pos n with h|h
  ·rw[h]at hlen;simp at hlen
  ·exact h
 obtain⟨ys,g1,g2,g3⟩:=Dx (place':=fun i=>some (i*n,n)) (fun _ _ h=>h) ag.heap hf aa ae (xs:=(Array.range (len*n)).map fun x=>zs.toArray[x%zs.toArray.size]!) (by rw[eW];simp) (fun j x af=>by
  have cM:j<len*n:=by rw[←eW];exact(List.getElem?_eq_some_iff.1 af).1
  have hm:j=(j/ n)*n+j%n:=by rw[Nat.mul_comm];exact(Nat.div_add_mod j n).symm
  have nX:j%n<n:=Nat.mod_lt _ rJ
  have nY:j/ n<len:=by rw[Nat.div_lt_iff_lt_mul rJ];exact cM
  rw[hm,rr (n:=n) (fun e he=>by rw[List.mem_replicate]at he;rw[he.2];simpa using mq) (i:=j/ n) (e:=zs.map fun z=>aD.av (.v z)) (by simp[nY]) (j%n) nX]at af
  have:=Ko (w:=w) (ro:=ro) (σ:=s.heap) (β:=β) (N:=s.next) sU (j%n) x af
  have aB:(Array.map (fun x=>zs.toArray[x%zs.toArray.size]!) (Array.range (len*n))).getD j undef=zs.toArray.getD (j%n) undef:=by
   have au:j%n<zs.length:=by omega
   simp[cM,mq,List.getElem?_eq_getElem au]
  rw[aB]
  exact this)
 have cr:(execOp a.eval o).run P w= .ok (.value (.slice (some ⟨w.heap.size,0,none⟩) len len)) (w.alloc (.cells ys e)):=by
  have zY:(sizeOf e).run P w= .ok n w:=by
   cases hi:P.info? e with
   |none=>simp[hi]at bN
   |some i=>simp[hi]at bN;simp[sizeOf,typeInfo,hi,bN]
  have b4: ¬len*n>2^24:=by omega
  have jr: ¬len*n=0:=by omega
  simp only[execOp,an,Sem.run_bind,Instr.buildSlice,run_underlying hu,Result.andThen_ok,zY,if_neg b4,if_neg jr,j6,Sem.run_pure,o1]
  erw [g1]
  simp[newRow]
 have jm:aE s.heap s.next=none:=by
  cases ah:aE s.heap s.next with
  |none=>rfl
  |some p=>have:=ag.trans.new _ _ ah;omega
 have up: ∀(x:aD) (c:Value),bs w ro s.heap β s.next x c→bs (w.alloc (.cells ys e)) ro ((s.next,.box e ds)::s.heap) (gW β s.next (.pointer (some ⟨w.heap.size,0,none⟩))) (s.next+1) x c:=fun x c hx=>
  hx.move (fun b ad=>(Go.RowKit.Below.heap_alloc w _ b (ag.heap.lt b ad))) (fun _ h=>h) (Nat.le_succ _) fun id o bH ah=>by
   have b4: ¬s.next=id:=by omega
   simp only[aE,if_neg b4]at ah;refine⟨c0 _ _ (fun bb=>b4 bb.symm),o,ah,?_⟩
   cases o with
   |box=>trivial
   |row=>rfl
   |bM=>trivial
 have fe:=ag.new (w':=w.alloc (.cells ys e)) s.next jm ad (Nat.le_refl _) (.box e ds) (.pointer (some ⟨w.heap.size,0,none⟩)) rfl rfl rfl (by simp) (fun b ad=>Go.RowKit.Below.heap_alloc w _ b ad) (fun b ad=>by simp[b3]at ad;omega) rfl
  (.box e ds w.heap.size ys (by rw[dS]) (heap_alloc_new w _) g2 fun j x af=>up _ _ (g3 j x af))
 unfold Oper.wp
 rw[cr]
 exact hK _ _ ⟨_,ro,fe.put o.dst (.dA s.next len) (.slice (some ⟨w.heap.size,0,none⟩) len len) (.dA _ _ _ (Nat.lt_succ_self _) fun t cs _=>⟨_,dS _ _ _,rfl⟩)⟩
end
def ab.AL:ab→Bool
 | .aU _ _=>true
 | .fd _ _ _ _=>true
 | .cs _=>true
 | .ip _ _ _=>true
 |_=>false
theorem EB{G:a8}{e:Env}: ∀{l:List ab},l.all ab.AL=true→∃vs,iQ (ab.bQ G e l)=some vs∧ab.bQ G e l=vs.map .av
 |[],_=>⟨[],rfl,rfl⟩
 |x::r,h=>by
  simp only[List.all_cons,Bool.and_eq_true]at h;obtain⟨vs,aa,ae⟩:=EB (G:=G) (e:=e) h.2
  have: ∃y,x.den G e= .av y:=by
   cases x<;>first|exact⟨_,rfl⟩|(simp[ab.AL]at h)
  obtain⟨y,ax⟩:=this;refine⟨y::vs,?_,?_⟩
  ·simp only[ab.bQ,ax,iQ,aa]
  ·simp only[ab.bQ,ax,ae,List.map_cons]
mutual
def ab.kill(id:Nat):ab→ab
 | .ch l=>.ch (ab.eg id l)
 | .tp l=>.tp (ab.eg id l)
 | .ee k o=>match decide (k=id)with
  |true=>.top
  |false=>.ee k o
 | .gN k x o=>match decide (k=id)with
  |true=>.top
  |false=>.gN k x o
 | .gX k o x n=>match decide (k=id)with
  |true=>.top
  |false=>.gX k o x n
 | .aO k=>match decide (k=id)with
  |true=>.top
  |false=>.aO k
 | .cC k n=>match decide (k=id)with
  |true=>.top
  |false=>.cC k n
 | .fj g (some k) o=>match decide (k=id)with
  |true=>.fj g none o
  |false=>.fj g (some k) o
 | .fn f a b=>.fn f (ab.eg id a) (ab.eg id b)
 | .gZ k=>match decide (k=id)with
  |true=>.top
  |false=>.gZ k
 | .fJ g b x=>.fJ g b (ab.kill id x)
 |x=>x
def ab.eg(id:Nat):List ab→List ab
 |[]=>[]
 |x::r=>ab.kill id x::ab.eg id r
end
def ba.map{α:Type}(f:α→α):ba α→ba α
 | .emp=>.emp
 | .n v l r=>.n (match v with|some x=>some (f x)|none=>none) (l.map f) (r.map f)
theorem ba.get_map{α:Type}(f:α→α): ∀(t:ba α) (k:Nat),(t.map f).get k=(t.get k).map f
 | .emp,_=>rfl
 | .n v l r,k=>by
  simp only[ba.map,ba.get]
  split
  ·cases v<;>rfl
  ·split
   ·exact ba.get_map f l _
   ·exact ba.get_map f r _
structure db where
 xs:List bK
 ns:List ff
 RQ:Option Nat
 h:List (Nat × bG)
 n:Nat
 v:ab
def db.l(r:db)(l:ba ab):ba ab:=
 match r.RQ with
 |none=>l
 |some id=>l.map (ab.kill id)
def db.st(r:db)(S:ao)(dst:Option Nat):ao:=({S with l:=r.l S.l,h:=r.h,n:=r.n}:ao).put dst r.v
def mF(P:Program)(G:a8)(N B:Nat)(M:List aR)(o:Oper)(S:ao)(r:db):Prop:=
 ∀e,(∀c∈S.g,c.ok e)→(∀(j:Nat) (x:bK),r.xs[j]? =some x→Env.at e (S.k+j)=x.den M e)→(∀n∈r.ns,n.ok M e)→dR P G o (S.den G N B e) ((r.st S o.dst).den G N B e)
def LQ(P:Program)(B:Nat)(S:ao)(t:TypeId):Option db:=
 match zeroCells P t with
 |some zs=>match zs.all Value.oneCell'&&Nat.ble B S.n with
  |true=>some ⟨[],[],none,(S.n,.dj t (zs.map .cs))::S.h,S.n+1,.ee S.n 0⟩
  |false=>none
 |none=>none
def LR(B:Nat)(S:ao)(t:TypeId)(x:ab):Option db:=
 match x.cells.all (kM S.h)&&Nat.ble B S.n with
 |true=>some ⟨[],[],none,(S.n,.dj t x.cells)::S.h,S.n+1,.ee S.n 0⟩
 |false=>none
def LS(P:Program)(S:ao)(t:TypeId)(p x:ab):Option db:=
 match p with
 | .ee id off=>match da S.h id,(P.info? t).map (·.size)with
  |some (.dj bt l),some n=>match x.cells.all (kM S.h)&&(Nat.beq n x.cells.length&&Nat.ble (off+n) l.length)with
   |true=>some ⟨[],[],none,jv S.h id (.dj bt (en l off x.cells)),S.n,.top⟩
   |false=>none
  |_,_=>none
 | .gN id i off=>match da S.h id,(P.info? t).map (·.size),i.rt with
  |some (.rw bt c y),some n,some (.int k)=>match x.cells.all ab.AL&&((x.cells.all (kM S.h)&&y.ez (.li c))&&(Nat.beq n x.cells.length&&(Nat.ble (off+n) (bZ c)&&ht (eY c) (en (iT c S.k 0 (eY c)) off x.cells))))with
   |true=>some ⟨[.f2 (.kc c k) y i,.up c y i (.ch (en (iT c S.k 0 (eY c)) off x.cells))],pt S.g (.iU c) (.kc c k) y i,
    none,jv S.h id (.rw bt c (.aU (.li c) (S.k+1))),S.n,.top⟩
   |false=>none
  |_,_,_=>none
 |_=>none
section
variable {P:Program} {G:a8} {o:Oper} {N B:Nat} {S:ao} {M:List aR}
theorem zfI{t:TypeId}{r:db}(an:o.op= .alloc t)(h:LQ P B S t=some r):mF P G N B M o S r:=fun e hf hx hn=>by
 unfold LQ at h
 split at h
 ·rename_i zs aS
  split at h
  ·rename_i ad
   cases h;simp only[Bool.and_eq_true]at ad
   have:=Q7 (G:=G) (s:=S.den G N B e) t an (Nat.le_of_ble_eq_true ad.2) aS ad.1
   rw[db.st,fb];simp only[ao.den,cy,bG.den,ab.den,db.l]at this⊢;rw[e6,List.map_map];exact this
  ·cases h
 ·cases h
theorem zfJ{t:TypeId}{x:Operand}{r:db}(an:o.op= .box t x)(h:LR B S t (S.aZ N x)=some r):mF P G N B M o S r:=fun e hf hx hn=>by
 unfold LR at h
 split at h
 ·rename_i ad
  cases h;simp only[Bool.and_eq_true]at ad
  have aw:=vn (G:=G) (e:=e) ad.1
  have:=Q5 (P:=P) (G:=G) (s:=S.den G N B e) t x an (Nat.le_of_ble_eq_true ad.2) (by rw[bI hf,aw];exact xB ad.1)
  rw[bI hf,aw]at this;rw[db.st,fb];exact this
 ·cases h
theorem zfK{c:bL}{l:List (fO c)}{j:Nat}{iY aB:fO c}{vs:List a6}(aM:l[j]? =some iY)(ai:ga vs (cb c aB)):ga ((l.map (cb c)).set j vs).flatten ((l.set j aB).map (cb c)).flatten:=by
 induction l generalizing j with
 |nil=>simp at aM
 |cons x l aY=>
  cases j with
  |zero=>
   simp only[List.map_cons,List.set_cons_zero,List.flatten_cons];exact ai.append (ga.refl _)
  |succ j=>
   simp only[List.map_cons,List.set_cons_succ,List.flatten_cons];exact(ga.refl _).append (aY (by simpa using aM))
theorem zfL{t:TypeId}{p x:Operand}{r:db}(an:o.op= .store t p x)(h:LS P S t (S.aZ N p) (S.aZ N x)=some r):mF P G N B M o S r:=fun e hf hx hn=>by
 unfold LS at h
 split at h
 ·rename_i id off ak
  split at h
  ·rename_i bt l n ah bN
   split at h
   ·rename_i ad
    cases h;simp only[Bool.and_eq_true]at ad
    have aw:=vn (G:=G) (e:=e) ad.1
    have hlen:=Nat.eq_of_beq_eq_true ad.2.1
    have lN:cT (aJ G (S.den G N B e) x)=ab.bQ G e (S.aZ N x).cells:=by rw[bI hf,aw]
    have:=Q9 (P:=P) (G:=G) (s:=S.den G N B e) t p x an (id:=id) (off:=off) (by rw[bI hf,ak];rfl) (bt:=bt) (cs:=ab.bQ G e l) (by simp only[ao.den,ei,ah,Option.map_some,bG.den])
     (vs:=ab.bQ G e (S.aZ N x).cells) lN (xB ad.1) (by rw[me,bN,hlen]) (by rw[me,me,←hlen];exact Nat.le_of_ble_eq_true ad.2.2)
    rw[db.st,fb];simp only[ao.den,tj,bG.den,ab.den,db.l]at this⊢;rw[e6,Eg,←e6,←e6];exact this
   ·cases h
  ·cases h
 ·rename_i id i off ak
  split at h
  ·rename_i bt c y n k ah bN hi
   split at h
   ·rename_i ad
    cases h;simp only[Bool.and_eq_true]at ad;obtain⟨gq,⟨iq,hV⟩,tv,xK,AM⟩:=ad
    have hlen:=Nat.eq_of_beq_eq_true tv
    obtain⟨g1,g2⟩:=xz hf hi hn;obtain⟨vs,v1,v2⟩:=EB (G:=G) (e:=e) gq
    have fD:vs.length=n:=by
     have:=congrArg List.length v2
     rw[me,List.length_map]at this;omega
    have lN:cT (aJ G (S.den G N B e) x)=ab.bQ G e (S.aZ N x).cells:=by rw[bI hf,vn iq]
    have aM:Env.at e S.k=⟨.st c,List.getD (y.az e (.li c)) (Int.toNat (i.az e (.int k))) (aA c)⟩:=hx 0 _ rfl
    have aa:Env.at e (S.k+1)=_:=hx 1 _ rfl
    have eK:=Tb g1 g2
    have dD:=Rb (P:=P) (G:=G) (s:=S.den G N B e) t p x an (id:=id) (i:=(cm (i.dyn e)).toNat) (off:=off) (by rw[bI hf,ak];rfl) (bt:=bt) (n:=bZ c) (es:=List.map (cb c) (y.az e (.li c))) (by simp only[ao.den,ei,ah,Option.map_some,bG.den])
     (e:=cb c (List.getD (y.az e (.li c)) (Int.toNat (i.az e (.int k))) (aA c))) (by rw[List.getElem?_map,lT hi,eK];rfl) (by rw[lN];exact v1) (by rw[bN,fD]) (by rw[fD];exact Nat.le_of_ble_eq_true xK)
    refine dD.xJ ?_
    rw[db.st,fb]
    have la:ga (en (cb c (List.getD (y.az e (.li c)) (Int.toNat (i.az e (.int k))) (aA c))) off vs) (cb c (pd c (fV e (eY c) (en (iT c S.k 0 (eY c)) off (S.aZ N x).cells)))):=by
     have:=Aq (G:=G) (e:=e) AM
     rw[e6,Eg,←e6,←e6,tc,aM,cB,v2,←Eg]at this;exact LP this
    have fe:(ab.aU (.li c) (S.k+1)).az e (.li c)=List.set (y.az e (.li c)) (cm (i.dyn e)).toNat (pd c (fV e (eY c) (en (iT c S.k 0 (eY c)) off (S.aZ N x).cells))):=by
     simp only[ab.az,ab.fr,ab.dyn,cB,aa,bK.den,ab.get,ab.cells]
    refine Tp (s:={S.den G N B e with heap:=eN (S.den G N B e).heap id _}) (h':=cy G e (jv S.h id (.rw bt c (.aU (.li c) (S.k+1))))) fun gl ie AN=>?_
    rw[tj,wS]at AN;simp only[wS]
    by_cases bd:id=gl
    ·rw[if_pos bd]at AN⊢
     cases AN;refine⟨_,rfl,?_⟩
     simp only[bG.den];rw[fe];refine .row bt (bZ c) (by simp) (fun q aI=>?_) (zfK (by rw[lT hi];exact eK) la)
     obtain⟨z,_,rfl⟩:=List.mem_map.1 aI;exact DL c z
    ·rw[if_neg bd]at AN⊢
     exact⟨ie,AN,.same ie⟩
   ·cases h
  ·cases h
 ·cases h
end
end Go.aL
namespace Go.aL
open Go Go.Lib
section
variable {P:Program}
theorem LU{w:World}(t u ty e:TypeId){i:TypeInfo}(aH:P.underlying t=some (.slice e))(hu:P.underlying u=some .string)(hi:P.info? e=some i)(aS:i.zero=some (.int .u8 0))(ix:i.size=1)(js:i.bytes=1)
 {v:Value}{n:Nat}{xs:List Value}(cZ:ib w e 1 v n xs)(s:ByteArray)(sV:n+s.size≤maxLen)(zZ:n+s.size≤140737488355328):
 ∃bh w',(Builtin.append_ #[t,u] ty #[v,.string s]).run P w= .ok bh w'∧ib w' e 1 bh (n+s.size) (xs++strCells s)∧w.grownBy w' (b3 v)∧(∀k,b3 bh=some k→b3 v=some k∨w.heap.size≤k):=by
 have zjX:n+s.size≤9223372036854775807:=by simp only[maxLen]at sV;omega
 have jL:xs.length=n:=by simpa using cZ.1
 have hlen:(xs++strCells s).length=(n+s.size)*1:=by rw[List.length_append,jL,strCells_length,Nat.mul_one]
 have grown: ∀(dL:Nat),dL<n+s.size→∀(row:Option Nat),
  ib (w.drew.alloc (.cells (xs.toArray++(strCells s).toArray++Builtin.zeroCells (Value.int .u8 0).cells (grownCap w (n+s.size) dL e-(n+s.size))) e)) e 1
   (.slice (some ⟨w.heap.size,0,none⟩) (n+s.size) (grownCap w (n+s.size) dL e)) (n+s.size) (xs++strCells s)∧
  w.grownBy (w.drew.alloc (.cells (xs.toArray++(strCells s).toArray++Builtin.zeroCells (Value.int .u8 0).cells (grownCap w (n+s.size) dL e-(n+s.size))) e)) row:=by
  intro dL an row
  have hX:=grownCap_ge w (n+s.size) dL e
  have ig:grownCap w (n+s.size) dL e≤maxLen:=grownCap_le_maxLen w (n+s.size) dL e sV
  refine⟨⟨hlen,.inr ⟨w.heap.size,_,_,rfl,by omega,heap_alloc_new w.drew _,hX,ig,?_,?_⟩⟩,⟨rfl,rfl,rfl,by simp,fun k aj _=>Go.RowKit.Below.heap_alloc w.drew _ k aj⟩⟩
  ·have iC:(Value.int IntKind.u8 0).cells.size=1:=rfl
   simp only[Array.size_append,List.size_toArray,size_zeroCells,iC,jL,strCells_length];omega
  ·simp only[Array.toList_append,List.append_assoc]
   rw[←List.append_assoc,←hlen];exact List.take_left
 have LV: ∀(m c k:Nat),b3 (.slice (some ⟨w.heap.size,0,none⟩) m c)=some k→b3 v=some k∨w.heap.size≤k:=fun m c k aj=>by
  simp only[b3]at aj
  split at aj
  ·cases aj
  ·simp at aj;exact .inr (by omega)
 rcases cZ.2 with⟨⟨c,rfl,uU⟩,jr⟩|⟨g,cap,cur,rfl,z1,ah,AO,ig,dJ,lJ⟩
 ·subst jr
  have hx:xs=[]:=List.eq_nil_of_length_eq_zero jL
  subst hx
  by_cases hm:s.size=0
  ·have rK:strCells s=[]:=List.eq_nil_of_length_eq_zero (by rw[strCells_length];exact hm)
   have hf:=run_firstCells_string (P:=P) w 1 s
   rw[hm]at hf;refine⟨.slice c 0 0,w,?_,by rw[hm,rK];exact⟨rfl,.inl ⟨⟨c,rfl,uU⟩,rfl⟩⟩,World.grownBy.refl w _,fun k aj=>.inl aj⟩
   cases c<;>simp[Builtin.append_,run_underlying aH,run_underlying hu,sizeOf,typeInfo,hi,ix,Builtin.lenOf,hm,hf,rK,storeCells]
  ·have cU:=grown 0 (by omega) (b3 (.slice c 0 0))
   cases c with
   |none=>
    have ag:=run_append_nil_string (P:=P) w t u ty e i (.int .u8 0) aH hu hi aS s (by omega) (by omega) (by rw[js];omega)
    simp only[Nat.zero_add,List.nil_append,Array.empty_append]at cU⊢
    have aB:(s.data.map fun b=>Value.int .u8 b.toNat)=(strCells s).toArray:=by
     apply Array.ext';simp[strCells]
    rw[aB]at ag;exact⟨_,_,ag,cU.1,cU.2,LV _ _⟩
   |some a=>
    have ag:=run_append_grow_string (P:=P) w t u ty e i (.int .u8 0) aH hu hi aS a 0 0 [] (by simp) (by simp) s (by omega) (by omega) (by rw[js];exact growslice_fits (by omega) (by omega))
    exact⟨_,_,ag,cU.1,cU.2,LV _ _⟩
 ·by_cases xL:n+s.size≤cap
  ·have ag:=run_append_room_string (P:=P) w t u ty e i aH hu hi ix g n cap cur ah s xL (by omega)
   refine⟨_,_,ag,⟨hlen,.inr ⟨g,cap,_,rfl,z1,setRow_heap w g cur _ e _ ah,xL,ig,?_,?_⟩⟩,⟨rfl,rfl,rfl,by simp,fun k _ aj=>setRow_other w g k _ (fun e=>aj (by simp[b3,e,Nat.ne_of_gt z1]))⟩,fun k aj=>.inl ?_⟩
   ·simp only[List.size_toArray,List.length_append,List.length_take,List.length_drop,Array.length_toList,strCells_length]
    omega
   ·have cE:cur.toList.take n=xs:=by simpa using lJ
    rw[cE,←hlen];exact List.take_left
   ·simpa[b3,Nat.ne_of_gt z1]using aj
  ·have holds: ∀j u,xs[j]? =some u→w.cell? ((⟨g,0,none⟩:Addr).add j)=some u:=by
    have hB:w.ownsRow 0 e 1 (.slice (some ⟨g,0,none⟩) n cap) n xs:=⟨cZ.1,.inr ⟨g,cap,cur,rfl,Nat.zero_le _,ah,AO,ig,dJ,lJ⟩⟩
    exact hB.cells (g:=g) rfl
   have ag:=run_append_grow_string (P:=P) w t u ty e i (.int .u8 0) aH hu hi aS ⟨g,0,none⟩ n cap xs (by rw[ix];simpa using jL) holds s (by omega) (by omega) (by rw[js];exact growslice_fits (by omega) (by omega))
   have cU:=grown cap (by omega) (b3 (.slice (some ⟨g,0,none⟩) n cap))
   exact⟨_,_,ag,cU.1,cU.2,LV _ _⟩
def eC(b:ByteArray):List Int:=b.data.toList.map fun u=>(u.toNat:Int)
theorem LW{w:World}{ro:Nat→Prop}(b:ByteArray):((eC b).map fun z=>[a6.v (.int .u8 z)]).length=b.size∧∀(j:Nat) (x:a6),((eC b).map fun z=>[a6.v (.int .u8 z)]).flatten[j]? =some x→cR w ro x ((strCells b).getD j undef):=by
 refine⟨by rw[List.length_map];unfold eC;rw[List.length_map,Array.length_toList];rfl,fun j x af=>?_⟩
 have mh:((eC b).map fun z=>[a6.v (.int .u8 z)]).flatten=(eC b).map fun z=>a6.v (.int .u8 z):=by
  generalize eC b=l
  induction l with
  |nil=>rfl
  |cons y r aY=>simp only[List.map_cons,List.flatten_cons,aY,List.singleton_append]
 rw[mh]at af
 unfold eC at af
 simp only[List.map_map,List.getElem?_map]at af
 obtain⟨u,hu,rfl⟩:=Option.map_eq_some_iff.1 af
 have:(strCells b).getD j undef= .int .u8 (u.toNat:Int):=by
  unfold strCells;simp[List.getD,hu]
 rw[this]
 exact .v _ rfl
variable {G:a8} {s:aP} {o:Oper}
def xM(P:Program)(t u:TypeId):Option TypeId:=
 match P.underlying t,P.underlying u with
 |some (.slice e),some .string=>match P.info? e with
  |some i=>match i.zero with
   |some (.int .u8 0)=>match Nat.beq i.size 1&&Nat.beq i.bytes 1 with
    |true=>some e
    |false=>none
   |_=>none
  |none=>none
 |_,_=>none
theorem LX{t u e:TypeId}(h:xM P t u=some e): ∃i,P.underlying t=some (.slice e)∧P.underlying u=some .string∧P.info? e=some i∧i.zero=some (.int .u8 0)∧i.size=1∧i.bytes=1:=by
 unfold xM at h
 split at h
 ·rename_i ay hu ai
  split at h
  ·rename_i i hi
   split at h
   ·rename_i aS
    split at h
    ·rename_i hc
     cases h;simp only[Bool.and_eq_true]at hc;exact⟨i,hu,ai,hi,aS,Nat.eq_of_beq_eq_true hc.1,Nat.eq_of_beq_eq_true hc.2⟩
    ·cases h
   ·cases h
  ·cases h
 ·cases h
theorem zfM(x y:Operand)(t u:TypeId)(an:o.op= .call {callee:=.builtin .append,args:=#[x,y],argTypes:=#[t,u]}){e:TypeId}(aH:xM P t u=some e)
 {id:Nat}(hx:aJ G s x= .aO id){es:List (List a6)}(bd:aE s.heap id=some (.row false e 1 es))(ad:s.base≤id)(bH:id<s.next)
 {b:ByteArray}(ax:aJ G s y= .av (.v (.string b)))(bN:es.length+b.size≤maxLen∧es.length+b.size≤140737488355328):
 dR P G o s (aP.put ⟨eg id s.cS,(id,.row false e 1 (es++(eC b).map fun z=>[a6.v (.int .u8 z)]))::dv id s.heap,s.next,s.base⟩ o.dst (.aO id)):=by
 intro E a w ⟨β,ro,ag⟩ K Q hK
 obtain⟨i,hu,ai,hi,aS,ix,js⟩:=LX aH
 have dh:=ag.heap.c6 id _ bd
 cases dh with
 |row _ _ _ xs cZ b4 eW=>
  have lN:a.eval x=β id:=by
   have h:=ag.eval x
   rw[hx]at h;generalize a.eval x=c at h
   cases h with
   |aO _ _ _ ak=>exact ak _ _ _ _ bd
  obtain⟨bh,w',cr,kI,cU,bg⟩:=LU (P:=P) t u o.type e hu ai hi aS ix js cZ b bN.1 bN.2;obtain⟨c1,dg⟩:=LW (w:=w) (ro:=ro) b;unfold Oper.wp;simp only[execOp,an,resolve,invoke,builtin,Sem.run_bind,Sem.run_pure,Result.andThen_ok,List.map_toArray,List.map_cons,List.map_nil,lN,ag.ef ax,cr]
  have jn: ∀k,k<w.heap.size→b3 (β id)≠some k→w'.heap[k]? =w.heap[k]? :=fun k aj b4=>cU.block k aj (fun e=>b4 e.symm)
  have cc: ∀k,ro k→w'.heap[k]? =w.heap[k]? :=fun k aj=>jn k (ag.heap.lt k aj) fun bg=>ag.heap.fh k aj ⟨id,_,bd,rfl,bg⟩
  refine hK _ _ ⟨gW β id bh,ro,c3.put (ag.renew (w':=w') id ad bH bd (.row false e 1 (es++(eC b).map fun z=>[a6.v (.int .u8 z)])) bh cU.os cU.tape cU.output cU.size jn bg rfl ?_) o.dst _ _ ?_⟩
  ·refine .row e 1 _ _ (by rw[dS,List.length_append,c1];exact kI) (fun ay j4=>?_) (fun j x af=>?_)
   ·rw[List.mem_append]at j4
    rcases j4 with h|h
    ·exact b4 _ h
    ·obtain⟨z,_,rfl⟩:=List.mem_map.1 h
     rfl
   ·exact(w4 b4 cZ.1 eW dg j x af).keep cc fun _ h=>h
  ·exact .aO _ _ bH fun z bD cJ dQ _=>(dS _ _ _).symm
theorem zfN(x y:Operand)(t u:TypeId)(an:o.op= .call {callee:=.builtin .append,args:=#[x,y],argTypes:=#[t,u]}){e:TypeId}(aH:xM P t u=some e)
 (hx:aJ G s x= .av (.v (.slice none 0 0)))(ad:s.base≤s.next){b:ByteArray}(ax:aJ G s y= .av (.v (.string b)))(bN:b.size≤maxLen∧b.size≤140737488355328):
 dR P G o s ({s with heap:=(s.next,.row false e 1 ((eC b).map fun z=>[a6.v (.int .u8 z)]))::s.heap,next:=s.next+1}.put o.dst (.aO s.next)):=by
 intro E a w ⟨β,ro,ag⟩ K Q hK
 obtain⟨i,hu,ai,hi,aS,ix,js⟩:=LX aH
 obtain⟨bh,w',cr,kI,cU,bg⟩:=LU (P:=P) (w:=w) t u o.type e hu ai hi aS ix js (v:=.slice none 0 0) (n:=0) (xs:=[]) ⟨by simp,.inl ⟨⟨none,rfl,fun _ h=>(by cases h)⟩,rfl⟩⟩ b (by omega) (by omega)
 obtain⟨c1,dg⟩:=LW (w:=w) (ro:=ro) b
 unfold Oper.wp
 simp only[execOp,an,resolve,invoke,builtin,Sem.run_bind,Sem.run_pure,Result.andThen_ok,List.map_toArray,List.map_cons,List.map_nil,ag.ef hx,ag.ef ax,cr]
 have jm:aE s.heap s.next=none:=by
  cases ah:aE s.heap s.next with
  |none=>rfl
  |some p=>have:=ag.trans.new _ _ ah;omega
 have hw: ∀b,b<w.heap.size→w'.heap[b]? =w.heap[b]? :=fun b ad=>cU.block b ad (by simp[b3])
 have cc: ∀b,ro b→w'.heap[b]? =w.heap[b]? :=fun b ad=>hw b (ag.heap.lt b ad)
 refine hK _ _ ⟨gW β s.next bh,ro,c3.put (ag.new (w':=w') s.next jm ad (Nat.le_refl _) (.row false e 1 ((eC b).map fun z=>[a6.v (.int .u8 z)])) bh cU.os cU.tape cU.output cU.size hw (fun b ad=>?_) rfl ?_) o.dst _ _ ?_⟩
 ·rcases bg b ad with h|h
  ·simp[b3]at h
  ·exact h
 ·refine .row e 1 _ _ (by rw[dS,c1];simpa using kI) (fun ay j4=>?_) (fun j x af=>(dg j x af).keep cc fun _ h=>h)
  obtain⟨z,_,rfl⟩:=List.mem_map.1 j4;rfl
 ·exact .aO _ _ (Nat.lt_succ_self _) fun z bD cJ dQ _=>(dS _ _ _).symm
end
end Go.aL
namespace Go.aL
open Go Go.Lib
section
variable {P:Program} {G:a8} {s:aP} {E:Entry} {a:Act} {w w':World} {β:Nat→Value} {ro:Nat→Prop}
theorem c3.LY(h:c3 E G s a w β ro)(id:Nat)(ad:s.base≤s.next){t0:TypeId}{n0:Nat}{zW:List (List a6)}(bd:aE s.heap id=some (.row false t0 n0 zW))(o:ek)(val:Value)
 (oY:w'.os=w.os)(oZ:w'.tape=w.tape)(kF:w'.output=w.output)(bN:w.heap.size≤w'.heap.size)(hw: ∀b,b<w.heap.size→b3 (β id)≠some b→w'.heap[b]? =w.heap[b]?)
 (gI: ∀b,b3 val=some b→b3 (β id)=some b∨w.heap.size≤b)(_hlive:o.live=true)
 (dh:k9 w' ro ((s.next,o)::dv id s.heap) (gW β s.next val) (s.next+1) s.next o):
 c3 E G ⟨eg id s.cS,(s.next,o)::dv id s.heap,s.next+1,s.base⟩ a w' (gW β s.next val) ro:=by
 have cc: ∀b,ro b→w'.heap[b]? =w.heap[b]? :=fun b ag=>hw b (h.heap.lt b ag) fun ad=>h.heap.fh b ag ⟨id,_,bd,rfl,ad⟩
 have ah: ∀k,k≠s.next→k≠id→aE ((s.next,o)::dv id s.heap) k=(aE s.heap k).map (ey id):=fun k aj eB=>by simp[aE,Ne.symm aj,qp,eB]
 have uR:aE ((s.next,o)::dv id s.heap) s.next=some o:=by simp[aE]
 have zjY:id<s.next:=h.trans.new _ _ bd
 have key: ∀x c,bs w ro s.heap β s.next x c→bs w' ro ((s.next,o)::dv id s.heap) (gW β s.next val) (s.next+1) (dY id x) c:=by
  intro x c hx
  induction hx with
  |av x c hx=>exact .av x c (hx.keep cc fun _ h=>h)
  |agg cs c ai _ aY=>
   refine .agg _ c (by rw[h4];exact ai) fun j x af=>?_
   obtain⟨y,ax,rfl⟩:=hQ id af;exact aY j y ax
  |tuple cs c ai _ aY=>
   refine .tuple _ c (by rw[h4];exact ai) fun j x af=>?_
   obtain⟨y,ax,rfl⟩:=hQ id af;exact aY j y ax
  |ptr k off c aq ak=>
   simp only[dY]
   split
   ·exact .top _
   ·rename_i aj
    refine .ptr k off c (by omega) fun t cs bn=>?_
    rw[c0 _ _ (show k≠s.next by omega)]
    rw[ah k (by omega) aj]at bn
    cases ai:aE s.heap k with
    |none=>simp[ai]at bn
    |some p=>
     cases p with
     |box bD cs'=>exact ak bD cs' ai
     |row=>simp[ai,ey]at bn
     |bM=>simp[ai,ey]at bn
  |dA k off c aq ak=>
   simp only[dY]
   split
   ·exact .top _
   ·rename_i aj
    refine .dA k off c (by omega) fun t cs bn=>?_
    rw[c0 _ _ (show k≠s.next by omega)]
    rw[ah k (by omega) aj]at bn
    cases ai:aE s.heap k with
    |none=>simp[ai]at bn
    |some p=>
     cases p with
     |box bD cs'=>exact ak bD cs' ai
     |row=>simp[ai,ey]at bn
     |bM=>simp[ai,ey]at bn
  |cW k i off c aq ak=>
   simp only[dY]
   split
   ·exact .top _
   ·rename_i aj
    refine .cW k i off c (by omega) fun z t n es bn=>?_
    rw[c0 _ _ (show k≠s.next by omega)]
    rw[ah k (by omega) aj]at bn
    cases ai:aE s.heap k with
    |none=>simp[ai]at bn
    |some p=>
     cases p with
     |box bD cs'=>simp[ai,ey]at bn
     |bM=>simp[ai,ey]at bn
     |row iw bD cJ dQ=>
      simp only[ai,Option.map_some,ey,Option.some.injEq,ek.row.injEq]at bn;obtain⟨rfl,rfl,rfl,rfl⟩:=bn;exact ak _ _ _ _ ai
  |aO k c aq ak=>
   simp only[dY]
   split
   ·exact .top _
   ·rename_i aj
    refine .aO k c (by omega) fun z t n es bn=>?_
    rw[c0 _ _ (show k≠s.next by omega)]
    rw[ah k (by omega) aj]at bn
    cases ai:aE s.heap k with
    |none=>simp[ai]at bn
    |some p=>
     cases p with
     |box bD cs'=>simp[ai,ey]at bn
     |bM=>simp[ai,ey]at bn
     |row iw bD cJ dQ=>exact ak _ _ _ _ ai
  |fn f p q c d aa ae _ _ hl ho=>
   refine .fn f _ _ c d (by rw[h4];exact aa) (by rw[h4];exact ae) (fun j x af=>?_) (fun j x af=>?_)
   ·obtain⟨y,ax,rfl⟩:=hQ id af
    exact hl j y ax
   ·obtain⟨y,ax,rfl⟩:=hQ id af
    exact ho j y ax
  |ref k c aq ak=>
   simp only[dY]
   split
   ·exact .top _
   ·rename_i aj
    refine .ref k c (by omega) fun bP bn=>?_
    rw[c0 _ _ (show k≠s.next by omega)]
    rw[ah k (by omega) aj]at bn
    cases ai:aE s.heap k with
    |none=>simp[ai]at bn
    |some p=>
     cases p with
     |box=>simp[ai,ey]at bn
     |row=>simp[ai,ey]at bn
     |bM lI=>exact ak lI ai
  |top c=>exact .top c
 have dL: ∀k p,k≠s.next→aE ((s.next,o)::dv id s.heap) k=some p→k≠id∧∃q,aE s.heap k=some q∧p=ey id q:=by
  intro k p aj bn
  have bx:k≠id:=fun h=>by
   subst h;simp[aE,Ne.symm aj,qp]at bn
  refine⟨bx,?_⟩
  rw[ah k aj bx]at bn
  cases ai:aE s.heap k with
  |none=>simp[ai]at bn
  |some q=>simp[ai]at bn;exact⟨q,rfl,bn.symm⟩
 refine⟨h.defers,by simpa[h4]using h.size,fun i x hx=>?_,⟨fun k p aj=>?_,fun k bk p fX b aj eB ak gJ bg eu=>?_,fun b ag=>?_,fun b ag=>Nat.lt_of_lt_of_le (h.heap.lt b ag) bN⟩,
  h.ic.keep cc fun _ h=>h,?_,h.base⟩
 ·obtain⟨y,ax,rfl⟩:=hQ id hx
  exact key _ _ (h.slot i y ax)
 ·by_cases bx:k=s.next
  ·subst k
   rw[uR]at aj;simp only[Option.some.injEq]at aj;subst aj;exact dh
  ·obtain⟨hU,q,aI,rfl⟩:=dL k p bx aj
   have gK:=h.heap.c6 k q aI
   have b4:q.live=true→∀b,b3 (β k)=some b→w'.heap[b]? =w.heap[b]? :=fun aq b bg=>
    hw b (gK.hL aq bg) fun jN=>hU (h.heap.inj k id q _ b aI bd aq rfl bg jN)
   cases gK with
   |box t cs b arr aa ae au aQ=>
    refine .box t _ b arr (by rw[c0 _ _ bx];exact aa) ((b4 rfl b (by rw[aa];rfl)).trans ae) (by rw[h4];exact au) fun j x af=>?_
    obtain⟨y,ax,rfl⟩:=hQ id af;exact key _ _ (aQ j y ax)
   |row t n es xs aa ae au=>exact .row t n es xs (by rw[c0 _ _ bx];exact aa.keep (fun b ad=>b4 rfl b ad) bN) ae fun j x af=>(au j x af).keep cc fun _ h=>h
   |gb t n es aa=>exact .gb t n es (by rw[c0 _ _ bx];exact aa.keep cc fun _ h=>h)
   |bM bP b o aa ae au=>exact .bM bP b o (by rw[c0 _ _ bx];exact aa) ((b4 rfl b aa).trans ae) (by rw[c0 _ _ bx];exact bP.mono _ _ _ _ (fun x c h=>h.keep cc fun _ h=>h) au)
 ·by_cases bx:k=s.next
  ·by_cases gL:bk=s.next
   ·rw[bx,gL]
   ·subst k
    rw[dS]at bg;rw[c0 _ _ gL]at eu;obtain⟨hU,q,aI,rfl⟩:=dL bk fX gL eB;rw[jq]at gJ
    have ae:=(h.heap.c6 bk q aI).hL gJ eu
    rcases gI b bg with aa|aa
    ·exact absurd (h.heap.inj bk id q _ b aI bd gJ rfl eu aa) hU
    ·omega
  ·obtain⟨hU,q,aI,rfl⟩:=dL k p bx aj
   rw[jq]at ak;rw[c0 _ _ bx]at bg
   by_cases gL:bk=s.next
   ·subst bk
    rw[dS]at eu
    have ae:=(h.heap.c6 k q aI).hL ak bg
    rcases gI b eu with aa|aa
    ·exact absurd (h.heap.inj k id q _ b aI bd ak rfl bg aa) hU
    ·omega
   ·obtain⟨zfO,q',uS,rfl⟩:=dL bk fX gL eB
    rw[jq]at gJ;rw[c0 _ _ gL]at eu;exact h.heap.inj k bk q q' b aI uS ak gJ bg eu
 ·rintro⟨k,p,aj,ak,bg⟩
  by_cases bx:k=s.next
  ·subst k
   rw[dS]at bg
   rcases gI b bg with aa|aa
   ·exact h.heap.fh b ag ⟨id,_,bd,rfl,aa⟩
   ·have:=h.heap.lt b ag;omega
  ·obtain⟨hU,q,aI,rfl⟩:=dL k p bx aj
   rw[jq]at ak;rw[c0 _ _ bx]at bg;exact h.heap.fh b ag ⟨k,q,aI,ak,bg⟩
 ·have t:=h.trans
  refine⟨oY.trans t.os,oZ.trans t.tape,kF.trans t.output,Nat.le_trans t.size bN,fun b hM gf=>?_,t.jl,t.j2,?_,fun k aj p bn=>?_,fun k p bn=>?_,Nat.le_succ_of_le t.le⟩
  ·by_cases jN:b3 (β id)=some b
   ·rcases t.hk b ⟨id,_,bd,rfl,jN⟩with hc|hc
    ·exact absurd hc gf
    ·omega
   ·rw[hw b (Nat.lt_of_lt_of_le hM t.size) jN]
    exact t.frame b hM gf
  ·rintro b ⟨k,p,aj,ak,bg⟩
   by_cases bx:k=s.next
   ·subst k
    rw[dS]at bg
    rcases gI b bg with aa|aa
    ·exact t.hk b ⟨id,_,bd,rfl,aa⟩
    ·exact .inr (Nat.le_trans t.size aa)
   ·obtain⟨hU,q,aI,rfl⟩:=dL k p bx aj
    rw[jq]at ak;rw[c0 _ _ bx]at bg;exact t.hk b ⟨k,q,aI,ak,bg⟩
  ·have bx:k≠s.next:=by have:=h.base;omega
   obtain⟨hU,q,aI,rfl⟩:=dL k p bx bn;rw[c0 _ _ bx];exact t.dL k aj q aI
  ·by_cases bx:k=s.next
   ·subst k;exact Nat.lt_succ_self _
   ·obtain⟨hU,q,aI,rfl⟩:=dL k p bx bn
    exact Nat.lt_succ_of_lt (t.new k q aI)
theorem c3.Tq(h:c3 E G s a w β ro)(id aX:Nat)(ad:s.base≤aX)(bH:aX<s.next){t0:TypeId}{n0:Nat}{zW:List (List a6)}(bd:aE s.heap id=some (.row false t0 n0 zW))(o:ek)(val:Value)
 (oY:w'.os=w.os)(oZ:w'.tape=w.tape)(kF:w'.output=w.output)(bN:w.heap.size≤w'.heap.size)(hw: ∀b,b<w.heap.size→b3 (β id)≠some b→w'.heap[b]? =w.heap[b]?)
 (gI: ∀b,b3 val=some b→b3 (β id)=some b∨w.heap.size≤b)(_hlive:o.live=true)
 (dh:k9 w' ro ((aX,o)::dv aX (dv id s.heap)) (gW β aX val) s.next aX o):
 c3 E G ⟨eg aX (eg id s.cS),(aX,o)::dv aX (dv id s.heap),s.next,s.base⟩ a w' (gW β aX val) ro:=by
 have cc: ∀b,ro b→w'.heap[b]? =w.heap[b]? :=fun b ag=>hw b (h.heap.lt b ag) fun ad=>h.heap.fh b ag ⟨id,_,bd,rfl,ad⟩
 have ah: ∀k,k≠aX→k≠id→aE ((aX,o)::dv aX (dv id s.heap)) k=((aE s.heap k).map (ey id)).map (ey aX):=fun k aj eB=>by simp[aE,Ne.symm aj,qp,aj,eB]
 have uR:aE ((aX,o)::dv aX (dv id s.heap)) aX=some o:=by simp[aE]
 have key: ∀x c,bs w ro s.heap β s.next x c→bs w' ro ((aX,o)::dv aX (dv id s.heap)) (gW β aX val) s.next (dY aX (dY id x)) c:=by
  intro x c hx
  induction hx with
  |av x c hx=>exact .av x c (hx.keep cc fun _ h=>h)
  |agg cs c ai _ aY=>
   refine .agg _ c (by rw[h4,h4];exact ai) fun j x af=>?_
   obtain⟨z,aS,rfl⟩:=hQ aX af;obtain⟨y,ax,rfl⟩:=hQ id aS;exact aY j y ax
  |tuple cs c ai _ aY=>
   refine .tuple _ c (by rw[h4,h4];exact ai) fun j x af=>?_
   obtain⟨z,aS,rfl⟩:=hQ aX af;obtain⟨y,ax,rfl⟩:=hQ id aS;exact aY j y ax
  |ptr k off c aq ak=>
   by_cases aj:k=id
   ·simp only[dY,aj,if_true]
    exact .top _
   by_cases gh:k=aX
   ·simp only[dY,if_neg aj,if_neg (gh ▸ aj),gh,if_true]
    exact .top _
   ·simp only[dY,if_neg aj,if_neg gh]
    refine .ptr k off c aq fun t cs bn=>?_
    rw[c0 _ _ gh];rw[ah k gh aj]at bn
    cases ai:aE s.heap k with
    |none=>simp[ai]at bn
    |some p=>
     cases p with
     |box bD cs'=>exact ak bD cs' ai
     |row=>simp[ai,ey]at bn
     |bM=>simp[ai,ey]at bn
  |dA k off c aq ak=>
   by_cases aj:k=id
   ·simp only[dY,aj,if_true]
    exact .top _
   by_cases gh:k=aX
   ·simp only[dY,if_neg aj,if_neg (gh ▸ aj),gh,if_true]
    exact .top _
   ·simp only[dY,if_neg aj,if_neg gh]
    refine .dA k off c aq fun t cs bn=>?_
    rw[c0 _ _ gh];rw[ah k gh aj]at bn
    cases ai:aE s.heap k with
    |none=>simp[ai]at bn
    |some p=>
     cases p with
     |box bD cs'=>exact ak bD cs' ai
     |row=>simp[ai,ey]at bn
     |bM=>simp[ai,ey]at bn
  |cW k i off c aq ak=>
   by_cases aj:k=id
   ·simp only[dY,aj,if_true]
    exact .top _
   by_cases gh:k=aX
   ·simp only[dY,if_neg aj,if_neg (gh ▸ aj),gh,if_true]
    exact .top _
   ·simp only[dY,if_neg aj,if_neg gh]
    refine .cW k i off c aq fun z t n es bn=>?_
    rw[c0 _ _ gh];rw[ah k gh aj]at bn
    cases ai:aE s.heap k with
    |none=>simp[ai]at bn
    |some p=>
     cases p with
     |box bD cs'=>simp[ai,ey]at bn
     |bM=>simp[ai,ey]at bn
     |row iw bD cJ dQ=>
      simp only[ai,Option.map_some,ey,Option.some.injEq,ek.row.injEq]at bn;obtain⟨rfl,rfl,rfl,rfl⟩:=bn;exact ak _ _ _ _ ai
  |aO k c aq ak=>
   by_cases aj:k=id
   ·simp only[dY,aj,if_true]
    exact .top _
   by_cases gh:k=aX
   ·simp only[dY,if_neg aj,if_neg (gh ▸ aj),gh,if_true]
    exact .top _
   ·simp only[dY,if_neg aj,if_neg gh]
    refine .aO k c aq fun z t n es bn=>?_
    rw[c0 _ _ gh];rw[ah k gh aj]at bn
    cases ai:aE s.heap k with
    |none=>simp[ai]at bn
    |some p=>
     cases p with
     |box bD cs'=>simp[ai,ey]at bn
     |bM=>simp[ai,ey]at bn
     |row iw bD cJ dQ=>exact ak _ _ _ _ ai
  |fn f p q c d aa ae _ _ hl ho=>
   refine .fn f _ _ c d (by rw[h4,h4];exact aa) (by rw[h4,h4];exact ae) (fun j x af=>?_) (fun j x af=>?_)
   ·obtain⟨z,aS,rfl⟩:=hQ aX af
    obtain⟨y,ax,rfl⟩:=hQ id aS;exact hl j y ax
   ·obtain⟨z,aS,rfl⟩:=hQ aX af
    obtain⟨y,ax,rfl⟩:=hQ id aS;exact ho j y ax
  |ref k c aq ak=>
   by_cases aj:k=id
   ·simp only[dY,aj,if_true]
    exact .top _
   by_cases gh:k=aX
   ·simp only[dY,if_neg aj,if_neg (gh ▸ aj),gh,if_true]
    exact .top _
   ·simp only[dY,if_neg aj,if_neg gh]
    refine .ref k c aq fun bP bn=>?_
    rw[c0 _ _ gh];rw[ah k gh aj]at bn
    cases ai:aE s.heap k with
    |none=>simp[ai]at bn
    |some p=>
     cases p with
     |box=>simp[ai,ey]at bn
     |row=>simp[ai,ey]at bn
     |bM lI=>exact ak lI ai
  |top c=>exact .top c
 have dL: ∀k p,k≠aX→aE ((aX,o)::dv aX (dv id s.heap)) k=some p→k≠id∧∃q,aE s.heap k=some q∧p=ey aX (ey id q):=by
  intro k p aj bn
  have bx:k≠id:=fun h=>by
   subst h;simp[aE,Ne.symm aj,qp,aj]at bn
  refine⟨bx,?_⟩
  rw[ah k aj bx]at bn
  cases ai:aE s.heap k with
  |none=>simp[ai]at bn
  |some q=>simp[ai]at bn;exact⟨q,rfl,bn.symm⟩
 refine⟨h.defers,by simpa[h4]using h.size,fun i x hx=>?_,⟨fun k p aj=>?_,fun k bk p fX b aj eB ak gJ bg eu=>?_,fun b ag=>?_,fun b ag=>Nat.lt_of_lt_of_le (h.heap.lt b ag) bN⟩,
  h.ic.keep cc fun _ h=>h,?_,h.base⟩
 ·obtain⟨z,aS,rfl⟩:=hQ aX hx
  obtain⟨y,ax,rfl⟩:=hQ id aS;exact key _ _ (h.slot i y ax)
 ·by_cases bx:k=aX
  ·subst k
   rw[uR]at aj;simp only[Option.some.injEq]at aj;subst aj;exact dh
  ·obtain⟨hU,q,aI,rfl⟩:=dL k p bx aj
   have gK:=h.heap.c6 k q aI
   have b4:q.live=true→∀b,b3 (β k)=some b→w'.heap[b]? =w.heap[b]? :=fun aq b bg=>
    hw b (gK.hL aq bg) fun jN=>hU (h.heap.inj k id q _ b aI bd aq rfl bg jN)
   cases gK with
   |box t cs b arr aa ae au aQ=>
    refine .box t _ b arr (by rw[c0 _ _ bx];exact aa) ((b4 rfl b (by rw[aa];rfl)).trans ae) (by rw[h4,h4];exact au) fun j x af=>?_
    obtain⟨z,aS,rfl⟩:=hQ aX af;obtain⟨y,ax,rfl⟩:=hQ id aS;exact key _ _ (aQ j y ax)
   |row t n es xs aa ae au=>exact .row t n es xs (by rw[c0 _ _ bx];exact aa.keep (fun b ad=>b4 rfl b ad) bN) ae fun j x af=>(au j x af).keep cc fun _ h=>h
   |gb t n es aa=>exact .gb t n es (by rw[c0 _ _ bx];exact aa.keep cc fun _ h=>h)
   |bM bP b o aa ae au=>exact .bM bP b o (by rw[c0 _ _ bx];exact aa) ((b4 rfl b aa).trans ae) (by rw[c0 _ _ bx];exact bP.mono _ _ _ _ (fun x c h=>h.keep cc fun _ h=>h) au)
 ·by_cases bx:k=aX
  ·by_cases gL:bk=aX
   ·rw[bx,gL]
   ·subst k
    rw[dS]at bg;rw[c0 _ _ gL]at eu;obtain⟨hU,q,aI,rfl⟩:=dL bk fX gL eB;rw[jq,jq]at gJ
    have ae:=(h.heap.c6 bk q aI).hL gJ eu
    rcases gI b bg with aa|aa
    ·exact absurd (h.heap.inj bk id q _ b aI bd gJ rfl eu aa) hU
    ·omega
  ·obtain⟨hU,q,aI,rfl⟩:=dL k p bx aj
   rw[jq,jq]at ak;rw[c0 _ _ bx]at bg
   by_cases gL:bk=aX
   ·subst bk
    rw[dS]at eu
    have ae:=(h.heap.c6 k q aI).hL ak bg
    rcases gI b eu with aa|aa
    ·exact absurd (h.heap.inj k id q _ b aI bd ak rfl bg aa) hU
    ·omega
   ·obtain⟨zfO,q',uS,rfl⟩:=dL bk fX gL eB
    rw[jq,jq]at gJ;rw[c0 _ _ gL]at eu;exact h.heap.inj k bk q q' b aI uS ak gJ bg eu
 ·rintro⟨k,p,aj,ak,bg⟩
  by_cases bx:k=aX
  ·subst k
   rw[dS]at bg
   rcases gI b bg with aa|aa
   ·exact h.heap.fh b ag ⟨id,_,bd,rfl,aa⟩
   ·have:=h.heap.lt b ag;omega
  ·obtain⟨hU,q,aI,rfl⟩:=dL k p bx aj
   rw[jq,jq]at ak;rw[c0 _ _ bx]at bg;exact h.heap.fh b ag ⟨k,q,aI,ak,bg⟩
 ·have t:=h.trans
  refine⟨oY.trans t.os,oZ.trans t.tape,kF.trans t.output,Nat.le_trans t.size bN,fun b hM gf=>?_,t.jl,t.j2,?_,fun k aj p bn=>?_,fun k p bn=>?_,t.le⟩
  ·by_cases jN:b3 (β id)=some b
   ·rcases t.hk b ⟨id,_,bd,rfl,jN⟩with hc|hc
    ·exact absurd hc gf
    ·omega
   ·rw[hw b (Nat.lt_of_lt_of_le hM t.size) jN]
    exact t.frame b hM gf
  ·rintro b ⟨k,p,aj,ak,bg⟩
   by_cases bx:k=aX
   ·subst k
    rw[dS]at bg
    rcases gI b bg with aa|aa
    ·exact t.hk b ⟨id,_,bd,rfl,aa⟩
    ·exact .inr (Nat.le_trans t.size aa)
   ·obtain⟨hU,q,aI,rfl⟩:=dL k p bx aj
    rw[jq,jq]at ak;rw[c0 _ _ bx]at bg;exact t.hk b ⟨k,q,aI,ak,bg⟩
  ·have bx:k≠aX:=by have:=h.base;omega
   obtain⟨hU,q,aI,rfl⟩:=dL k p bx bn;rw[c0 _ _ bx];exact t.dL k aj q aI
  ·by_cases bx:k=aX
   ·subst k;exact bH
   ·obtain⟨hU,q,aI,rfl⟩:=dL k p bx bn
    exact t.new k q aI
end
section
variable {P:Program} {G:a8} {o:Oper} {s:aP}
theorem zfP(x y:Operand)(t:TypeId)(an:o.op= .call {callee:=.builtin .append,args:=#[x,y],argTypes:=#[t,t]}){e n bytes:Nat}(aH:qq P t=some (e,n,bytes))
 {id:Nat}(hx:aJ G s x= .aO id){es:List (List a6)}(bd:aE s.heap id=some (.row false e n es))(ad:s.base≤s.next)
 {fs:List (List a6)}(ax:fx s.heap n (aJ G s y)=some fs)(bN:es.length+fs.length≤maxLen∧(es.length+fs.length)*bytes≤140737488355328):
 dR P G o s (aP.put ⟨eg id s.cS,(s.next,.row false e n (es++fs))::dv id s.heap,s.next+1,s.base⟩ o.dst (.aO s.next)):=by
 intro E a w ⟨β,ro,ag⟩ K Q hK
 obtain⟨i,z,hu,hi,aS,ix,js,fa,hn⟩:=qd aH
 obtain⟨b,cap,hc,mr,o7,f,h5,o8⟩:=w3 ag.heap (ag.eval y) ax
 have dh:=ag.heap.c6 id _ bd
 cases dh with
 |row _ _ _ xs cZ b4 eW=>
  have lN:a.eval x=β id:=by
   have h:=ag.eval x
   rw[hx]at h;generalize a.eval x=c at h
   cases h with
   |aO _ _ _ ak=>exact ak _ _ _ _ bd
  obtain⟨nZ,o9,rL⟩:=z6 mr o8
  obtain⟨bh,w',cr,kI,cU,bg⟩:=DA (P:=P) t o.type e hu hi aS ix js fa hn cZ (b:=b) (m:=fs.length) (cap:=cap) nZ (fun ad=>by rw[o7 ad];rfl)
   (fun bc a1 j u af=>by
    have cM:=(List.getElem?_eq_some_iff.1 af).1
    rw[nZ]at cM
    have aa:=h5 bc a1 j cM
    simp[cM]at af
    rw[aa,af]) o9 bN.1 bN.2
  unfold Oper.wp;simp only[execOp,an,resolve,invoke,builtin,Sem.run_bind,Sem.run_pure,Result.andThen_ok,List.map_toArray,List.map_cons,List.map_nil,lN,hc,cr]
  have jn: ∀k,k<w.heap.size→b3 (β id)≠some k→w'.heap[k]? =w.heap[k]? :=fun k aj b4=>cU.block k aj (fun e=>b4 e.symm)
  have cc: ∀k,ro k→w'.heap[k]? =w.heap[k]? :=fun k aj=>jn k (ag.heap.lt k aj) fun bg=>ag.heap.fh k aj ⟨id,_,bd,rfl,bg⟩
  refine hK _ _ ⟨gW β s.next bh,ro,c3.put (ag.LY (w':=w') id ad bd (.row false e n (es++fs)) bh cU.os cU.tape cU.output cU.size jn bg rfl ?_) o.dst _ _ ?_⟩
  ·refine .row e n _ _ (by rw[dS,List.length_append];exact kI) (fun ay j4=>?_) (fun j x af=>?_)
   ·rw[List.mem_append]at j4
    rcases j4 with h|h
    ·exact b4 _ h
    ·exact mr _ h
   ·exact(w4 b4 cZ.1 eW rL j x af).keep cc fun _ h=>h
  ·exact .aO _ _ (Nat.lt_succ_self _) fun z bD cJ dQ _=>(dS _ _ _).symm
theorem zfQ(x y:Operand)(t u:TypeId)(an:o.op= .call {callee:=.builtin .append,args:=#[x,y],argTypes:=#[t,u]}){e:TypeId}(aH:xM P t u=some e)
 {id:Nat}(hx:aJ G s x= .aO id){es:List (List a6)}(bd:aE s.heap id=some (.row false e 1 es))(ad:s.base≤s.next)
 {b:ByteArray}(ax:aJ G s y= .av (.v (.string b)))(bN:es.length+b.size≤maxLen∧es.length+b.size≤140737488355328):
 dR P G o s (aP.put ⟨eg id s.cS,(s.next,.row false e 1 (es++(eC b).map fun z=>[a6.v (.int .u8 z)]))::dv id s.heap,s.next+1,s.base⟩ o.dst (.aO s.next)):=by
 intro E a w ⟨β,ro,ag⟩ K Q hK
 obtain⟨i,hu,ai,hi,aS,ix,js⟩:=LX aH
 have dh:=ag.heap.c6 id _ bd
 cases dh with
 |row _ _ _ xs cZ b4 eW=>
  have lN:a.eval x=β id:=by
   have h:=ag.eval x
   rw[hx]at h;generalize a.eval x=c at h
   cases h with
   |aO _ _ _ ak=>exact ak _ _ _ _ bd
  obtain⟨bh,w',cr,kI,cU,bg⟩:=LU (P:=P) t u o.type e hu ai hi aS ix js cZ b bN.1 bN.2;obtain⟨c1,dg⟩:=LW (w:=w) (ro:=ro) b;unfold Oper.wp;simp only[execOp,an,resolve,invoke,builtin,Sem.run_bind,Sem.run_pure,Result.andThen_ok,List.map_toArray,List.map_cons,List.map_nil,lN,ag.ef ax,cr]
  have jn: ∀k,k<w.heap.size→b3 (β id)≠some k→w'.heap[k]? =w.heap[k]? :=fun k aj b4=>cU.block k aj (fun e=>b4 e.symm)
  have cc: ∀k,ro k→w'.heap[k]? =w.heap[k]? :=fun k aj=>jn k (ag.heap.lt k aj) fun bg=>ag.heap.fh k aj ⟨id,_,bd,rfl,bg⟩
  refine hK _ _ ⟨gW β s.next bh,ro,c3.put (ag.LY (w':=w') id ad bd (.row false e 1 (es++(eC b).map fun z=>[a6.v (.int .u8 z)])) bh cU.os cU.tape cU.output cU.size jn bg rfl ?_) o.dst _ _ ?_⟩
  ·refine .row e 1 _ _ (by rw[dS,List.length_append,c1];exact kI) (fun ay j4=>?_) (fun j x af=>?_)
   ·rw[List.mem_append]at j4
    rcases j4 with h|h
    ·exact b4 _ h
    ·obtain⟨z,_,rfl⟩:=List.mem_map.1 h
     rfl
   ·exact(w4 b4 cZ.1 eW dg j x af).keep cc fun _ h=>h
  ·exact .aO _ _ (Nat.lt_succ_self _) fun z bD cJ dQ _=>(dS _ _ _).symm
end
section
theorem cn.zfR{s bp:aP}(id off m k gO n:Nat){t:TypeId}{cs:List aD}{es:List (List a6)}(bd:aE s.heap id=some (.box t cs))(hm:aE s.heap m=some (.row false gO n es))(hc:cs[off]? =some (.aO m))(ad:s.base≤k)(bH:k<s.next)(rk:id≠k)
 (h:(⟨eg k (eg m s.cS),eN ((k,.row false gO n es)::dv k (dv m s.heap)) id (.box t ((eg k (eg m cs)).set off (.aO k))),s.next,s.base⟩:aP)=bp):cn s bp:=by
 subst h
 intro E G a w ⟨β,ro,ag⟩
 have zfS:id≠m:=fun h=>by rw[h,hm]at bd;cases bd
 have LZ:=ag.heap.c6 m _ hm
 have fe:=ag.Tq (w':=w) m k ad bH hm (.row false gO n es) (β m) rfl rfl rfl (Nat.le_refl _) (fun _ _ _=>rfl) (fun _ ad=>.inl ad) rfl (by
  cases LZ with
  |row _ _ _ xs aa ae au=>exact .row gO n es xs (by rw[dS];exact aa) ae au)
 have ve:aE ((k,.row false gO n es)::dv k (dv m s.heap)) id=some (.box t (eg k (eg m cs))):=by
  simp only[aE,if_neg (Ne.symm rk),qp,if_neg rk,if_neg zfS,bd,Option.map_some,ey]
 have dh:=fe.heap.c6 id _ ve
 have zfT:=ag.heap.c6 id _ bd
 cases zfT with
 |box _ _ oc L0 g1 g2 g3 g4=>
  cases dh with
  |box _ _ b arr aa ae au aQ=>
   have sY:=aa
   rw[c0 _ _ rk,g1]at sY
   have zfU:oc=b:=by simpa using sY
   subst zfU
   have r1:L0=arr:=by
    have:=g2.symm.trans ae
    simpa using this
   subst r1;refine⟨_,ro,fe.write id _ _ ve rfl rfl (.inl ⟨_,_,_,rfl,rfl⟩) rfl rfl rfl (Nat.le_refl _) (fun _ _ _=>rfl) (.box t _ oc L0 aa ae (by rw[au,List.length_set]) fun j x af=>?_)⟩
   rw[List.getElem?_set]at af
   split at af
   ·rename_i aB
    subst aB
    split at af
    ·simp only[Option.some.injEq]at af
     subst af
     have aw:=g4 off _ hc
     generalize L0.getD off undef=bS at aw⊢
     cases aw with
     |aO _ _ _ ak=>
      refine .aO _ _ bH fun z bD cJ dQ _=>?_
      rw[ak _ _ _ _ hm];exact(dS _ _ _).symm
    ·cases af
   ·exact J2 ve (aQ j x af) fun _ _=>rfl
end
end Go.aL
