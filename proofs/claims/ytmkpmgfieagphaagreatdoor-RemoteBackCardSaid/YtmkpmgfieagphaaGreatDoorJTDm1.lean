/- TD, part K: calls that see all own blocks. Conditions: none. -/
import Derived.Test.YtmkpmgfieagphaaGreatDoorJTDj
import Derived.Test.YtmkpmgfieagphaaGreatDoorJSMu
import Derived.Test.YtmkpmgfieagphaaGreatDoorJTDa
import Derived.Lib.AppendStr
namespace Go.aM
open Go
def Ea:eh→eh→Prop
 | .box _ _,.box _ _=>True
 | .row _ _ n _,.row _ _ m _=>n=m
 | .bM _,.bM _=>True
 |_,_=>False
section
variable {w w':World} {ro ro':Nat→Prop} {σ eV:Heap} {β dL:Nat→Value} {N oS:Nat}
theorem bs.move{x:aD}{c:Value}(h:bs w ro σ β N x c)(hw: ∀b,ro b→w'.heap[b]? =w.heap[b]?)(cc: ∀b,ro b→ro' b)(iZ:N≤oS)
 (aj: ∀id o,id<N→aE eV id=some o→dL id=β id∧∃cz,aE σ id=some cz∧Ea cz o):bs w' ro' eV dL oS x c:=by
 induction h with
 |av x c hx=>exact .av x c (hx.keep hw cc)
 |agg cs c ai _ a1=>exact .agg cs c ai a1
 |tuple cs c ai _ a1=>exact .tuple cs c ai a1
 |ptr id off c ar ak=>
  refine .ptr id off c (by omega) fun t cs ah=>?_
  obtain⟨ad,cz,dV,ai⟩:=aj id _ ar ah
  cases cz with
  |box bz cs'=>
   obtain⟨b,aa,ae⟩:=ak bz cs' dV;exact⟨b,ad.trans aa,ae⟩
  |_=>exact ai.elim
 |dA id off c ar ak=>
  refine .dA id off c (by omega) fun t cs ah=>?_
  obtain⟨ad,cz,dV,ai⟩:=aj id _ ar ah
  cases cz with
  |box bz cs'=>
   obtain⟨b,aa,ae⟩:=ak bz cs' dV;exact⟨b,ad.trans aa,ae⟩
  |_=>exact ai.elim
 |cW id i off c ar ak=>
  refine .cW id i off c (by omega) fun z t n es ah=>?_
  obtain⟨ad,cz,dV,ai⟩:=aj id _ ar ah
  cases cz with
  |row iv bz cJ dP=>
   have ai:cJ=n:=ai
   subst ai;obtain⟨b,l,h1,aa,ae⟩:=ak iv bz cJ dP dV;exact⟨b,l,h1,ad.trans aa,ae⟩
  |_=>exact ai.elim
 |aO id c ar ak=>
  refine .aO id c (by omega) fun z t n es ah=>?_
  obtain⟨ad,cz,dV,ai⟩:=aj id _ ar ah
  cases cz with
  |row iv bz cJ dP=>rw[ad];exact ak iv bz cJ dP dV
  |_=>exact ai.elim
 |fn f p q c d aa ae _ _ hh hj=>exact .fn f p q c d aa ae hh hj
 |ref id c ar ak=>
  refine .ref id c (by omega) fun bN ah=>?_
  obtain⟨ad,cz,dV,ai⟩:=aj id _ ar ah
  cases cz with
  |bM lE=>rw[ad];exact ak lE dV
  |_=>exact ai.elim
 |top c=>exact .top c
end
section
variable {P:Program} {G:a8} {s:aP} {E:Entry} {a:Act} {w w':World} {β:Nat→Value} {ro:Nat→Prop}
variable {o:Oper}
theorem SL{x:Operand}{xs:Array Operand}{f:Fn}{p q:List aD}{c d:Array Value}(h:c5 E G s a w β ro)(aa:c.size=p.length)(ae:d.size=q.length)(kl: ∀(j:Nat) (x:aD),p[j]? =some x→bs w ro s.heap β s.next x (c.getD j undef))(ve: ∀(j:Nat) (x:aD),q[j]? =some x→bs w ro s.heap β s.next x (d.getD j undef)):
 ∀(i:Nat) (y:aD),(p++xs.toList.map (aL G s)++q)[i]? =some y→bs w ro s.heap β s.next y ((c++xs.map a.eval++d).getD i undef):=fun i y ax=>by
 rw[Array.getD_eq_getD_getElem?]
 rcases Nat.lt_or_ge i (p.length+xs.size)with hi|hi
 ·rw[List.getElem?_append_left (by simpa using hi)]at ax
  rw[Array.getElem?_append_left (by simpa[aa]using hi)]
  rcases Nat.lt_or_ge i p.length with my|my
  ·rw[List.getElem?_append_left my]at ax
   rw[Array.getElem?_append_left (by omega),←Array.getD_eq_getD_getElem?]
   exact kl i y ax
  ·rw[List.getElem?_append_right my,List.getElem?_map]at ax
   rw[Array.getElem?_append_right (by omega),aa]
   cases aQ:xs.toList[i-p.length]? with
   |none=>simp[aQ]at ax
   |some z=>
    simp only[aQ,Option.map_some,Option.some.injEq]at ax;subst ax
    have o9:xs[i-p.length]? =some z:=by simpa using aQ
    simp only[Array.getElem?_map,o9,Option.map_some,Option.getD_some]
    exact h.eval z
 ·rw[List.getElem?_append_right (by simpa using hi)]at ax
  rw[Array.getElem?_append_right (by simpa[aa]using hi),←Array.getD_eq_getD_getElem?]
  have:=ve _ y ax
  simpa[aa]using this
def vf(P:Program)(G:a8)(o:Oper)(s:aP)(f:FuncId)(p q:List aD)(xs:Array Operand):Prop:=
 ∀E a w β ro,c5 E G s a w β ro→∃c d:Array Value,c.size=p.length∧d.size=q.length∧(∀(j:Nat) (x:aD),p[j]? =some x→bs w ro s.heap β s.next x (c.getD j undef))∧(∀(j:Nat) (x:aD),q[j]? =some x→bs w ro s.heap β s.next x (d.getD j undef))∧
  ∀dx,(execOp a.eval o).run P dx=(callFunc f (c++xs.map a.eval++d)).run P dx
theorem vf.value{x:Operand}{xs:Array Operand}{ts:Array TypeId}(an:o.op= .call {callee:=.value x,args:=xs,argTypes:=ts}){f:FuncId}{p q:List aD}(hx:aL G s x= .fn (.func f) p q):vf P G o s f p q xs:=by
 intro E a w β ro h
 have lH:=h.eval x
 rw[hx]at lH
 generalize he:a.eval x=JN at lH
 cases lH with
 |fn _ _ _ c d aa ae kl ve=>
  refine⟨c,d,aa,ae,kl,ve,fun dx=>?_⟩
  simp only[execOp,an,resolve,he,Deferred.ofValue,Sem.run_bind,Sem.run_pure,Result.andThen_ok,invoke]
def methodOf(P:Program)(t:TypeId)(name:String):Option Nat:=
 match P.info? t,P.underlying t with
 |some i,some d=>match i.methods.find? (·.name==name),(match d with
  | .pointer _=>false
  |_=>true)with
  |some m,true=>match m.path.isEmpty,m.func with
   |true,some (f,false)=>some f
   |_,_=>none
  |_,_=>none
 |_,_=>none
theorem zev{t:TypeId}{name:String}{f:Nat}(h:methodOf P t name=some f)(v:Value)(n:Nat)(w:World):(method (n+1) t v name).run P w= .ok (f,v) w:=by
 unfold methodOf at h
 split at h
 ·rename_i i d hi hd
  split at h
  ·rename_i m hm ak
   split at h
   ·rename_i g rj nM
    cases h
    have ry:m.path.toList=[]:=by
     have:=Array.isEmpty_iff.1 rj
     rw[this]
    unfold method;simp only[Sem.run_bind,typeInfo,hi,Sem.run_pure,Result.andThen_ok,hm,ry,follow,nM]
    cases d<;>first|(cases ak;done)|simp[receiverAt,run_underlying hd,Place.get,Result.andThen,typeInfo,hi,hm,ry,follow,nM]
   ·cases h
  ·cases h
 ·cases h
theorem vf.invoke{y:aD}{x:Operand}{xs:Array Operand}{ts:Array TypeId}{name:String}(an:o.op= .call {callee:=.invoke x name,args:=xs,argTypes:=ts}){t:TypeId}{f:Nat}(hm:methodOf P t name=some f)
 (aw: ∀E a w β ro,c5 E G s a w β ro→∃v,a.eval x= .iface t v∧bs w ro s.heap β s.next y v):vf P G o s f [y] [] xs:=by
 intro E a w β ro h
 obtain⟨v,he,af⟩:=aw E a w β ro h
 refine⟨#[v],#[],rfl,rfl,fun j z ag=>?_,fun j z ag=>by simp at ag,fun dx=>?_⟩
 ·cases j with
  |zero=>simp at ag;subst ag;exact af
  |succ j=>simp at ag
 ·have hex:(#[Value.iface t v]++xs.map a.eval).extract 1 (#[Value.iface t v]++xs.map a.eval).size=xs.map a.eval:=by
   apply Array.ext';simp only[Array.toList_extract,Array.toList_append,Array.size_append];simp[List.extract];exact List.take_of_length_le (by simp)
  have zew:=fun n=>zev (P:=P) hm v n dx
  have hd:P.types.size+Made.depth=(P.types.size+99)+1:=rfl
  simp only[execOp,an,resolve,he,Sem.run_bind,Sem.run_pure,Result.andThen_ok,Go.invoke]
  have aH:(#[Value.iface t v]++xs.map a.eval)[0]? =some (.iface t v):=by rw[Array.getElem?_append_left (by show 0<1;decide)];rfl
  rw[hex,aH]
  have ak: ∀k:Program→Sem Next,((program >>= k):Sem Next).run P dx=(k P).run P dx:=fun k=>rfl
  show((program >>= fun zP=>method (zP.types.size+Made.depth) t v name >>= fun x=>callFunc x.1 (#[x.2]++xs.map a.eval)):Sem Next).run P dx=_;rw[ak,Sem.run_bind,hd,zew,Result.andThen_ok,Array.append_empty]
theorem zex{xs:Array Operand}{f:FuncId}{p q:List aD}(vg:vf P G o s f p q xs)(gC:m9 P f=true)
 {R:aD→Heap→Prop}(hc:dF P G f (p++xs.toList.map (aL G s)++q) s.heap s.next R){bq:aP→Prop}
 (fL: ∀r bV,R r bV→∃m,s.next≤m∧gB m r=true∧k4 m bV=true∧(∀id o,id<s.next→aE bV id=some o→∃cz,aE s.heap id=some cz∧Ea cz o)∧bq (aP.put ⟨s.cQ,bV,m,s.base⟩ o.dst r)):
 ∀(E:Entry) (a:Act) (w:World),Rel E G s a w→∀(K:Act→World→Prop) (Q:Exit→Act→World→Prop),(∀t,bq t→∀bc w',Rel E G t bc w'→K bc w')→o.wp P a w K Q:=by
 intro E a w ⟨β,ro,h⟩ K Q hK
 obtain⟨c,d,aa,ae,kl,ve,cp⟩:=vg E a w β ro h
 ·unfold Oper.wp
  rw[cp w,C4 gC]
  have hk:=hc w β ro (c++xs.map a.eval++d) (by simp[aa,ae,Nat.add_assoc]) (SL (x:=.const undef) (f:=.func f) h aa ae kl ve) h.heap h.ic h.trans.new
  refine Calls.mono hk fun e w' aJ=>?_
  obtain⟨v,r,bV,dL,ro',cJ,rfl,af,dB,hO,cE⟩:=aJ;obtain⟨m,hm,zey,SM,zk,eX⟩:=fL r bV af
  have hw: ∀b,ro b→w'.heap[b]? =w.heap[b]? :=fun b ad=>cE.frame b (h.heap.lt b ad) (h.heap.ff b ad)
  have cc: ∀b,ro b→ro' b:=cE.j7
  have aj: ∀id o,id<s.next→aE bV id=some o→dL id=β id∧∃cz,aE s.heap id=some cz∧Ea cz o:=fun id o bI ah=>⟨(cE.dK id bI o ah).2,zk id o bI ah⟩
  have fc:c5 E G ⟨s.cQ,bV,m,s.base⟩ a w' dL ro':=by
   refine⟨h.defers,h.size,fun i x hx=>(h.slot i x hx).move hw cc hm aj,⟨fun id o ah=>?_,hO.inj,hO.ff,hO.lt⟩,h.ic.keep hw cc,?_,h.base⟩
   ·obtain⟨_,zx⟩:=rr SM ah
    cases hO.c7 id o ah with
    |box t cs b arr aC bf cg ek=>exact .box t cs b arr aC bf cg fun j x ag=>(ek j x ag).lower (rq (zx t cs rfl) ag)
    |row t n es xs aC bf cg=>exact .row t n es xs aC bf cg
    |ga t n es aC=>exact .ga t n es aC
    |bM bN b o aC bf cg=>exact .bM bN b o aC bf cg
   ·have t:=h.trans
    refine⟨cE.os.trans t.os,cE.tape.trans t.tape,cE.output.trans t.output,Nat.le_trans t.size cE.size,fun b ad hn=>?_,fun b ad=>?_,fun b ad=>cc b (t.j7 b ad),fun b ad=>?_,fun id bI o ah=>?_,fun id o ah=>(rr SM ah).1,Nat.le_trans t.le hm⟩
    ·rw[←t.frame b ad hn]
     refine cE.frame b (Nat.lt_of_lt_of_le ad t.size) fun hA=>?_
     rcases t.hg b hA with q|q
     ·exact hn q
     ·omega
    ·rcases cE.jk b ad with q|q|q
     ·exact t.jk b q
     ·rcases t.hg b q with q|q
      ·exact .inr (.inl q)
      ·exact .inr (.inr q)
     ·exact .inr (.inr (Nat.le_trans t.size q))
    ·rcases cE.hg b ad with q|q
     ·exact t.hg b q
     ·exact .inr (Nat.le_trans t.size q)
    ·have JI:id<s.next:=Nat.lt_of_lt_of_le bI t.le
     obtain⟨aa,ae⟩:=aj id o JI ah;obtain⟨cz,au,_⟩:=ae;obtain⟨c3,dj⟩:=t.dK id bI cz au;exact⟨c3,aa.trans dj⟩
  exact hK _ eX _ _ ⟨dL,ro',fc.put o.dst r v (dB.lower zey)⟩
end
end Go.aM
namespace Go.aM
open Go
inductive vh:eh→eh→Prop where
 |same (o:eh):vh o o
 |box (t:TypeId) {cs ds:List aD}:fQ cs ds→vh (.box t cs) (.box t ds)
 |row (t:TypeId) (n:Nat) {es fs:List (List a6)}:es.length=fs.length→(∀e∈fs,e.length=n)→fY es.flatten fs.flatten→vh (.row false t n es) (.row false t n fs)
def qE(s t:aP):Prop:=∀E (G:a8) a w β ro,c5 E G s a w β ro→c5 E G t a w β ro
theorem qE.le{s t:aP}(h:qE s t):cm s t:=fun E G a w ⟨β,ro,af⟩=>⟨β,ro,h E G a w β ro af⟩
theorem qE.of{s t:aP}(ad:t.base=s.base)(hn:s.next≤t.next)(ar:t.cQ.length=s.cQ.length)(ai: ∀(i:Nat) (v:aD),t.cQ[i]? =some v→∃u,s.cQ[i]? =some u∧Sub u v)
 (bb: ∀(id:Nat) (o:eh),aE t.heap id=some o→∃cz,aE s.heap id=some cz∧vh cz o):qE s t:=by
 intro E G a w β ro h
 have nR: ∀id ty cs,aE t.heap id=some (.box ty cs)→β id=β id∧∃ty cs,aE s.heap id=some (.box ty cs):=fun id ty cs ah=>by
  obtain⟨cz,aa,ae⟩:=bb id _ ah
  cases ae with
  |same=>exact⟨rfl,ty,cs,aa⟩
  |box _ h=>exact⟨rfl,_,_,aa⟩
 have c1: ∀id z ty n es,aE t.heap id=some (.row z ty n es)→β id=β id∧∃z ty es,aE s.heap id=some (.row z ty n es):=fun id z ty n es ah=>by
  obtain⟨cz,aa,ae⟩:=bb id _ ah
  cases ae with
  |same=>exact⟨rfl,z,ty,es,aa⟩
  |row _ _=>exact⟨rfl,_,_,_,aa⟩
 have nS: ∀id bN,aE t.heap id=some (.bM bN)→β id=β id∧∃bN,aE s.heap id=some (.bM bN):=fun id bN ah=>by
  obtain⟨cz,aa,ae⟩:=bb id _ ah
  cases ae with
  |same=>exact⟨rfl,bN,aa⟩
 have hex: ∀id o,aE t.heap id=some o→∃cz,aE s.heap id=some cz∧cz.live=o.live:=fun id o ah=>by
  obtain⟨cz,aa,ae⟩:=bb id o ah
  cases ae<;>exact⟨_,aa,rfl⟩
 have own: ∀b,Own t.heap β b→Own s.heap β b:=fun b ⟨id,o,ah,Kb,bg⟩=>by
  obtain⟨cz,aa,ae⟩:=hex id o ah;exact⟨id,cz,aa,by rw[ae];exact Kb,bg⟩
 refine⟨h.defers,by rw[ar];exact h.size,fun i x hx=>?_,⟨fun id o ah=>?_,fun id gm o cz b aa ae au aR bA cB=>?_,fun b ad an=>h.heap.ff b ad (own b an),h.heap.lt⟩,h.ic,?_,by rw[ad];exact h.base⟩
 ·obtain⟨u,hu,gA⟩:=ai i x hx
  exact(gA _ _ _ _ _ _ (h.slot i u hu)).keep (fun _ _=>rfl) (fun _ h=>h) hn nR c1 nS
 ·obtain⟨cz,aa,zez⟩:=bb id o ah
  have dk:=(h.heap.c7 id cz aa).keep (fun _ _=>rfl) (fun _ h=>h) hn (Nat.le_refl _) rfl (fun _ _ _=>rfl) nR c1 nS
  cases zez with
  |same=>exact dk
  |box ty gA=>
   cases dk with
   |box _ _ b arr aC bf cg ek=>
    refine .box ty _ b arr aC bf (by rw[cg,gA.at.1]) fun j x ag=>?_
    obtain⟨u,hu,Li⟩:=gA.at.2 j x ag;exact Li _ _ _ _ _ _ (ek j u hu)
  |row ty n ar hn gA=>
   cases dk with
   |row _ _ _ xs aC bf cg=>
    refine .row ty n _ xs (by rw[←ar];exact aC) hn fun j x ag=>?_
    obtain⟨u,hu,Li⟩:=gA.at.2 j x ag;exact Li _ _ _ (cg j u hu)
 ·obtain⟨p,g1,g2⟩:=hex id o aa
  obtain⟨fV,g3,g4⟩:=hex gm cz ae;exact h.heap.inj id gm p fV b g1 g3 (by rw[g2];exact au) (by rw[g4];exact aR) bA cB
 ·have pt:=h.trans
  refine⟨pt.os,pt.tape,pt.output,pt.size,pt.frame,pt.jk,pt.j7,fun b ad=>pt.hg b (own b ad),fun id hi o ah=>?_,fun id o ah=>?_,Nat.le_trans pt.le hn⟩
  ·obtain⟨p,g1,_⟩:=hex id o ah
   exact pt.dK id hi p g1
  ·obtain⟨p,g1,_⟩:=hex id o ah
   exact Nat.lt_of_lt_of_le (pt.new id p g1) hn
theorem cm.of{s t:aP}(ad:t.base=s.base)(hn:s.next≤t.next)(ar:t.cQ.length=s.cQ.length)(ai: ∀(i:Nat) (v:aD),t.cQ[i]? =some v→∃u,s.cQ[i]? =some u∧Sub u v)
 (bb: ∀(id:Nat) (o:eh),aE t.heap id=some o→∃cz,aE s.heap id=some cz∧vh cz o):cm s t:=(qE.of ad hn ar ai bb).le
theorem qE.put{s t:aP}{i:Nat}{x:a6}(h:qE s t)(ai:s.cQ[i]? =some (.av x)):qE s (t.put (some i) (.av x)):=by
 intro E G a w β ro af
 have aI:=h E G a w β ro af
 refine⟨aI.defers,by simp only[aP.put,List.length_set];exact aI.size,fun j y ax=>?_,aI.heap,aI.ic,aI.trans,aI.base⟩
 simp only[aP.put,List.getElem?_set]at ax
 split at ax
 ·rename_i e
  subst e
  split at ax
  ·cases ax
   cases af.slot i (.av x) ai with
   |av _ _ aw=>exact .av _ _ aw
  ·cases ax
 ·exact aI.slot j y ax
section
variable {P:Program} {G:a8}
theorem dQ.xr{o:Oper}{s t bz:aP}(h:dQ P G o s t)(ar:cm t bz):dQ P G o s bz:=
 fun E a w af K Q hK=>h E a w af K Q fun bc w' dW=>hK bc w' (ar E G bc w' dW)
theorem SN{s:aP}{dst:Option Nat}{v bh:aD}(h:Sub v bh):cm (s.put dst v) (s.put dst bh):=by
 cases dst with
 |none=>exact cm.refl _
 |some d=>
  refine cm.of rfl (Nat.le_refl _) (by simp[aP.put]) (fun i u hu=>?_) (fun id o an=>⟨o,an,.same o⟩)
  simp only[aP.put,List.getElem?_set]at hu⊢
  split at hu
  ·rename_i e
   rw[if_pos e]
   split at hu
   ·rename_i bI
    cases hu;rw[if_pos bI];exact⟨_,rfl,h⟩
   ·cases hu
  ·rename_i e
   rw[if_neg e];exact⟨u,hu,Sub.refl _⟩
theorem SO{s:aP}{h':Heap}{dst:Option Nat}{v:aD}(bb: ∀id o,aE h' id=some o→∃cz,aE s.heap id=some cz∧vh cz o):cm (s.put dst v) (aP.put {s with heap:=h'} dst v):=by
 cases dst with
 |none=>exact cm.of rfl (Nat.le_refl _) rfl (fun i u hu=>⟨u,hu,Sub.refl _⟩) bb
 |some d=>exact cm.of rfl (Nat.le_refl _) rfl (fun i u hu=>⟨u,hu,Sub.refl _⟩) bb
theorem Lj: ∀{l m:List a6},fQ (l.map .av) (m.map .av)→fY l m
 |[],[],_=>.nil
 |[],_::_,h=>by cases h
 |_::_,[],h=>by cases h
 |x::l,y::m,h=>by
  cases h with
  |cons aa ae=>
   refine .cons (fun w ro c hc=>?_) (Lj ae)
   have:=aa w ro [] (fun _=>undef) 0 c (.av x c hc)
   cases this with
   |av _ _ h=>exact h
theorem fY.refl: ∀(l:List a6),fY l l
 |[]=>.nil
 |x::r=>.cons (lM.refl x) (fY.refl r)
theorem fY.append{a b c d:List a6}(h:fY a b)(k:fY c d):fY (a++c) (b++d):=by
 induction h with
 |nil=>exact k
 |cons h _ a1=>exact .cons h a1
end
section
variable {P:Program} {G:a8} {s:aP}
theorem zeA{o:Oper}(t:TypeId)(len:Nat)(parts:Array (Nat × Operand))(an:o.op= .buildSlice t len parts){e n:Nat}(hu:P.underlying t=some (.slice e))(bP:(P.info? e).map (·.size)=some n)
 {zs:List Value}(aQ:zeroCells P e=some zs)(sK:zs.all Value.oneCell'=true)(mr:zs.length=n)(hlen:0<len*n∧len*n≤16777216)
 {ps:List (Nat × aD)}(rz:parts.toList.map (fun p=>(p.1,aL G s p.2))=ps)(dZ:ps.all (fun p=>(cR p.2).all (eE s.heap))=true)
 {ds:List aD}(hf:kd (fun i=>some (i*n,n)) ((List.replicate len (zs.map fun z=>aD.av (.v z))).flatten) ps=some ds)(ad:s.base≤s.next):
 dQ P G o s ({s with heap:=(s.next,.box e ds)::s.heap,next:=s.next+1}.put o.dst (.dA s.next len)):=by
 have na:ds.length=len*n:=by
  have: ∀(ps:List (Nat × aD)) (cs ds:List aD),kd (fun i=>some (i*n,n)) cs ps=some ds→ds.length=cs.length:=by
   intro ps
   induction ps with
   |nil=>intro cs ds h;simp[kd]at h;rw[h]
   |cons p r a1=>
    intro cs ds h;obtain⟨i,v⟩:=p;simp only[kd]at h
    split at h
    ·rename_i hc
     rw[a1 _ _ h,qe _ _ _ (by omega)]
    ·cases h
  rw[this ps _ _ hf,j8 (n:=n) (fun e he=>by rw[List.mem_replicate]at he;rw[he.2];simpa using mr)]
  simp
 intro E a w ⟨β,ro,af⟩ K Q hK
 obtain⟨aa,ae⟩:=JW af rz dZ
 obtain⟨z,kb,oY,_⟩:=zn aQ w
 have eW:(List.replicate len (zs.map fun z=>aD.av (.v z))).flatten.length=len*n:=by
  rw[j8 (n:=n) (fun e he=>by rw[List.mem_replicate]at he;rw[he.2];simpa using mr)];simp
 have zcx:zs.toArray.size=n:=by simpa using mr
 have rA:0<n:=by
  rcases Nat.eq_zero_or_pos n with h|h
  ·rw[h]at hlen;simp at hlen
  ·exact h
 obtain⟨ys,g1,g2,g3⟩:=C8 (place':=fun i=>some (i*n,n)) (fun _ _ h=>h) af.heap hf aa ae (xs:=(Array.range (len*n)).map fun x=>zs.toArray[x%zs.toArray.size]!) (by rw[eW];simp) (fun j x ag=>by
  have cL:j<len*n:=by rw[←eW];exact(List.getElem?_eq_some_iff.1 ag).1
  have hm:j=(j/ n)*n+j%n:=by rw[Nat.mul_comm];exact(Nat.div_add_mod j n).symm
  have nY:j%n<n:=Nat.mod_lt _ rA
  have nZ:j/ n<len:=by rw[Nat.div_lt_iff_lt_mul rA];exact cL
  rw[hm,re (n:=n) (fun e he=>by rw[List.mem_replicate]at he;rw[he.2];simpa using mr) (i:=j/ n) (e:=zs.map fun z=>aD.av (.v z)) (by simp[nZ]) (j%n) nY]at ag
  have:=JV (w:=w) (ro:=ro) (σ:=s.heap) (β:=β) (N:=s.next) sK (j%n) x ag
  have aC:(Array.map (fun x=>zs.toArray[x%zs.toArray.size]!) (Array.range (len*n))).getD j undef=zs.toArray.getD (j%n) undef:=by
   have au:j%n<zs.length:=by omega
   simp[cL,mr,List.getElem?_eq_getElem au]
  rw[aC]
  exact this)
 have cp:(execOp a.eval o).run P w= .ok (.value (.slice (some ⟨w.heap.size,0,none⟩) len len)) (w.alloc (.cells ys e)):=by
  have zC:(sizeOf e).run P w= .ok n w:=by
   cases hi:P.info? e with
   |none=>simp[hi]at bP
   |some i=>simp[hi]at bP;simp[sizeOf,typeInfo,hi,bP]
  have b5: ¬len*n>2^24:=by omega
  have jr: ¬len*n=0:=by omega
  simp only[execOp,an,Sem.run_bind,Instr.buildSlice,run_underlying hu,Result.andThen_ok,zC,if_neg b5,if_neg jr,kb,Sem.run_pure,oY]
  erw [g1]
  simp[newRow]
 have jl:aE s.heap s.next=none:=by
  cases ah:aE s.heap s.next with
  |none=>rfl
  |some p=>have:=af.trans.new _ _ ah;omega
 have up: ∀(x:aD) (c:Value),bs w ro s.heap β s.next x c→bs (w.alloc (.cells ys e)) ro ((s.next,.box e ds)::s.heap) (gS β s.next (.pointer (some ⟨w.heap.size,0,none⟩))) (s.next+1) x c:=fun x c hx=>
  hx.move (fun b ad=>(Go.RowKit.Below.heap_alloc w _ b (af.heap.lt b ad))) (fun _ h=>h) (Nat.le_succ _) fun id o bI ah=>by
   have b5: ¬s.next=id:=by omega
   simp only[aE,if_neg b5]at ah;refine⟨c2 _ _ (fun bb=>b5 bb.symm),o,ah,?_⟩
   cases o with
   |box=>trivial
   |row=>rfl
   |bM=>trivial
 have fc:=af.new (w':=w.alloc (.cells ys e)) s.next jl ad (Nat.le_refl _) (.box e ds) (.pointer (some ⟨w.heap.size,0,none⟩)) rfl rfl rfl (by simp) (fun b ad=>Go.RowKit.Below.heap_alloc w _ b ad) (fun b ad=>by simp[b4]at ad;omega) rfl
  (.box e ds w.heap.size ys (by rw[dR]) (heap_alloc_new w _) g2 fun j x ag=>up _ _ (g3 j x ag))
 unfold Oper.wp
 rw[cp]
 exact hK _ _ ⟨_,ro,fc.put o.dst (.dA s.next len) (.slice (some ⟨w.heap.size,0,none⟩) len len) (.dA _ _ _ (Nat.lt_succ_self _) fun t cs _=>⟨_,dR _ _ _,rfl⟩)⟩
end
def ab.Ap:ab→Bool
 | .aV _ _=>true
 | .fd _ _ _ _=>true
 | .cs _=>true
 | .ip _ _ _=>true
 |_=>false
theorem Eb{G:a8}{e:Env}: ∀{l:List ab},l.all ab.Ap=true→∃vs,iL (ab.bQ G e l)=some vs∧ab.bQ G e l=vs.map .av
 |[],_=>⟨[],rfl,rfl⟩
 |x::r,h=>by
  simp only[List.all_cons,Bool.and_eq_true]at h;obtain⟨vs,aa,ae⟩:=Eb (G:=G) (e:=e) h.2
  have: ∃y,x.den G e= .av y:=by
   cases x<;>first|exact⟨_,rfl⟩|(simp[ab.Ap]at h)
  obtain⟨y,ax⟩:=this;refine⟨y::vs,?_,?_⟩
  ·simp only[ab.bQ,ax,iL,aa]
  ·simp only[ab.bQ,ax,ae,List.map_cons]
mutual
def ab.kill(id:Nat):ab→ab
 | .ch l=>.ch (ab.ed id l)
 | .tp l=>.tp (ab.ed id l)
 | .eb k o=>match decide (k=id)with
  |true=>.top
  |false=>.eb k o
 | .gM k x o=>match decide (k=id)with
  |true=>.top
  |false=>.gM k x o
 | .gT k o x n=>match decide (k=id)with
  |true=>.top
  |false=>.gT k o x n
 | .aO k=>match decide (k=id)with
  |true=>.top
  |false=>.aO k
 | .cO k n=>match decide (k=id)with
  |true=>.top
  |false=>.cO k n
 | .fg g (some k) o=>match decide (k=id)with
  |true=>.fg g none o
  |false=>.fg g (some k) o
 | .fn f a b=>.fn f (ab.ed id a) (ab.ed id b)
 | .gW k=>match decide (k=id)with
  |true=>.top
  |false=>.gW k
 | .fE g b x=>.fE g b (ab.kill id x)
 |x=>x
def ab.ed(id:Nat):List ab→List ab
 |[]=>[]
 |x::r=>ab.kill id x::ab.ed id r
end
def ba.map{α:Type}(f:α→α):ba α→ba α
 | .emp=>.emp
 | .n v l r=>.n (match v with|some x=>some (f x)|none=>none) (l.map f) (r.map f)
theorem ba.get_map{α:Type}(f:α→α): ∀(t:ba α) (k:Nat),(t.map f).get k=(t.get k).map f
 | .emp,_=>rfl
 | .n v l r,k=>by
  simp only[ba.map,ba.get]
  split
  ·cases v<;>rfl
  ·split
   ·exact ba.get_map f l _
   ·exact ba.get_map f r _
structure dc where
 xs:List bJ
 ns:List fe
 Ri:Option Nat
 h:List (Nat × bC)
 n:Nat
 v:ab
def dc.l(r:dc)(l:ba ab):ba ab:=
 match r.Ri with
 |none=>l
 |some id=>l.map (ab.kill id)
def dc.st(r:dc)(S:aq)(dst:Option Nat):aq:=({S with l:=r.l S.l,h:=r.h,n:=r.n}:aq).put dst r.v
def mG(P:Program)(G:a8)(N B:Nat)(M:List aS)(o:Oper)(S:aq)(r:dc):Prop:=
 ∀e,(∀c∈S.g,c.ok e)→(∀(j:Nat) (x:bJ),r.xs[j]? =some x→Env.at e (S.k+j)=x.den M e)→(∀n∈r.ns,n.ok M e)→dQ P G o (S.den G N B e) ((r.st S o.dst).den G N B e)
def Lk(P:Program)(B:Nat)(S:aq)(t:TypeId):Option dc:=
 match zeroCells P t with
 |some zs=>match zs.all Value.oneCell'&&Nat.ble B S.n with
  |true=>some ⟨[],[],none,(S.n,.dn t (zs.map .cs))::S.h,S.n+1,.eb S.n 0⟩
  |false=>none
 |none=>none
def Ll(B:Nat)(S:aq)(t:TypeId)(x:ab):Option dc:=
 match x.cells.all (kL S.h)&&Nat.ble B S.n with
 |true=>some ⟨[],[],none,(S.n,.dn t x.cells)::S.h,S.n+1,.eb S.n 0⟩
 |false=>none
def Lm(P:Program)(S:aq)(t:TypeId)(p x:ab):Option dc:=
 match p with
 | .eb id off=>match db S.h id,(P.info? t).map (·.size)with
  |some (.dn bt l),some n=>match x.cells.all (kL S.h)&&(Nat.beq n x.cells.length&&Nat.ble (off+n) l.length)with
   |true=>some ⟨[],[],none,jv S.h id (.dn bt (ei l off x.cells)),S.n,.top⟩
   |false=>none
  |_,_=>none
 | .gM id i off=>match db S.h id,(P.info? t).map (·.size),i.rt with
  |some (.rw bt c y),some n,some (.int k)=>match x.cells.all ab.Ap&&((x.cells.all (kL S.h)&&y.ew (.li c))&&(Nat.beq n x.cells.length&&(Nat.ble (off+n) (bZ c)&&hq (eY c) (ei (iP c S.k 0 (eY c)) off x.cells))))with
   |true=>some ⟨[.f2 (.kh c k) y i,.up c y i (.ch (ei (iP c S.k 0 (eY c)) off x.cells))],po S.g (.iQ c) (.kh c k) y i,
    none,jv S.h id (.rw bt c (.aV (.li c) (S.k+1))),S.n,.top⟩
   |false=>none
  |_,_,_=>none
 |_=>none
section
variable {P:Program} {G:a8} {o:Oper} {N B:Nat} {S:aq} {M:List aS}
theorem zeB{t:TypeId}{r:dc}(an:o.op= .alloc t)(h:Lk P B S t=some r):mG P G N B M o S r:=fun e hf hx hn=>by
 unfold Lk at h
 split at h
 ·rename_i zs aQ
  split at h
  ·rename_i ad
   cases h;simp only[Bool.and_eq_true]at ad
   have:=QA (G:=G) (s:=S.den G N B e) t an (Nat.le_of_ble_eq_true ad.2) aQ ad.1
   rw[dc.st,fa];simp only[aq.den,cx,bC.den,ab.den,dc.l]at this⊢;rw[e6,List.map_map];exact this
  ·cases h
 ·cases h
theorem zeC{t:TypeId}{x:Operand}{r:dc}(an:o.op= .box t x)(h:Ll B S t (S.aZ N x)=some r):mG P G N B M o S r:=fun e hf hx hn=>by
 unfold Ll at h
 split at h
 ·rename_i ad
  cases h;simp only[Bool.and_eq_true]at ad
  have aw:=u6 (G:=G) (e:=e) ad.1
  have:=Qy (P:=P) (G:=G) (s:=S.den G N B e) t x an (Nat.le_of_ble_eq_true ad.2) (by rw[bE hf,aw];exact xj ad.1)
  rw[bE hf,aw]at this;rw[dc.st,fa];exact this
 ·cases h
theorem zeD{c:bL}{l:List (fJ c)}{j:Nat}{iX aC:fJ c}{vs:List a6}(aH:l[j]? =some iX)(ai:fY vs (cb c aC)):fY ((l.map (cb c)).set j vs).flatten ((l.set j aC).map (cb c)).flatten:=by
 induction l generalizing j with
 |nil=>simp at aH
 |cons x l a1=>
  cases j with
  |zero=>
   simp only[List.map_cons,List.set_cons_zero,List.flatten_cons];exact ai.append (fY.refl _)
  |succ j=>
   simp only[List.map_cons,List.set_cons_succ,List.flatten_cons];exact(fY.refl _).append (a1 (by simpa using aH))
theorem zeE{t:TypeId}{p x:Operand}{r:dc}(an:o.op= .store t p x)(h:Lm P S t (S.aZ N p) (S.aZ N x)=some r):mG P G N B M o S r:=fun e hf hx hn=>by
 unfold Lm at h
 split at h
 ·rename_i id off ak
  split at h
  ·rename_i bt l n ah bP
   split at h
   ·rename_i ad
    cases h;simp only[Bool.and_eq_true]at ad
    have aw:=u6 (G:=G) (e:=e) ad.1
    have hlen:=Nat.eq_of_beq_eq_true ad.2.1
    have lJ:cR (aL G (S.den G N B e) x)=ab.bQ G e (S.aZ N x).cells:=by rw[bE hf,aw]
    have:=QC (P:=P) (G:=G) (s:=S.den G N B e) t p x an (id:=id) (off:=off) (by rw[bE hf,ak];rfl) (bt:=bt) (cs:=ab.bQ G e l) (by simp only[aq.den,ef,ah,Option.map_some,bC.den])
     (vs:=ab.bQ G e (S.aZ N x).cells) lJ (xj ad.1) (by rw[me,bP,hlen]) (by rw[me,me,←hlen];exact Nat.le_of_ble_eq_true ad.2.2)
    rw[dc.st,fa];simp only[aq.den,s8,bC.den,ab.den,dc.l]at this⊢;rw[e6,DS,←e6,←e6];exact this
   ·cases h
  ·cases h
 ·rename_i id i off ak
  split at h
  ·rename_i bt c y n k ah bP hi
   split at h
   ·rename_i ad
    cases h;simp only[Bool.and_eq_true]at ad;obtain⟨gU,⟨jo,hU⟩,tj,xt,Aq⟩:=ad
    have hlen:=Nat.eq_of_beq_eq_true tj
    obtain⟨g1,g2⟩:=xh hf hi hn;obtain⟨vs,v1,v2⟩:=Eb (G:=G) (e:=e) gU
    have fy:vs.length=n:=by
     have:=congrArg List.length v2
     rw[me,List.length_map]at this;omega
    have lJ:cR (aL G (S.den G N B e) x)=ab.bQ G e (S.aZ N x).cells:=by rw[bE hf,u6 jo]
    have aH:Env.at e S.k=⟨.st c,List.getD (y.aA e (.li c)) (Int.toNat (i.aA e (.int k))) (az c)⟩:=hx 0 _ rfl
    have aa:Env.at e (S.k+1)=_:=hx 1 _ rfl
    have eL:=SA g1 g2
    have dD:=QE (P:=P) (G:=G) (s:=S.den G N B e) t p x an (id:=id) (i:=(ck (i.dyn e)).toNat) (off:=off) (by rw[bE hf,ak];rfl) (bt:=bt) (n:=bZ c) (es:=List.map (cb c) (y.aA e (.li c))) (by simp only[aq.den,ef,ah,Option.map_some,bC.den])
     (e:=cb c (List.getD (y.aA e (.li c)) (Int.toNat (i.aA e (.int k))) (az c))) (by rw[List.getElem?_map,lP hi,eL];rfl) (by rw[lJ];exact v1) (by rw[bP,fy]) (by rw[fy];exact Nat.le_of_ble_eq_true xt)
    refine dD.xr ?_
    rw[dc.st,fa]
    have k2:fY (ei (cb c (List.getD (y.aA e (.li c)) (Int.toNat (i.aA e (.int k))) (az c))) off vs) (cb c (pa c (fR e (eY c) (ei (iP c S.k 0 (eY c)) off (S.aZ N x).cells)))):=by
     have:=zZ (G:=G) (e:=e) Aq
     rw[e6,DS,←e6,←e6,s0,aH,cA,v2,←DS]at this;exact Lj this
    have fc:(ab.aV (.li c) (S.k+1)).aA e (.li c)=List.set (y.aA e (.li c)) (ck (i.dyn e)).toNat (pa c (fR e (eY c) (ei (iP c S.k 0 (eY c)) off (S.aZ N x).cells))):=by
     simp only[ab.aA,ab.fo,ab.dyn,cA,aa,bJ.den,ab.get,ab.cells]
    refine SO (s:={S.den G N B e with heap:=eO (S.den G N B e).heap id _}) (h':=cx G e (jv S.h id (.rw bt c (.aV (.li c) (S.k+1))))) fun gm ie Ar=>?_
    rw[s8,wz]at Ar;simp only[wz]
    by_cases bd:id=gm
    ·rw[if_pos bd]at Ar⊢
     cases Ar;refine⟨_,rfl,?_⟩
     simp only[bC.den];rw[fc];refine .row bt (bZ c) (by simp) (fun q aJ=>?_) (zeD (by rw[lP hi];exact eL) k2)
     obtain⟨z,_,rfl⟩:=List.mem_map.1 aJ;exact Dm c z
    ·rw[if_neg bd]at Ar⊢
     exact⟨ie,Ar,.same ie⟩
   ·cases h
  ·cases h
 ·cases h
end
end Go.aM
namespace Go.aM
open Go Go.Lib
section
variable {P:Program}
theorem Ln{w:World}(t u ty e:TypeId){i:TypeInfo}(aI:P.underlying t=some (.slice e))(hu:P.underlying u=some .string)(hi:P.info? e=some i)(aQ:i.zero=some (.int .u8 0))(iw:i.size=1)(js:i.bytes=1)
 {v:Value}{n:Nat}{xs:List Value}(c1:ib w e 1 v n xs)(s:ByteArray)(sL:n+s.size≤maxLen)(zD:n+s.size≤140737488355328):
 ∃bh w',(Builtin.append_ #[t,u] ty #[v,.string s]).run P w= .ok bh w'∧ib w' e 1 bh (n+s.size) (xs++strCells s)∧w.grownBy w' (b4 v)∧(∀k,b4 bh=some k→b4 v=some k∨w.heap.size≤k):=by
 have ziI:n+s.size≤9223372036854775807:=by simp only[maxLen]at sL;omega
 have jO:xs.length=n:=by simpa using c1.1
 have hlen:(xs++strCells s).length=(n+s.size)*1:=by rw[List.length_append,jO,strCells_length,Nat.mul_one]
 have grown: ∀(dK:Nat),dK<n+s.size→∀(row:Option Nat),
  ib (w.drew.alloc (.cells (xs.toArray++(strCells s).toArray++Builtin.zeroCells (Value.int .u8 0).cells (grownCap w (n+s.size) dK e-(n+s.size))) e)) e 1
   (.slice (some ⟨w.heap.size,0,none⟩) (n+s.size) (grownCap w (n+s.size) dK e)) (n+s.size) (xs++strCells s)∧
  w.grownBy (w.drew.alloc (.cells (xs.toArray++(strCells s).toArray++Builtin.zeroCells (Value.int .u8 0).cells (grownCap w (n+s.size) dK e-(n+s.size))) e)) row:=by
  intro dK an row
  have h9:=grownCap_ge w (n+s.size) dK e
  have ig:grownCap w (n+s.size) dK e≤maxLen:=grownCap_le_maxLen w (n+s.size) dK e sL
  refine⟨⟨hlen,.inr ⟨w.heap.size,_,_,rfl,by omega,heap_alloc_new w.drew _,h9,ig,?_,?_⟩⟩,⟨rfl,rfl,rfl,by simp,fun k aj _=>Go.RowKit.Below.heap_alloc w.drew _ k aj⟩⟩
  ·have iB:(Value.int IntKind.u8 0).cells.size=1:=rfl
   simp only[Array.size_append,List.size_toArray,size_zeroCells,iB,jO,strCells_length];omega
  ·simp only[Array.toList_append,List.append_assoc]
   rw[←List.append_assoc,←hlen];exact List.take_left
 have Lo: ∀(m c k:Nat),b4 (.slice (some ⟨w.heap.size,0,none⟩) m c)=some k→b4 v=some k∨w.heap.size≤k:=fun m c k aj=>by
  simp only[b4]at aj
  split at aj
  ·cases aj
  ·simp at aj;exact .inr (by omega)
 rcases c1.2 with⟨⟨c,rfl,uE⟩,jr⟩|⟨g,cap,cur,rfl,zE,ah,As,ig,dI,lF⟩
 ·subst jr
  have hx:xs=[]:=List.eq_nil_of_length_eq_zero jO
  subst hx
  by_cases hm:s.size=0
  ·have rB:strCells s=[]:=List.eq_nil_of_length_eq_zero (by rw[strCells_length];exact hm)
   have hf:=run_firstCells_string (P:=P) w 1 s
   rw[hm]at hf;refine⟨.slice c 0 0,w,?_,by rw[hm,rB];exact⟨rfl,.inl ⟨⟨c,rfl,uE⟩,rfl⟩⟩,World.grownBy.refl w _,fun k aj=>.inl aj⟩
   cases c<;>simp[Builtin.append_,run_underlying aI,run_underlying hu,sizeOf,typeInfo,hi,iw,Builtin.lenOf,hm,hf,rB,storeCells]
  ·have cS:=grown 0 (by omega) (b4 (.slice c 0 0))
   cases c with
   |none=>
    have af:=run_append_nil_string (P:=P) w t u ty e i (.int .u8 0) aI hu hi aQ s (by omega) (by omega) (by rw[js];omega)
    simp only[Nat.zero_add,List.nil_append,Array.empty_append]at cS⊢
    have aC:(s.data.map fun b=>Value.int .u8 b.toNat)=(strCells s).toArray:=by
     apply Array.ext';simp[strCells]
    rw[aC]at af;exact⟨_,_,af,cS.1,cS.2,Lo _ _⟩
   |some a=>
    have af:=run_append_grow_string (P:=P) w t u ty e i (.int .u8 0) aI hu hi aQ a 0 0 [] (by simp) (by simp) s (by omega) (by omega) (by rw[js];exact growslice_fits (by omega) (by omega))
    exact⟨_,_,af,cS.1,cS.2,Lo _ _⟩
 ·by_cases xu:n+s.size≤cap
  ·have af:=run_append_room_string (P:=P) w t u ty e i aI hu hi iw g n cap cur ah s xu (by omega)
   refine⟨_,_,af,⟨hlen,.inr ⟨g,cap,_,rfl,zE,setRow_heap w g cur _ e _ ah,xu,ig,?_,?_⟩⟩,⟨rfl,rfl,rfl,by simp,fun k _ aj=>setRow_other w g k _ (fun e=>aj (by simp[b4,e,Nat.ne_of_gt zE]))⟩,fun k aj=>.inl ?_⟩
   ·simp only[List.size_toArray,List.length_append,List.length_take,List.length_drop,Array.length_toList,strCells_length]
    omega
   ·have cE:cur.toList.take n=xs:=by simpa using lF
    rw[cE,←hlen];exact List.take_left
   ·simpa[b4,Nat.ne_of_gt zE]using aj
  ·have holds: ∀j u,xs[j]? =some u→w.cell? ((⟨g,0,none⟩:Addr).add j)=some u:=by
    have hA:w.ownsRow 0 e 1 (.slice (some ⟨g,0,none⟩) n cap) n xs:=⟨c1.1,.inr ⟨g,cap,cur,rfl,Nat.zero_le _,ah,As,ig,dI,lF⟩⟩
    exact hA.cells (g:=g) rfl
   have af:=run_append_grow_string (P:=P) w t u ty e i (.int .u8 0) aI hu hi aQ ⟨g,0,none⟩ n cap xs (by rw[iw];simpa using jO) holds s (by omega) (by omega) (by rw[js];exact growslice_fits (by omega) (by omega))
   have cS:=grown cap (by omega) (b4 (.slice (some ⟨g,0,none⟩) n cap))
   exact⟨_,_,af,cS.1,cS.2,Lo _ _⟩
def eB(b:ByteArray):List Int:=b.data.toList.map fun u=>(u.toNat:Int)
theorem Lp{w:World}{ro:Nat→Prop}(b:ByteArray):((eB b).map fun z=>[a6.v (.int .u8 z)]).length=b.size∧∀(j:Nat) (x:a6),((eB b).map fun z=>[a6.v (.int .u8 z)]).flatten[j]? =some x→cP w ro x ((strCells b).getD j undef):=by
 refine⟨by rw[List.length_map];unfold eB;rw[List.length_map,Array.length_toList];rfl,fun j x ag=>?_⟩
 have mh:((eB b).map fun z=>[a6.v (.int .u8 z)]).flatten=(eB b).map fun z=>a6.v (.int .u8 z):=by
  generalize eB b=l
  induction l with
  |nil=>rfl
  |cons y r a1=>simp only[List.map_cons,List.flatten_cons,a1,List.singleton_append]
 rw[mh]at ag
 unfold eB at ag
 simp only[List.map_map,List.getElem?_map]at ag
 obtain⟨u,hu,rfl⟩:=Option.map_eq_some_iff.1 ag
 have:(strCells b).getD j undef= .int .u8 (u.toNat:Int):=by
  unfold strCells;simp[List.getD,hu]
 rw[this]
 exact .v _ rfl
variable {G:a8} {s:aP} {o:Oper}
def xv(P:Program)(t u:TypeId):Option TypeId:=
 match P.underlying t,P.underlying u with
 |some (.slice e),some .string=>match P.info? e with
  |some i=>match i.zero with
   |some (.int .u8 0)=>match Nat.beq i.size 1&&Nat.beq i.bytes 1 with
    |true=>some e
    |false=>none
   |_=>none
  |none=>none
 |_,_=>none
theorem Lq{t u e:TypeId}(h:xv P t u=some e): ∃i,P.underlying t=some (.slice e)∧P.underlying u=some .string∧P.info? e=some i∧i.zero=some (.int .u8 0)∧i.size=1∧i.bytes=1:=by
 unfold xv at h
 split at h
 ·rename_i ay hu ai
  split at h
  ·rename_i i hi
   split at h
   ·rename_i aQ
    split at h
    ·rename_i hc
     cases h;simp only[Bool.and_eq_true]at hc;exact⟨i,hu,ai,hi,aQ,Nat.eq_of_beq_eq_true hc.1,Nat.eq_of_beq_eq_true hc.2⟩
    ·cases h
   ·cases h
  ·cases h
 ·cases h
theorem zeF(x y:Operand)(t u:TypeId)(an:o.op= .call {callee:=.builtin .append,args:=#[x,y],argTypes:=#[t,u]}){e:TypeId}(aI:xv P t u=some e)
 {id:Nat}(hx:aL G s x= .aO id){es:List (List a6)}(bd:aE s.heap id=some (.row false e 1 es))(ad:s.base≤id)(bI:id<s.next)
 {b:ByteArray}(ax:aL G s y= .av (.v (.string b)))(bP:es.length+b.size≤maxLen∧es.length+b.size≤140737488355328):
 dQ P G o s (aP.put ⟨ed id s.cQ,(id,.row false e 1 (es++(eB b).map fun z=>[a6.v (.int .u8 z)]))::du id s.heap,s.next,s.base⟩ o.dst (.aO id)):=by
 intro E a w ⟨β,ro,af⟩ K Q hK
 obtain⟨i,hu,ai,hi,aQ,iw,js⟩:=Lq aI
 have dk:=af.heap.c7 id _ bd
 cases dk with
 |row _ _ _ xs c1 b5 eW=>
  have lJ:a.eval x=β id:=by
   have h:=af.eval x
   rw[hx]at h;generalize a.eval x=c at h
   cases h with
   |aO _ _ _ ak=>exact ak _ _ _ _ bd
  obtain⟨bh,w',cp,kH,cS,bg⟩:=Ln (P:=P) t u o.type e hu ai hi aQ iw js c1 b bP.1 bP.2;obtain⟨c3,dj⟩:=Lp (w:=w) (ro:=ro) b;unfold Oper.wp;simp only[execOp,an,resolve,invoke,builtin,Sem.run_bind,Sem.run_pure,Result.andThen_ok,List.map_toArray,List.map_cons,List.map_nil,lJ,af.ec ax,cp]
  have jm: ∀k,k<w.heap.size→b4 (β id)≠some k→w'.heap[k]? =w.heap[k]? :=fun k aj b5=>cS.block k aj (fun e=>b5 e.symm)
  have cc: ∀k,ro k→w'.heap[k]? =w.heap[k]? :=fun k aj=>jm k (af.heap.lt k aj) fun bg=>af.heap.ff k aj ⟨id,_,bd,rfl,bg⟩
  refine hK _ _ ⟨gS β id bh,ro,c5.put (af.renew (w':=w') id ad bI bd (.row false e 1 (es++(eB b).map fun z=>[a6.v (.int .u8 z)])) bh cS.os cS.tape cS.output cS.size jm bg rfl ?_) o.dst _ _ ?_⟩
  ·refine .row e 1 _ _ (by rw[dR,List.length_append,c3];exact kH) (fun ay j9=>?_) (fun j x ag=>?_)
   ·rw[List.mem_append]at j9
    rcases j9 with h|h
    ·exact b5 _ h
    ·obtain⟨z,_,rfl⟩:=List.mem_map.1 h
     rfl
   ·exact(wL b5 c1.1 eW dj j x ag).keep cc fun _ h=>h
  ·exact .aO _ _ bI fun z bz cJ dP _=>(dR _ _ _).symm
theorem zeG(x y:Operand)(t u:TypeId)(an:o.op= .call {callee:=.builtin .append,args:=#[x,y],argTypes:=#[t,u]}){e:TypeId}(aI:xv P t u=some e)
 (hx:aL G s x= .av (.v (.slice none 0 0)))(ad:s.base≤s.next){b:ByteArray}(ax:aL G s y= .av (.v (.string b)))(bP:b.size≤maxLen∧b.size≤140737488355328):
 dQ P G o s ({s with heap:=(s.next,.row false e 1 ((eB b).map fun z=>[a6.v (.int .u8 z)]))::s.heap,next:=s.next+1}.put o.dst (.aO s.next)):=by
 intro E a w ⟨β,ro,af⟩ K Q hK
 obtain⟨i,hu,ai,hi,aQ,iw,js⟩:=Lq aI
 obtain⟨bh,w',cp,kH,cS,bg⟩:=Ln (P:=P) (w:=w) t u o.type e hu ai hi aQ iw js (v:=.slice none 0 0) (n:=0) (xs:=[]) ⟨by simp,.inl ⟨⟨none,rfl,fun _ h=>(by cases h)⟩,rfl⟩⟩ b (by omega) (by omega)
 obtain⟨c3,dj⟩:=Lp (w:=w) (ro:=ro) b
 unfold Oper.wp
 simp only[execOp,an,resolve,invoke,builtin,Sem.run_bind,Sem.run_pure,Result.andThen_ok,List.map_toArray,List.map_cons,List.map_nil,af.ec hx,af.ec ax,cp]
 have jl:aE s.heap s.next=none:=by
  cases ah:aE s.heap s.next with
  |none=>rfl
  |some p=>have:=af.trans.new _ _ ah;omega
 have hw: ∀b,b<w.heap.size→w'.heap[b]? =w.heap[b]? :=fun b ad=>cS.block b ad (by simp[b4])
 have cc: ∀b,ro b→w'.heap[b]? =w.heap[b]? :=fun b ad=>hw b (af.heap.lt b ad)
 refine hK _ _ ⟨gS β s.next bh,ro,c5.put (af.new (w':=w') s.next jl ad (Nat.le_refl _) (.row false e 1 ((eB b).map fun z=>[a6.v (.int .u8 z)])) bh cS.os cS.tape cS.output cS.size hw (fun b ad=>?_) rfl ?_) o.dst _ _ ?_⟩
 ·rcases bg b ad with h|h
  ·simp[b4]at h
  ·exact h
 ·refine .row e 1 _ _ (by rw[dR,c3];simpa using kH) (fun ay j9=>?_) (fun j x ag=>(dj j x ag).keep cc fun _ h=>h)
  obtain⟨z,_,rfl⟩:=List.mem_map.1 j9;rfl
 ·exact .aO _ _ (Nat.lt_succ_self _) fun z bz cJ dP _=>(dR _ _ _).symm
end
end Go.aM
namespace Go.aM
open Go Go.Lib
section
variable {P:Program} {G:a8} {s:aP} {E:Entry} {a:Act} {w w':World} {β:Nat→Value} {ro:Nat→Prop}
theorem c5.Lr(h:c5 E G s a w β ro)(id:Nat)(ad:s.base≤s.next){t0:TypeId}{n0:Nat}{zA:List (List a6)}(bd:aE s.heap id=some (.row false t0 n0 zA))(o:eh)(val:Value)
 (oV:w'.os=w.os)(oW:w'.tape=w.tape)(kE:w'.output=w.output)(bP:w.heap.size≤w'.heap.size)(hw: ∀b,b<w.heap.size→b4 (β id)≠some b→w'.heap[b]? =w.heap[b]?)
 (gH: ∀b,b4 val=some b→b4 (β id)=some b∨w.heap.size≤b)(_hlive:o.live=true)
 (dk:k1 w' ro ((s.next,o)::du id s.heap) (gS β s.next val) (s.next+1) s.next o):
 c5 E G ⟨ed id s.cQ,(s.next,o)::du id s.heap,s.next+1,s.base⟩ a w' (gS β s.next val) ro:=by
 have cc: ∀b,ro b→w'.heap[b]? =w.heap[b]? :=fun b af=>hw b (h.heap.lt b af) fun ad=>h.heap.ff b af ⟨id,_,bd,rfl,ad⟩
 have ah: ∀k,k≠s.next→k≠id→aE ((s.next,o)::du id s.heap) k=(aE s.heap k).map (eu id):=fun k aj eA=>by simp[aE,Ne.symm aj,qk,eA]
 have uB:aE ((s.next,o)::du id s.heap) s.next=some o:=by simp[aE]
 have ziJ:id<s.next:=h.trans.new _ _ bd
 have key: ∀x c,bs w ro s.heap β s.next x c→bs w' ro ((s.next,o)::du id s.heap) (gS β s.next val) (s.next+1) (dX id x) c:=by
  intro x c hx
  induction hx with
  |av x c hx=>exact .av x c (hx.keep cc fun _ h=>h)
  |agg cs c ai _ a1=>
   refine .agg _ c (by rw[h4];exact ai) fun j x ag=>?_
   obtain⟨y,ax,rfl⟩:=hP id ag;exact a1 j y ax
  |tuple cs c ai _ a1=>
   refine .tuple _ c (by rw[h4];exact ai) fun j x ag=>?_
   obtain⟨y,ax,rfl⟩:=hP id ag;exact a1 j y ax
  |ptr k off c ar ak=>
   simp only[dX]
   split
   ·exact .top _
   ·rename_i aj
    refine .ptr k off c (by omega) fun t cs bo=>?_
    rw[c2 _ _ (show k≠s.next by omega)]
    rw[ah k (by omega) aj]at bo
    cases ai:aE s.heap k with
    |none=>simp[ai]at bo
    |some p=>
     cases p with
     |box bz cs'=>exact ak bz cs' ai
     |row=>simp[ai,eu]at bo
     |bM=>simp[ai,eu]at bo
  |dA k off c ar ak=>
   simp only[dX]
   split
   ·exact .top _
   ·rename_i aj
    refine .dA k off c (by omega) fun t cs bo=>?_
    rw[c2 _ _ (show k≠s.next by omega)]
    rw[ah k (by omega) aj]at bo
    cases ai:aE s.heap k with
    |none=>simp[ai]at bo
    |some p=>
     cases p with
     |box bz cs'=>exact ak bz cs' ai
     |row=>simp[ai,eu]at bo
     |bM=>simp[ai,eu]at bo
  |cW k i off c ar ak=>
   simp only[dX]
   split
   ·exact .top _
   ·rename_i aj
    refine .cW k i off c (by omega) fun z t n es bo=>?_
    rw[c2 _ _ (show k≠s.next by omega)]
    rw[ah k (by omega) aj]at bo
    cases ai:aE s.heap k with
    |none=>simp[ai]at bo
    |some p=>
     cases p with
     |box bz cs'=>simp[ai,eu]at bo
     |bM=>simp[ai,eu]at bo
     |row iv bz cJ dP=>
      simp only[ai,Option.map_some,eu,Option.some.injEq,eh.row.injEq]at bo;obtain⟨rfl,rfl,rfl,rfl⟩:=bo;exact ak _ _ _ _ ai
  |aO k c ar ak=>
   simp only[dX]
   split
   ·exact .top _
   ·rename_i aj
    refine .aO k c (by omega) fun z t n es bo=>?_
    rw[c2 _ _ (show k≠s.next by omega)]
    rw[ah k (by omega) aj]at bo
    cases ai:aE s.heap k with
    |none=>simp[ai]at bo
    |some p=>
     cases p with
     |box bz cs'=>simp[ai,eu]at bo
     |bM=>simp[ai,eu]at bo
     |row iv bz cJ dP=>exact ak _ _ _ _ ai
  |fn f p q c d aa ae _ _ hh hj=>
   refine .fn f _ _ c d (by rw[h4];exact aa) (by rw[h4];exact ae) (fun j x ag=>?_) (fun j x ag=>?_)
   ·obtain⟨y,ax,rfl⟩:=hP id ag
    exact hh j y ax
   ·obtain⟨y,ax,rfl⟩:=hP id ag
    exact hj j y ax
  |ref k c ar ak=>
   simp only[dX]
   split
   ·exact .top _
   ·rename_i aj
    refine .ref k c (by omega) fun bN bo=>?_
    rw[c2 _ _ (show k≠s.next by omega)]
    rw[ah k (by omega) aj]at bo
    cases ai:aE s.heap k with
    |none=>simp[ai]at bo
    |some p=>
     cases p with
     |box=>simp[ai,eu]at bo
     |row=>simp[ai,eu]at bo
     |bM lE=>exact ak lE ai
  |top c=>exact .top c
 have dK: ∀k p,k≠s.next→aE ((s.next,o)::du id s.heap) k=some p→k≠id∧∃q,aE s.heap k=some q∧p=eu id q:=by
  intro k p aj bo
  have bu:k≠id:=fun h=>by
   subst h;simp[aE,Ne.symm aj,qk]at bo
  refine⟨bu,?_⟩
  rw[ah k aj bu]at bo
  cases ai:aE s.heap k with
  |none=>simp[ai]at bo
  |some q=>simp[ai]at bo;exact⟨q,rfl,bo.symm⟩
 refine⟨h.defers,by simpa[h4]using h.size,fun i x hx=>?_,⟨fun k p aj=>?_,fun k bk p fV b aj eA ak gI bg er=>?_,fun b af=>?_,fun b af=>Nat.lt_of_lt_of_le (h.heap.lt b af) bP⟩,
  h.ic.keep cc fun _ h=>h,?_,h.base⟩
 ·obtain⟨y,ax,rfl⟩:=hP id hx
  exact key _ _ (h.slot i y ax)
 ·by_cases bu:k=s.next
  ·subst k
   rw[uB]at aj;simp only[Option.some.injEq]at aj;subst aj;exact dk
  ·obtain⟨hT,q,aJ,rfl⟩:=dK k p bu aj
   have gJ:=h.heap.c7 k q aJ
   have b5:q.live=true→∀b,b4 (β k)=some b→w'.heap[b]? =w.heap[b]? :=fun ar b bg=>
    hw b (gJ.hJ ar bg) fun jQ=>hT (h.heap.inj k id q _ b aJ bd ar rfl bg jQ)
   cases gJ with
   |box t cs b arr aa ae au aR=>
    refine .box t _ b arr (by rw[c2 _ _ bu];exact aa) ((b5 rfl b (by rw[aa];rfl)).trans ae) (by rw[h4];exact au) fun j x ag=>?_
    obtain⟨y,ax,rfl⟩:=hP id ag;exact key _ _ (aR j y ax)
   |row t n es xs aa ae au=>exact .row t n es xs (by rw[c2 _ _ bu];exact aa.keep (fun b ad=>b5 rfl b ad) bP) ae fun j x ag=>(au j x ag).keep cc fun _ h=>h
   |ga t n es aa=>exact .ga t n es (by rw[c2 _ _ bu];exact aa.keep cc fun _ h=>h)
   |bM bN b o aa ae au=>exact .bM bN b o (by rw[c2 _ _ bu];exact aa) ((b5 rfl b aa).trans ae) (by rw[c2 _ _ bu];exact bN.mono _ _ _ _ (fun x c h=>h.keep cc fun _ h=>h) au)
 ·by_cases bu:k=s.next
  ·by_cases gK:bk=s.next
   ·rw[bu,gK]
   ·subst k
    rw[dR]at bg;rw[c2 _ _ gK]at er;obtain⟨hT,q,aJ,rfl⟩:=dK bk fV gK eA;rw[jq]at gI
    have ae:=(h.heap.c7 bk q aJ).hJ gI er
    rcases gH b bg with aa|aa
    ·exact absurd (h.heap.inj bk id q _ b aJ bd gI rfl er aa) hT
    ·omega
  ·obtain⟨hT,q,aJ,rfl⟩:=dK k p bu aj
   rw[jq]at ak;rw[c2 _ _ bu]at bg
   by_cases gK:bk=s.next
   ·subst bk
    rw[dR]at er
    have ae:=(h.heap.c7 k q aJ).hJ ak bg
    rcases gH b er with aa|aa
    ·exact absurd (h.heap.inj k id q _ b aJ bd ak rfl bg aa) hT
    ·omega
   ·obtain⟨zeH,q',uC,rfl⟩:=dK bk fV gK eA
    rw[jq]at gI;rw[c2 _ _ gK]at er;exact h.heap.inj k bk q q' b aJ uC ak gI bg er
 ·rintro⟨k,p,aj,ak,bg⟩
  by_cases bu:k=s.next
  ·subst k
   rw[dR]at bg
   rcases gH b bg with aa|aa
   ·exact h.heap.ff b af ⟨id,_,bd,rfl,aa⟩
   ·have:=h.heap.lt b af;omega
  ·obtain⟨hT,q,aJ,rfl⟩:=dK k p bu aj
   rw[jq]at ak;rw[c2 _ _ bu]at bg;exact h.heap.ff b af ⟨k,q,aJ,ak,bg⟩
 ·have t:=h.trans
  refine⟨oV.trans t.os,oW.trans t.tape,kE.trans t.output,Nat.le_trans t.size bP,fun b hL gd=>?_,t.jk,t.j7,?_,fun k aj p bo=>?_,fun k p bo=>?_,Nat.le_succ_of_le t.le⟩
  ·by_cases jQ:b4 (β id)=some b
   ·rcases t.hg b ⟨id,_,bd,rfl,jQ⟩with hc|hc
    ·exact absurd hc gd
    ·omega
   ·rw[hw b (Nat.lt_of_lt_of_le hL t.size) jQ]
    exact t.frame b hL gd
  ·rintro b ⟨k,p,aj,ak,bg⟩
   by_cases bu:k=s.next
   ·subst k
    rw[dR]at bg
    rcases gH b bg with aa|aa
    ·exact t.hg b ⟨id,_,bd,rfl,aa⟩
    ·exact .inr (Nat.le_trans t.size aa)
   ·obtain⟨hT,q,aJ,rfl⟩:=dK k p bu aj
    rw[jq]at ak;rw[c2 _ _ bu]at bg;exact t.hg b ⟨k,q,aJ,ak,bg⟩
  ·have bu:k≠s.next:=by have:=h.base;omega
   obtain⟨hT,q,aJ,rfl⟩:=dK k p bu bo;rw[c2 _ _ bu];exact t.dK k aj q aJ
  ·by_cases bu:k=s.next
   ·subst k;exact Nat.lt_succ_self _
   ·obtain⟨hT,q,aJ,rfl⟩:=dK k p bu bo
    exact Nat.lt_succ_of_lt (t.new k q aJ)
theorem c5.SP(h:c5 E G s a w β ro)(id aX:Nat)(ad:s.base≤aX)(bI:aX<s.next){t0:TypeId}{n0:Nat}{zA:List (List a6)}(bd:aE s.heap id=some (.row false t0 n0 zA))(o:eh)(val:Value)
 (oV:w'.os=w.os)(oW:w'.tape=w.tape)(kE:w'.output=w.output)(bP:w.heap.size≤w'.heap.size)(hw: ∀b,b<w.heap.size→b4 (β id)≠some b→w'.heap[b]? =w.heap[b]?)
 (gH: ∀b,b4 val=some b→b4 (β id)=some b∨w.heap.size≤b)(_hlive:o.live=true)
 (dk:k1 w' ro ((aX,o)::du aX (du id s.heap)) (gS β aX val) s.next aX o):
 c5 E G ⟨ed aX (ed id s.cQ),(aX,o)::du aX (du id s.heap),s.next,s.base⟩ a w' (gS β aX val) ro:=by
 have cc: ∀b,ro b→w'.heap[b]? =w.heap[b]? :=fun b af=>hw b (h.heap.lt b af) fun ad=>h.heap.ff b af ⟨id,_,bd,rfl,ad⟩
 have ah: ∀k,k≠aX→k≠id→aE ((aX,o)::du aX (du id s.heap)) k=((aE s.heap k).map (eu id)).map (eu aX):=fun k aj eA=>by simp[aE,Ne.symm aj,qk,aj,eA]
 have uB:aE ((aX,o)::du aX (du id s.heap)) aX=some o:=by simp[aE]
 have key: ∀x c,bs w ro s.heap β s.next x c→bs w' ro ((aX,o)::du aX (du id s.heap)) (gS β aX val) s.next (dX aX (dX id x)) c:=by
  intro x c hx
  induction hx with
  |av x c hx=>exact .av x c (hx.keep cc fun _ h=>h)
  |agg cs c ai _ a1=>
   refine .agg _ c (by rw[h4,h4];exact ai) fun j x ag=>?_
   obtain⟨z,aQ,rfl⟩:=hP aX ag;obtain⟨y,ax,rfl⟩:=hP id aQ;exact a1 j y ax
  |tuple cs c ai _ a1=>
   refine .tuple _ c (by rw[h4,h4];exact ai) fun j x ag=>?_
   obtain⟨z,aQ,rfl⟩:=hP aX ag;obtain⟨y,ax,rfl⟩:=hP id aQ;exact a1 j y ax
  |ptr k off c ar ak=>
   by_cases aj:k=id
   ·simp only[dX,aj,if_true]
    exact .top _
   by_cases gg:k=aX
   ·simp only[dX,if_neg aj,if_neg (gg ▸ aj),gg,if_true]
    exact .top _
   ·simp only[dX,if_neg aj,if_neg gg]
    refine .ptr k off c ar fun t cs bo=>?_
    rw[c2 _ _ gg];rw[ah k gg aj]at bo
    cases ai:aE s.heap k with
    |none=>simp[ai]at bo
    |some p=>
     cases p with
     |box bz cs'=>exact ak bz cs' ai
     |row=>simp[ai,eu]at bo
     |bM=>simp[ai,eu]at bo
  |dA k off c ar ak=>
   by_cases aj:k=id
   ·simp only[dX,aj,if_true]
    exact .top _
   by_cases gg:k=aX
   ·simp only[dX,if_neg aj,if_neg (gg ▸ aj),gg,if_true]
    exact .top _
   ·simp only[dX,if_neg aj,if_neg gg]
    refine .dA k off c ar fun t cs bo=>?_
    rw[c2 _ _ gg];rw[ah k gg aj]at bo
    cases ai:aE s.heap k with
    |none=>simp[ai]at bo
    |some p=>
     cases p with
     |box bz cs'=>exact ak bz cs' ai
     |row=>simp[ai,eu]at bo
     |bM=>simp[ai,eu]at bo
  |cW k i off c ar ak=>
   by_cases aj:k=id
   ·simp only[dX,aj,if_true]
    exact .top _
   by_cases gg:k=aX
   ·simp only[dX,if_neg aj,if_neg (gg ▸ aj),gg,if_true]
    exact .top _
   ·simp only[dX,if_neg aj,if_neg gg]
    refine .cW k i off c ar fun z t n es bo=>?_
    rw[c2 _ _ gg];rw[ah k gg aj]at bo
    cases ai:aE s.heap k with
    |none=>simp[ai]at bo
    |some p=>
     cases p with
     |box bz cs'=>simp[ai,eu]at bo
     |bM=>simp[ai,eu]at bo
     |row iv bz cJ dP=>
      simp only[ai,Option.map_some,eu,Option.some.injEq,eh.row.injEq]at bo;obtain⟨rfl,rfl,rfl,rfl⟩:=bo;exact ak _ _ _ _ ai
  |aO k c ar ak=>
   by_cases aj:k=id
   ·simp only[dX,aj,if_true]
    exact .top _
   by_cases gg:k=aX
   ·simp only[dX,if_neg aj,if_neg (gg ▸ aj),gg,if_true]
    exact .top _
   ·simp only[dX,if_neg aj,if_neg gg]
    refine .aO k c ar fun z t n es bo=>?_
    rw[c2 _ _ gg];rw[ah k gg aj]at bo
    cases ai:aE s.heap k with
    |none=>simp[ai]at bo
    |some p=>
     cases p with
     |box bz cs'=>simp[ai,eu]at bo
     |bM=>simp[ai,eu]at bo
     |row iv bz cJ dP=>exact ak _ _ _ _ ai
  |fn f p q c d aa ae _ _ hh hj=>
   refine .fn f _ _ c d (by rw[h4,h4];exact aa) (by rw[h4,h4];exact ae) (fun j x ag=>?_) (fun j x ag=>?_)
   ·obtain⟨z,aQ,rfl⟩:=hP aX ag
    obtain⟨y,ax,rfl⟩:=hP id aQ;exact hh j y ax
   ·obtain⟨z,aQ,rfl⟩:=hP aX ag
    obtain⟨y,ax,rfl⟩:=hP id aQ;exact hj j y ax
  |ref k c ar ak=>
   by_cases aj:k=id
   ·simp only[dX,aj,if_true]
    exact .top _
   by_cases gg:k=aX
   ·simp only[dX,if_neg aj,if_neg (gg ▸ aj),gg,if_true]
    exact .top _
   ·simp only[dX,if_neg aj,if_neg gg]
    refine .ref k c ar fun bN bo=>?_
    rw[c2 _ _ gg];rw[ah k gg aj]at bo
    cases ai:aE s.heap k with
    |none=>simp[ai]at bo
    |some p=>
     cases p with
     |box=>simp[ai,eu]at bo
     |row=>simp[ai,eu]at bo
     |bM lE=>exact ak lE ai
  |top c=>exact .top c
 have dK: ∀k p,k≠aX→aE ((aX,o)::du aX (du id s.heap)) k=some p→k≠id∧∃q,aE s.heap k=some q∧p=eu aX (eu id q):=by
  intro k p aj bo
  have bu:k≠id:=fun h=>by
   subst h;simp[aE,Ne.symm aj,qk,aj]at bo
  refine⟨bu,?_⟩
  rw[ah k aj bu]at bo
  cases ai:aE s.heap k with
  |none=>simp[ai]at bo
  |some q=>simp[ai]at bo;exact⟨q,rfl,bo.symm⟩
 refine⟨h.defers,by simpa[h4]using h.size,fun i x hx=>?_,⟨fun k p aj=>?_,fun k bk p fV b aj eA ak gI bg er=>?_,fun b af=>?_,fun b af=>Nat.lt_of_lt_of_le (h.heap.lt b af) bP⟩,
  h.ic.keep cc fun _ h=>h,?_,h.base⟩
 ·obtain⟨z,aQ,rfl⟩:=hP aX hx
  obtain⟨y,ax,rfl⟩:=hP id aQ;exact key _ _ (h.slot i y ax)
 ·by_cases bu:k=aX
  ·subst k
   rw[uB]at aj;simp only[Option.some.injEq]at aj;subst aj;exact dk
  ·obtain⟨hT,q,aJ,rfl⟩:=dK k p bu aj
   have gJ:=h.heap.c7 k q aJ
   have b5:q.live=true→∀b,b4 (β k)=some b→w'.heap[b]? =w.heap[b]? :=fun ar b bg=>
    hw b (gJ.hJ ar bg) fun jQ=>hT (h.heap.inj k id q _ b aJ bd ar rfl bg jQ)
   cases gJ with
   |box t cs b arr aa ae au aR=>
    refine .box t _ b arr (by rw[c2 _ _ bu];exact aa) ((b5 rfl b (by rw[aa];rfl)).trans ae) (by rw[h4,h4];exact au) fun j x ag=>?_
    obtain⟨z,aQ,rfl⟩:=hP aX ag;obtain⟨y,ax,rfl⟩:=hP id aQ;exact key _ _ (aR j y ax)
   |row t n es xs aa ae au=>exact .row t n es xs (by rw[c2 _ _ bu];exact aa.keep (fun b ad=>b5 rfl b ad) bP) ae fun j x ag=>(au j x ag).keep cc fun _ h=>h
   |ga t n es aa=>exact .ga t n es (by rw[c2 _ _ bu];exact aa.keep cc fun _ h=>h)
   |bM bN b o aa ae au=>exact .bM bN b o (by rw[c2 _ _ bu];exact aa) ((b5 rfl b aa).trans ae) (by rw[c2 _ _ bu];exact bN.mono _ _ _ _ (fun x c h=>h.keep cc fun _ h=>h) au)
 ·by_cases bu:k=aX
  ·by_cases gK:bk=aX
   ·rw[bu,gK]
   ·subst k
    rw[dR]at bg;rw[c2 _ _ gK]at er;obtain⟨hT,q,aJ,rfl⟩:=dK bk fV gK eA;rw[jq,jq]at gI
    have ae:=(h.heap.c7 bk q aJ).hJ gI er
    rcases gH b bg with aa|aa
    ·exact absurd (h.heap.inj bk id q _ b aJ bd gI rfl er aa) hT
    ·omega
  ·obtain⟨hT,q,aJ,rfl⟩:=dK k p bu aj
   rw[jq,jq]at ak;rw[c2 _ _ bu]at bg
   by_cases gK:bk=aX
   ·subst bk
    rw[dR]at er
    have ae:=(h.heap.c7 k q aJ).hJ ak bg
    rcases gH b er with aa|aa
    ·exact absurd (h.heap.inj k id q _ b aJ bd ak rfl bg aa) hT
    ·omega
   ·obtain⟨zeH,q',uC,rfl⟩:=dK bk fV gK eA
    rw[jq,jq]at gI;rw[c2 _ _ gK]at er;exact h.heap.inj k bk q q' b aJ uC ak gI bg er
 ·rintro⟨k,p,aj,ak,bg⟩
  by_cases bu:k=aX
  ·subst k
   rw[dR]at bg
   rcases gH b bg with aa|aa
   ·exact h.heap.ff b af ⟨id,_,bd,rfl,aa⟩
   ·have:=h.heap.lt b af;omega
  ·obtain⟨hT,q,aJ,rfl⟩:=dK k p bu aj
   rw[jq,jq]at ak;rw[c2 _ _ bu]at bg;exact h.heap.ff b af ⟨k,q,aJ,ak,bg⟩
 ·have t:=h.trans
  refine⟨oV.trans t.os,oW.trans t.tape,kE.trans t.output,Nat.le_trans t.size bP,fun b hL gd=>?_,t.jk,t.j7,?_,fun k aj p bo=>?_,fun k p bo=>?_,t.le⟩
  ·by_cases jQ:b4 (β id)=some b
   ·rcases t.hg b ⟨id,_,bd,rfl,jQ⟩with hc|hc
    ·exact absurd hc gd
    ·omega
   ·rw[hw b (Nat.lt_of_lt_of_le hL t.size) jQ]
    exact t.frame b hL gd
  ·rintro b ⟨k,p,aj,ak,bg⟩
   by_cases bu:k=aX
   ·subst k
    rw[dR]at bg
    rcases gH b bg with aa|aa
    ·exact t.hg b ⟨id,_,bd,rfl,aa⟩
    ·exact .inr (Nat.le_trans t.size aa)
   ·obtain⟨hT,q,aJ,rfl⟩:=dK k p bu aj
    rw[jq,jq]at ak;rw[c2 _ _ bu]at bg;exact t.hg b ⟨k,q,aJ,ak,bg⟩
  ·have bu:k≠aX:=by have:=h.base;omega
   obtain⟨hT,q,aJ,rfl⟩:=dK k p bu bo;rw[c2 _ _ bu];exact t.dK k aj q aJ
  ·by_cases bu:k=aX
   ·subst k;exact bI
   ·obtain⟨hT,q,aJ,rfl⟩:=dK k p bu bo
    exact t.new k q aJ
end
section
variable {P:Program} {G:a8} {o:Oper} {s:aP}
theorem zeI(x y:Operand)(t:TypeId)(an:o.op= .call {callee:=.builtin .append,args:=#[x,y],argTypes:=#[t,t]}){e n bytes:Nat}(aI:ql P t=some (e,n,bytes))
 {id:Nat}(hx:aL G s x= .aO id){es:List (List a6)}(bd:aE s.heap id=some (.row false e n es))(ad:s.base≤s.next)
 {fs:List (List a6)}(ax:fr s.heap n (aL G s y)=some fs)(bP:es.length+fs.length≤maxLen∧(es.length+fs.length)*bytes≤140737488355328):
 dQ P G o s (aP.put ⟨ed id s.cQ,(s.next,.row false e n (es++fs))::du id s.heap,s.next+1,s.base⟩ o.dst (.aO s.next)):=by
 intro E a w ⟨β,ro,af⟩ K Q hK
 obtain⟨i,z,hu,hi,aQ,iw,js,e9,hn⟩:=p8 aI
 obtain⟨b,cap,hc,mv,o4,f,h5,o5⟩:=wK af.heap (af.eval y) ax
 have dk:=af.heap.c7 id _ bd
 cases dk with
 |row _ _ _ xs c1 b5 eW=>
  have lJ:a.eval x=β id:=by
   have h:=af.eval x
   rw[hx]at h;generalize a.eval x=c at h
   cases h with
   |aO _ _ _ ak=>exact ak _ _ _ _ bd
  obtain⟨n1,o6,rC⟩:=zF mv o5
  obtain⟨bh,w',cp,kH,cS,bg⟩:=Db (P:=P) t o.type e hu hi aQ iw js e9 hn c1 (b:=b) (m:=fs.length) (cap:=cap) n1 (fun ad=>by rw[o4 ad];rfl)
   (fun bc aY j u ag=>by
    have cL:=(List.getElem?_eq_some_iff.1 ag).1
    rw[n1]at cL
    have aa:=h5 bc aY j cL
    simp[cL]at ag
    rw[aa,ag]) o6 bP.1 bP.2
  unfold Oper.wp;simp only[execOp,an,resolve,invoke,builtin,Sem.run_bind,Sem.run_pure,Result.andThen_ok,List.map_toArray,List.map_cons,List.map_nil,lJ,hc,cp]
  have jm: ∀k,k<w.heap.size→b4 (β id)≠some k→w'.heap[k]? =w.heap[k]? :=fun k aj b5=>cS.block k aj (fun e=>b5 e.symm)
  have cc: ∀k,ro k→w'.heap[k]? =w.heap[k]? :=fun k aj=>jm k (af.heap.lt k aj) fun bg=>af.heap.ff k aj ⟨id,_,bd,rfl,bg⟩
  refine hK _ _ ⟨gS β s.next bh,ro,c5.put (af.Lr (w':=w') id ad bd (.row false e n (es++fs)) bh cS.os cS.tape cS.output cS.size jm bg rfl ?_) o.dst _ _ ?_⟩
  ·refine .row e n _ _ (by rw[dR,List.length_append];exact kH) (fun ay j9=>?_) (fun j x ag=>?_)
   ·rw[List.mem_append]at j9
    rcases j9 with h|h
    ·exact b5 _ h
    ·exact mv _ h
   ·exact(wL b5 c1.1 eW rC j x ag).keep cc fun _ h=>h
  ·exact .aO _ _ (Nat.lt_succ_self _) fun z bz cJ dP _=>(dR _ _ _).symm
theorem zeJ(x y:Operand)(t u:TypeId)(an:o.op= .call {callee:=.builtin .append,args:=#[x,y],argTypes:=#[t,u]}){e:TypeId}(aI:xv P t u=some e)
 {id:Nat}(hx:aL G s x= .aO id){es:List (List a6)}(bd:aE s.heap id=some (.row false e 1 es))(ad:s.base≤s.next)
 {b:ByteArray}(ax:aL G s y= .av (.v (.string b)))(bP:es.length+b.size≤maxLen∧es.length+b.size≤140737488355328):
 dQ P G o s (aP.put ⟨ed id s.cQ,(s.next,.row false e 1 (es++(eB b).map fun z=>[a6.v (.int .u8 z)]))::du id s.heap,s.next+1,s.base⟩ o.dst (.aO s.next)):=by
 intro E a w ⟨β,ro,af⟩ K Q hK
 obtain⟨i,hu,ai,hi,aQ,iw,js⟩:=Lq aI
 have dk:=af.heap.c7 id _ bd
 cases dk with
 |row _ _ _ xs c1 b5 eW=>
  have lJ:a.eval x=β id:=by
   have h:=af.eval x
   rw[hx]at h;generalize a.eval x=c at h
   cases h with
   |aO _ _ _ ak=>exact ak _ _ _ _ bd
  obtain⟨bh,w',cp,kH,cS,bg⟩:=Ln (P:=P) t u o.type e hu ai hi aQ iw js c1 b bP.1 bP.2;obtain⟨c3,dj⟩:=Lp (w:=w) (ro:=ro) b;unfold Oper.wp;simp only[execOp,an,resolve,invoke,builtin,Sem.run_bind,Sem.run_pure,Result.andThen_ok,List.map_toArray,List.map_cons,List.map_nil,lJ,af.ec ax,cp]
  have jm: ∀k,k<w.heap.size→b4 (β id)≠some k→w'.heap[k]? =w.heap[k]? :=fun k aj b5=>cS.block k aj (fun e=>b5 e.symm)
  have cc: ∀k,ro k→w'.heap[k]? =w.heap[k]? :=fun k aj=>jm k (af.heap.lt k aj) fun bg=>af.heap.ff k aj ⟨id,_,bd,rfl,bg⟩
  refine hK _ _ ⟨gS β s.next bh,ro,c5.put (af.Lr (w':=w') id ad bd (.row false e 1 (es++(eB b).map fun z=>[a6.v (.int .u8 z)])) bh cS.os cS.tape cS.output cS.size jm bg rfl ?_) o.dst _ _ ?_⟩
  ·refine .row e 1 _ _ (by rw[dR,List.length_append,c3];exact kH) (fun ay j9=>?_) (fun j x ag=>?_)
   ·rw[List.mem_append]at j9
    rcases j9 with h|h
    ·exact b5 _ h
    ·obtain⟨z,_,rfl⟩:=List.mem_map.1 h
     rfl
   ·exact(wL b5 c1.1 eW dj j x ag).keep cc fun _ h=>h
  ·exact .aO _ _ (Nat.lt_succ_self _) fun z bz cJ dP _=>(dR _ _ _).symm
end
section
theorem cm.zeK{s bq:aP}(id off m k gN n:Nat){t:TypeId}{cs:List aD}{es:List (List a6)}(bd:aE s.heap id=some (.box t cs))(hm:aE s.heap m=some (.row false gN n es))(hc:cs[off]? =some (.aO m))(ad:s.base≤k)(bI:k<s.next)(q6:id≠k)
 (h:(⟨ed k (ed m s.cQ),eO ((k,.row false gN n es)::du k (du m s.heap)) id (.box t ((ed k (ed m cs)).set off (.aO k))),s.next,s.base⟩:aP)=bq):cm s bq:=by
 subst h
 intro E G a w ⟨β,ro,af⟩
 have zeL:id≠m:=fun h=>by rw[h,hm]at bd;cases bd
 have Ls:=af.heap.c7 m _ hm
 have fc:=af.SP (w':=w) m k ad bI hm (.row false gN n es) (β m) rfl rfl rfl (Nat.le_refl _) (fun _ _ _=>rfl) (fun _ ad=>.inl ad) rfl (by
  cases Ls with
  |row _ _ _ xs aa ae au=>exact .row gN n es xs (by rw[dR];exact aa) ae au)
 have uX:aE ((k,.row false gN n es)::du k (du m s.heap)) id=some (.box t (ed k (ed m cs))):=by
  simp only[aE,if_neg (Ne.symm q6),qk,if_neg q6,if_neg zeL,bd,Option.map_some,eu]
 have dk:=fc.heap.c7 id _ uX
 have zeM:=af.heap.c7 id _ bd
 cases zeM with
 |box _ _ oc Lt g1 g2 g3 g4=>
  cases dk with
  |box _ _ b arr aa ae au aR=>
   have sO:=aa
   rw[c2 _ _ q6,g1]at sO
   have zeN:oc=b:=by simpa using sO
   subst zeN
   have rS:Lt=arr:=by
    have:=g2.symm.trans ae
    simpa using this
   subst rS;refine⟨_,ro,fc.write id _ _ uX rfl rfl (.inl ⟨_,_,_,rfl,rfl⟩) rfl rfl rfl (Nat.le_refl _) (fun _ _ _=>rfl) (.box t _ oc Lt aa ae (by rw[au,List.length_set]) fun j x ag=>?_)⟩
   rw[List.getElem?_set]at ag
   split at ag
   ·rename_i aC
    subst aC
    split at ag
    ·simp only[Option.some.injEq]at ag
     subst ag
     have aw:=g4 off _ hc
     generalize Lt.getD off undef=bR at aw⊢
     cases aw with
     |aO _ _ _ ak=>
      refine .aO _ _ bI fun z bz cJ dP _=>?_
      rw[ak _ _ _ _ hm];exact(dR _ _ _).symm
    ·cases ag
   ·exact Jz uX (aR j x ag) fun _ _=>rfl
end
end Go.aM
