/- TD, part K: calls that see all own blocks. Conditions: none. -/
import Derived.Test.YtmkpmgfieagphaaGreatDoorHTDj
import Derived.Test.YtmkpmgfieagphaaGreatDoorHSMu
import Derived.Test.YtmkpmgfieagphaaGreatDoorHTDa
import Derived.Lib.AppendStr
namespace Go.aN
open Go
def Fq:ew→ew→Prop
 | .box _ _,.box _ _=>True
 | .row _ _ n _,.row _ _ m _=>n=m
 | .bU _,.bU _=>True
 |_,_=>False
section
variable {w w':World} {ro ro':Nat→Prop} {σ eZ:Heap} {β dU:Nat→Value} {N o1:Nat}
theorem bG.move{x:aD}{c:Value}(h:bG w ro σ β N x c)(hw: ∀b,ro b→w'.heap[b]? =w.heap[b]?)(cm: ∀b,ro b→ro' b)(mV:N≤o1)
 (aj: ∀id o,id<N→aE eZ id=some o→dU id=β id∧∃cG,aE σ id=some cG∧Fq cG o):bG w' ro' eZ dU o1 x c:=by
 induction h with
 |av x c hx=>exact .av x c (hx.keep hw cm)
 |agg cs c ai _ aZ=>exact .agg cs c ai aZ
 |tuple cs c ai _ aZ=>exact .tuple cs c ai aZ
 |ptr id off c aq ak=>
  refine .ptr id off c (by omega) fun t cs ah=>?_
  obtain⟨ad,cG,ec,ai⟩:=aj id _ aq ah
  cases cG with
  |box bL cs'=>
   obtain⟨b,aa,ae⟩:=ak bL cs' ec;exact⟨b,ad.trans aa,ae⟩
  |_=>exact ai.elim
 |dF id off c aq ak=>
  refine .dF id off c (by omega) fun t cs ah=>?_
  obtain⟨ad,cG,ec,ai⟩:=aj id _ aq ah
  cases cG with
  |box bL cs'=>
   obtain⟨b,aa,ae⟩:=ak bL cs' ec;exact⟨b,ad.trans aa,ae⟩
  |_=>exact ai.elim
 |c5 id i off c aq ak=>
  refine .c5 id i off c (by omega) fun z t n es ah=>?_
  obtain⟨ad,cG,ec,ai⟩:=aj id _ aq ah
  cases cG with
  |row iE bL cS dX=>
   have ai:cS=n:=ai
   subst ai;obtain⟨b,l,h6,aa,ae⟩:=ak iE bL cS dX ec;exact⟨b,l,h6,ad.trans aa,ae⟩
  |_=>exact ai.elim
 |aP id c aq ak=>
  refine .aP id c (by omega) fun z t n es ah=>?_
  obtain⟨ad,cG,ec,ai⟩:=aj id _ aq ah
  cases cG with
  |row iE bL cS dX=>rw[ad];exact ak iE bL cS dX ec
  |_=>exact ai.elim
 |fn f p q c d aa ae _ _ hq hr=>exact .fn f p q c d aa ae hq hr
 |ref id c aq ak=>
  refine .ref id c (by omega) fun bW ah=>?_
  obtain⟨ad,cG,ec,ai⟩:=aj id _ aq ah
  cases cG with
  |bU lL=>rw[ad];exact ak lL ec
  |_=>exact ai.elim
 |top c=>exact .top c
end
section
variable {P:Program} {G:bc} {s:aQ} {E:Entry} {a:Act} {w w':World} {β:Nat→Value} {ro:Nat→Prop}
variable {o:Oper}
theorem UJ{x:Operand}{xs:Array Operand}{f:Fn}{p q:List aD}{c d:Array Value}(h:dc E G s a w β ro)(aa:c.size=p.length)(ae:d.size=q.length)(kn: ∀(j:Nat) (x:aD),p[j]? =some x→bG w ro s.heap β s.next x (c.getD j undef))(vB: ∀(j:Nat) (x:aD),q[j]? =some x→bG w ro s.heap β s.next x (d.getD j undef)):
 ∀(i:Nat) (y:aD),(p++xs.toList.map (aL G s)++q)[i]? =some y→bG w ro s.heap β s.next y ((c++xs.map a.eval++d).getD i undef):=fun i y ay=>by
 rw[Array.getD_eq_getD_getElem?]
 rcases Nat.lt_or_ge i (p.length+xs.size)with hi|hi
 ·rw[List.getElem?_append_left (by simpa using hi)]at ay
  rw[Array.getElem?_append_left (by simpa[aa]using hi)]
  rcases Nat.lt_or_ge i p.length with mE|mE
  ·rw[List.getElem?_append_left mE]at ay
   rw[Array.getElem?_append_left (by omega),←Array.getD_eq_getD_getElem?]
   exact kn i y ay
  ·rw[List.getElem?_append_right mE,List.getElem?_map]at ay
   rw[Array.getElem?_append_right (by omega),aa]
   cases aT:xs.toList[i-p.length]? with
   |none=>simp[aT]at ay
   |some z=>
    simp only[aT,Option.map_some,Option.some.injEq]at ay;subst ay
    have pg:xs[i-p.length]? =some z:=by simpa using aT
    simp only[Array.getElem?_map,pg,Option.map_some,Option.getD_some]
    exact h.eval z
 ·rw[List.getElem?_append_right (by simpa using hi)]at ay
  rw[Array.getElem?_append_right (by simpa[aa]using hi),←Array.getD_eq_getD_getElem?]
  have:=vB _ y ay
  simpa[aa]using this
def vC(P:Program)(G:bc)(o:Oper)(s:aQ)(f:FuncId)(p q:List aD)(xs:Array Operand):Prop:=
 ∀E a w β ro,dc E G s a w β ro→∃c d:Array Value,c.size=p.length∧d.size=q.length∧(∀(j:Nat) (x:aD),p[j]? =some x→bG w ro s.heap β s.next x (c.getD j undef))∧(∀(j:Nat) (x:aD),q[j]? =some x→bG w ro s.heap β s.next x (d.getD j undef))∧
  ∀cP,(execOp a.eval o).run P cP=(callFunc f (c++xs.map a.eval++d)).run P cP
theorem vC.value{x:Operand}{xs:Array Operand}{ts:Array TypeId}(ao:o.op= .call {callee:=.value x,args:=xs,argTypes:=ts}){f:FuncId}{p q:List aD}(hx:aL G s x= .fn (.func f) p q):vC P G o s f p q xs:=by
 intro E a w β ro h
 have lO:=h.eval x
 rw[hx]at lO
 generalize he:a.eval x=LH at lO
 cases lO with
 |fn _ _ _ c d aa ae kn vB=>
  refine⟨c,d,aa,ae,kn,vB,fun cP=>?_⟩
  simp only[execOp,ao,resolve,he,Deferred.ofValue,Sem.run_bind,Sem.run_pure,Result.andThen_ok,invoke]
def methodOf(P:Program)(t:TypeId)(name:String):Option Nat:=
 match P.info? t,P.underlying t with
 |some i,some d=>match i.methods.find? (·.name==name),(match d with
  | .pointer _=>false
  |_=>true)with
  |some m,true=>match m.path.isEmpty,m.func with
   |true,some (f,false)=>some f
   |_,_=>none
  |_,_=>none
 |_,_=>none
theorem zhM{t:TypeId}{name:String}{f:Nat}(h:methodOf P t name=some f)(v:Value)(n:Nat)(w:World):(method (n+1) t v name).run P w= .ok (f,v) w:=by
 unfold methodOf at h
 split at h
 ·rename_i i d hi hd
  split at h
  ·rename_i m hm ak
   split at h
   ·rename_i g ry nV
    cases h
    have rG:m.path.toList=[]:=by
     have:=Array.isEmpty_iff.1 ry
     rw[this]
    unfold method;simp only[Sem.run_bind,typeInfo,hi,Sem.run_pure,Result.andThen_ok,hm,rG,follow,nV]
    cases d<;>first|(cases ak;done)|simp[receiverAt,run_underlying hd,Place.get,Result.andThen,typeInfo,hi,hm,rG,follow,nV]
   ·cases h
  ·cases h
 ·cases h
theorem vC.invoke{y:aD}{x:Operand}{xs:Array Operand}{ts:Array TypeId}{name:String}(ao:o.op= .call {callee:=.invoke x name,args:=xs,argTypes:=ts}){t:TypeId}{f:Nat}(hm:methodOf P t name=some f)
 (ax: ∀E a w β ro,dc E G s a w β ro→∃v,a.eval x= .iface t v∧bG w ro s.heap β s.next y v):vC P G o s f [y] [] xs:=by
 intro E a w β ro h
 obtain⟨v,he,ag⟩:=ax E a w β ro h
 refine⟨#[v],#[],rfl,rfl,fun j z af=>?_,fun j z af=>by simp at af,fun cP=>?_⟩
 ·cases j with
  |zero=>simp at af;subst af;exact ag
  |succ j=>simp at af
 ·have hex:(#[Value.iface t v]++xs.map a.eval).extract 1 (#[Value.iface t v]++xs.map a.eval).size=xs.map a.eval:=by
   apply Array.ext';simp only[Array.toList_extract,Array.toList_append,Array.size_append];simp[List.extract];exact List.take_of_length_le (by simp)
  have zhN:=fun n=>zhM (P:=P) hm v n cP
  have hd:P.types.size+Made.depth=(P.types.size+99)+1:=rfl
  simp only[execOp,ao,resolve,he,Sem.run_bind,Sem.run_pure,Result.andThen_ok,Go.invoke]
  have aJ:(#[Value.iface t v]++xs.map a.eval)[0]? =some (.iface t v):=by rw[Array.getElem?_append_left (by show 0<1;decide)];rfl
  rw[hex,aJ]
  have ak: ∀k:Program→Sem Next,((program >>= k):Sem Next).run P cP=(k P).run P cP:=fun k=>rfl
  show((program >>= fun A3=>method (A3.types.size+Made.depth) t v name >>= fun x=>callFunc x.1 (#[x.2]++xs.map a.eval)):Sem Next).run P cP=_;rw[ak,Sem.run_bind,hd,zhN,Result.andThen_ok,Array.append_empty]
theorem zhO{xs:Array Operand}{f:FuncId}{p q:List aD}(vD:vC P G o s f p q xs)(gG:nd P f=true)
 {R:aD→Heap→Prop}(hc:dN P G f (p++xs.toList.map (aL G s)++q) s.heap s.next R){bF:aQ→Prop}
 (fl: ∀r b0,R r b0→∃m,s.next≤m∧gF m r=true∧la m b0=true∧(∀id o,id<s.next→aE b0 id=some o→∃cG,aE s.heap id=some cG∧Fq cG o)∧bF (aQ.put ⟨s.c0,b0,m,s.base⟩ o.dst r)):
 ∀(E:Entry) (a:Act) (w:World),Rel E G s a w→∀(K:Act→World→Prop) (Q:Exit→Act→World→Prop),(∀t,bF t→∀bg w',Rel E G t bg w'→K bg w')→o.wp P a w K Q:=by
 intro E a w ⟨β,ro,h⟩ K Q hK
 obtain⟨c,d,aa,ae,kn,vB,cA⟩:=vD E a w β ro h
 ·unfold Oper.wp
  rw[cA w,Eh gG]
  have hs:=hc w β ro (c++xs.map a.eval++d) (by simp[aa,ae,Nat.add_assoc]) (UJ (x:=.const undef) (f:=.func f) h aa ae kn vB) h.heap h.ik h.trans.new
  refine Calls.mono hs fun e w' aK=>?_
  obtain⟨v,r,b0,dU,ro',cS,rfl,ag,dG,hR,cN⟩:=aK;obtain⟨m,hm,zhP,UK,Ay,e1⟩:=fl r b0 ag
  have hw: ∀b,ro b→w'.heap[b]? =w.heap[b]? :=fun b ad=>cN.frame b (h.heap.lt b ad) (h.heap.fo b ad)
  have cm: ∀b,ro b→ro' b:=cN.j9
  have aj: ∀id o,id<s.next→aE b0 id=some o→dU id=β id∧∃cG,aE s.heap id=some cG∧Fq cG o:=fun id o bM ah=>⟨(cN.dT id bM o ah).2,Ay id o bM ah⟩
  have fh:dc E G ⟨s.c0,b0,m,s.base⟩ a w' dU ro':=by
   refine⟨h.defers,h.size,fun i x hx=>(h.slot i x hx).move hw cm hm aj,⟨fun id o ah=>?_,hR.inj,hR.fo,hR.lt⟩,h.ik.keep hw cm,?_,h.base⟩
   ·obtain⟨_,AL⟩:=rE UK ah
    cases hR.dh id o ah with
    |box t cs b arr aB bl cx eR=>exact .box t cs b arr aB bl cx fun j x af=>(eR j x af).lower (rD (AL t cs rfl) af)
    |row t n es xs aB bl cx=>exact .row t n es xs aB bl cx
    |gf t n es aB=>exact .gf t n es aB
    |bU bW b o aB bl cx=>exact .bU bW b o aB bl cx
   ·have t:=h.trans
    refine⟨cN.os.trans t.os,cN.tape.trans t.tape,cN.output.trans t.output,Nat.le_trans t.size cN.size,fun b ad hn=>?_,fun b ad=>?_,fun b ad=>cm b (t.j9 b ad),fun b ad=>?_,fun id bM o ah=>?_,fun id o ah=>(rE UK ah).1,Nat.le_trans t.le hm⟩
    ·rw[←t.frame b ad hn]
     refine cN.frame b (Nat.lt_of_lt_of_le ad t.size) fun hG=>?_
     rcases t.hp b hG with q|q
     ·exact hn q
     ·omega
    ·rcases cN.jo b ad with q|q|q
     ·exact t.jo b q
     ·rcases t.hp b q with q|q
      ·exact .inr (.inl q)
      ·exact .inr (.inr q)
     ·exact .inr (.inr (Nat.le_trans t.size q))
    ·rcases cN.hp b ad with q|q
     ·exact t.hp b q
     ·exact .inr (Nat.le_trans t.size q)
    ·have LB:id<s.next:=Nat.lt_of_lt_of_le bM t.le
     obtain⟨aa,ae⟩:=aj id o LB ah;obtain⟨cG,au,_⟩:=ae;obtain⟨cR,c7⟩:=t.dT id bM cG au;exact⟨cR,aa.trans c7⟩
  exact hK _ e1 _ _ ⟨dU,ro',fh.put o.dst r v (dG.lower zhP)⟩
end
end Go.aN
namespace Go.aN
open Go
inductive vE:ew→ew→Prop where
 |same (o:ew):vE o o
 |box (t:TypeId) {cs ds:List aD}:fW cs ds→vE (.box t cs) (.box t ds)
 |row (t:TypeId) (n:Nat) {es fs:List (List ba)}:es.length=fs.length→(∀e∈fs,e.length=n)→gd es.flatten fs.flatten→vE (.row false t n es) (.row false t n fs)
def qH(s t:aQ):Prop:=∀E (G:bc) a w β ro,dc E G s a w β ro→dc E G t a w β ro
theorem qH.le{s t:aQ}(h:qH s t):cw s t:=fun E G a w ⟨β,ro,ag⟩=>⟨β,ro,h E G a w β ro ag⟩
theorem qH.of{s t:aQ}(ad:t.base=s.base)(hn:s.next≤t.next)(aq:t.c0.length=s.c0.length)(ai: ∀(i:Nat) (v:aD),t.c0[i]? =some v→∃u,s.c0[i]? =some u∧Sub u v)
 (a6: ∀(id:Nat) (o:ew),aE t.heap id=some o→∃cG,aE s.heap id=some cG∧vE cG o):qH s t:=by
 intro E G a w β ro h
 have nY: ∀id ty cs,aE t.heap id=some (.box ty cs)→β id=β id∧∃ty cs,aE s.heap id=some (.box ty cs):=fun id ty cs ah=>by
  obtain⟨cG,aa,ae⟩:=a6 id _ ah
  cases ae with
  |same=>exact⟨rfl,ty,cs,aa⟩
  |box _ h=>exact⟨rfl,_,_,aa⟩
 have da: ∀id z ty n es,aE t.heap id=some (.row z ty n es)→β id=β id∧∃z ty es,aE s.heap id=some (.row z ty n es):=fun id z ty n es ah=>by
  obtain⟨cG,aa,ae⟩:=a6 id _ ah
  cases ae with
  |same=>exact⟨rfl,z,ty,es,aa⟩
  |row _ _=>exact⟨rfl,_,_,_,aa⟩
 have nZ: ∀id bW,aE t.heap id=some (.bU bW)→β id=β id∧∃bW,aE s.heap id=some (.bU bW):=fun id bW ah=>by
  obtain⟨cG,aa,ae⟩:=a6 id _ ah
  cases ae with
  |same=>exact⟨rfl,bW,aa⟩
 have hex: ∀id o,aE t.heap id=some o→∃cG,aE s.heap id=some cG∧cG.live=o.live:=fun id o ah=>by
  obtain⟨cG,aa,ae⟩:=a6 id o ah
  cases ae<;>exact⟨_,aa,rfl⟩
 have own: ∀b,Own t.heap β b→Own s.heap β b:=fun b ⟨id,o,ah,L6,bk⟩=>by
  obtain⟨cG,aa,ae⟩:=hex id o ah;exact⟨id,cG,aa,by rw[ae];exact L6,bk⟩
 refine⟨h.defers,by rw[aq];exact h.size,fun i x hx=>?_,⟨fun id o ah=>?_,fun id gv o cG b aa ae au aR bN cL=>?_,fun b ad ao=>h.heap.fo b ad (own b ao),h.heap.lt⟩,h.ik,?_,by rw[ad];exact h.base⟩
 ·obtain⟨u,hu,gE⟩:=ai i x hx
  exact(gE _ _ _ _ _ _ (h.slot i u hu)).keep (fun _ _=>rfl) (fun _ h=>h) hn nY da nZ
 ·obtain⟨cG,aa,zhQ⟩:=a6 id o ah
  have du:=(h.heap.dh id cG aa).keep (fun _ _=>rfl) (fun _ h=>h) hn (Nat.le_refl _) rfl (fun _ _ _=>rfl) nY da nZ
  cases zhQ with
  |same=>exact du
  |box ty gE=>
   cases du with
   |box _ _ b arr aB bl cx eR=>
    refine .box ty _ b arr aB bl (by rw[cx,gE.at.1]) fun j x af=>?_
    obtain⟨u,hu,Nf⟩:=gE.at.2 j x af;exact Nf _ _ _ _ _ _ (eR j u hu)
  |row ty n aq hn gE=>
   cases du with
   |row _ _ _ xs aB bl cx=>
    refine .row ty n _ xs (by rw[←aq];exact aB) hn fun j x af=>?_
    obtain⟨u,hu,Nf⟩:=gE.at.2 j x af;exact Nf _ _ _ (cx j u hu)
 ·obtain⟨p,g1,g2⟩:=hex id o aa
  obtain⟨fZ,g3,g4⟩:=hex gv cG ae;exact h.heap.inj id gv p fZ b g1 g3 (by rw[g2];exact au) (by rw[g4];exact aR) bN cL
 ·have pB:=h.trans
  refine⟨pB.os,pB.tape,pB.output,pB.size,pB.frame,pB.jo,pB.j9,fun b ad=>pB.hp b (own b ad),fun id hi o ah=>?_,fun id o ah=>?_,Nat.le_trans pB.le hn⟩
  ·obtain⟨p,g1,_⟩:=hex id o ah
   exact pB.dT id hi p g1
  ·obtain⟨p,g1,_⟩:=hex id o ah
   exact Nat.lt_of_lt_of_le (pB.new id p g1) hn
theorem cw.of{s t:aQ}(ad:t.base=s.base)(hn:s.next≤t.next)(aq:t.c0.length=s.c0.length)(ai: ∀(i:Nat) (v:aD),t.c0[i]? =some v→∃u,s.c0[i]? =some u∧Sub u v)
 (a6: ∀(id:Nat) (o:ew),aE t.heap id=some o→∃cG,aE s.heap id=some cG∧vE cG o):cw s t:=(qH.of ad hn aq ai a6).le
theorem qH.put{s t:aQ}{i:Nat}{x:ba}(h:qH s t)(ai:s.c0[i]? =some (.av x)):qH s (t.put (some i) (.av x)):=by
 intro E G a w β ro ag
 have aH:=h E G a w β ro ag
 refine⟨aH.defers,by simp only[aQ.put,List.length_set];exact aH.size,fun j y ay=>?_,aH.heap,aH.ik,aH.trans,aH.base⟩
 simp only[aQ.put,List.getElem?_set]at ay
 split at ay
 ·rename_i e
  subst e
  split at ay
  ·cases ay
   cases ag.slot i (.av x) ai with
   |av _ _ ax=>exact .av _ _ ax
  ·cases ay
 ·exact aH.slot j y ay
section
variable {P:Program} {G:bc}
theorem dY.x7{o:Oper}{s t bL:aQ}(h:dY P G o s t)(aq:cw t bL):dY P G o s bL:=
 fun E a w ag K Q hK=>h E a w ag K Q fun bg w' ed=>hK bg w' (aq E G bg w' ed)
theorem UL{s:aQ}{dst:Option Nat}{v bo:aD}(h:Sub v bo):cw (s.put dst v) (s.put dst bo):=by
 cases dst with
 |none=>exact cw.refl _
 |some d=>
  refine cw.of rfl (Nat.le_refl _) (by simp[aQ.put]) (fun i u hu=>?_) (fun id o ao=>⟨o,ao,.same o⟩)
  simp only[aQ.put,List.getElem?_set]at hu⊢
  split at hu
  ·rename_i e
   rw[if_pos e]
   split at hu
   ·rename_i bM
    cases hu;rw[if_pos bM];exact⟨_,rfl,h⟩
   ·cases hu
  ·rename_i e
   rw[if_neg e];exact⟨u,hu,Sub.refl _⟩
theorem UM{s:aQ}{h':Heap}{dst:Option Nat}{v:aD}(a6: ∀id o,aE h' id=some o→∃cG,aE s.heap id=some cG∧vE cG o):cw (s.put dst v) (aQ.put {s with heap:=h'} dst v):=by
 cases dst with
 |none=>exact cw.of rfl (Nat.le_refl _) rfl (fun i u hu=>⟨u,hu,Sub.refl _⟩) a6
 |some d=>exact cw.of rfl (Nat.le_refl _) rfl (fun i u hu=>⟨u,hu,Sub.refl _⟩) a6
theorem Ng: ∀{l m:List ba},fW (l.map .av) (m.map .av)→gd l m
 |[],[],_=>.nil
 |[],_::_,h=>by cases h
 |_::_,[],h=>by cases h
 |x::l,y::m,h=>by
  cases h with
  |cons aa ae=>
   refine .cons (fun w ro c hc=>?_) (Ng ae)
   have:=aa w ro [] (fun _=>undef) 0 c (.av x c hc)
   cases this with
   |av _ _ h=>exact h
theorem gd.refl: ∀(l:List ba),gd l l
 |[]=>.nil
 |x::r=>.cons (lT.refl x) (gd.refl r)
theorem gd.append{a b c d:List ba}(h:gd a b)(k:gd c d):gd (a++c) (b++d):=by
 induction h with
 |nil=>exact k
 |cons h _ aZ=>exact .cons h aZ
end
section
variable {P:Program} {G:bc} {s:aQ}
theorem zhR{o:Oper}(t:TypeId)(len:Nat)(parts:Array (Nat × Operand))(ao:o.op= .buildSlice t len parts){e n:Nat}(hu:P.underlying t=some (.slice e))(bV:(P.info? e).map (·.size)=some n)
 {zs:List Value}(aT:zeroCells P e=some zs)(sU:zs.all Value.oneCell'=true)(mB:zs.length=n)(hlen:0<len*n∧len*n≤16777216)
 {ps:List (Nat × aD)}(rH:parts.toList.map (fun p=>(p.1,aL G s p.2))=ps)(eh:ps.all (fun p=>(c1 p.2).all (eJ s.heap))=true)
 {ds:List aD}(hf:kf (fun i=>some (i*n,n)) ((List.replicate len (zs.map fun z=>aD.av (.v z))).flatten) ps=some ds)(ad:s.base≤s.next):
 dY P G o s ({s with heap:=(s.next,.box e ds)::s.heap,next:=s.next+1}.put o.dst (.dF s.next len)):=by
 have nf:ds.length=len*n:=by
  have: ∀(ps:List (Nat × aD)) (cs ds:List aD),kf (fun i=>some (i*n,n)) cs ps=some ds→ds.length=cs.length:=by
   intro ps
   induction ps with
   |nil=>intro cs ds h;simp[kf]at h;rw[h]
   |cons p r aZ=>
    intro cs ds h;obtain⟨i,v⟩:=p;simp only[kf]at h
    split at h
    ·rename_i hc
     rw[aZ _ _ h,qh _ _ _ (by omega)]
    ·cases h
  rw[this ps _ _ hf,ka (n:=n) (fun e he=>by rw[List.mem_replicate]at he;rw[he.2];simpa using mB)]
  simp
 intro E a w ⟨β,ro,ag⟩ K Q hK
 obtain⟨aa,ae⟩:=LQ ag rH eh
 obtain⟨z,kd,o6,_⟩:=AB aT w
 have e0:(List.replicate len (zs.map fun z=>aD.av (.v z))).flatten.length=len*n:=by
  rw[ka (n:=n) (fun e he=>by rw[List.mem_replicate]at he;rw[he.2];simpa using mB)];simp
 have zfO:zs.toArray.size=n:=by simpa using mB
 have rI:0<n:=by
  rcases Nat.eq_zero_or_pos n with h|h
  ·rw[h]at hlen;simp at hlen
  ·exact h
 obtain⟨ys,g1,g2,g3⟩:=El (place':=fun i=>some (i*n,n)) (fun _ _ h=>h) ag.heap hf aa ae (xs:=(Array.range (len*n)).map fun x=>zs.toArray[x%zs.toArray.size]!) (by rw[e0];simp) (fun j x af=>by
  have cW:j<len*n:=by rw[←e0];exact(List.getElem?_eq_some_iff.1 af).1
  have hm:j=(j/ n)*n+j%n:=by rw[Nat.mul_comm];exact(Nat.div_add_mod j n).symm
  have n6:j%n<n:=Nat.mod_lt _ rI
  have n7:j/ n<len:=by rw[Nat.div_lt_iff_lt_mul rI];exact cW
  rw[hm,rq (n:=n) (fun e he=>by rw[List.mem_replicate]at he;rw[he.2];simpa using mB) (i:=j/ n) (e:=zs.map fun z=>aD.av (.v z)) (by simp[n7]) (j%n) n6]at af
  have:=LP (w:=w) (ro:=ro) (σ:=s.heap) (β:=β) (N:=s.next) sU (j%n) x af
  have aB:(Array.map (fun x=>zs.toArray[x%zs.toArray.size]!) (Array.range (len*n))).getD j undef=zs.toArray.getD (j%n) undef:=by
   have au:j%n<zs.length:=by omega
   simp[cW,mB,List.getElem?_eq_getElem au]
  rw[aB]
  exact this)
 have cA:(execOp a.eval o).run P w= .ok (.value (.slice (some ⟨w.heap.size,0,none⟩) len len)) (w.alloc (.cells ys e)):=by
  have AQ:(sizeOf e).run P w= .ok n w:=by
   cases hi:P.info? e with
   |none=>simp[hi]at bV
   |some i=>simp[hi]at bV;simp[sizeOf,typeInfo,hi,bV]
  have b9: ¬len*n>2^24:=by omega
  have jv: ¬len*n=0:=by omega
  simp only[execOp,ao,Sem.run_bind,Instr.buildSlice,run_underlying hu,Result.andThen_ok,AQ,if_neg b9,if_neg jv,kd,Sem.run_pure,o6]
  erw [g1]
  simp[newRow]
 have jq:aE s.heap s.next=none:=by
  cases ah:aE s.heap s.next with
  |none=>rfl
  |some p=>have:=ag.trans.new _ _ ah;omega
 have up: ∀(x:aD) (c:Value),bG w ro s.heap β s.next x c→bG (w.alloc (.cells ys e)) ro ((s.next,.box e ds)::s.heap) (gX β s.next (.pointer (some ⟨w.heap.size,0,none⟩))) (s.next+1) x c:=fun x c hx=>
  hx.move (fun b ad=>(Go.RowKit.Below.heap_alloc w _ b (ag.heap.lt b ad))) (fun _ h=>h) (Nat.le_succ _) fun id o bM ah=>by
   have b9: ¬s.next=id:=by omega
   simp only[aE,if_neg b9]at ah;refine⟨db _ _ (fun a6=>b9 a6.symm),o,ah,?_⟩
   cases o with
   |box=>trivial
   |row=>rfl
   |bU=>trivial
 have fh:=ag.new (w':=w.alloc (.cells ys e)) s.next jq ad (Nat.le_refl _) (.box e ds) (.pointer (some ⟨w.heap.size,0,none⟩)) rfl rfl rfl (by simp) (fun b ad=>Go.RowKit.Below.heap_alloc w _ b ad) (fun b ad=>by simp[cb]at ad;omega) rfl
  (.box e ds w.heap.size ys (by rw[dZ]) (heap_alloc_new w _) g2 fun j x af=>up _ _ (g3 j x af))
 unfold Oper.wp
 rw[cA]
 exact hK _ _ ⟨_,ro,fh.put o.dst (.dF s.next len) (.slice (some ⟨w.heap.size,0,none⟩) len len) (.dF _ _ _ (Nat.lt_succ_self _) fun t cs _=>⟨_,dZ _ _ _,rfl⟩)⟩
end
def ab.Bw:ab→Bool
 | .aV _ _=>true
 | .fd _ _ _ _=>true
 | .cs _=>true
 | .ip _ _ _=>true
 |_=>false
theorem Fs{G:bc}{e:Env}: ∀{l:List ab},l.all ab.Bw=true→∃vs,iS (ab.bX G e l)=some vs∧ab.bX G e l=vs.map .av
 |[],_=>⟨[],rfl,rfl⟩
 |x::r,h=>by
  simp only[List.all_cons,Bool.and_eq_true]at h;obtain⟨vs,aa,ae⟩:=Fs (G:=G) (e:=e) h.2
  have: ∃y,x.den G e= .av y:=by
   cases x<;>first|exact⟨_,rfl⟩|(simp[ab.Bw]at h)
  obtain⟨y,ay⟩:=this;refine⟨y::vs,?_,?_⟩
  ·simp only[ab.bX,ay,iS,aa]
  ·simp only[ab.bX,ay,ae,List.map_cons]
mutual
def ab.kill(id:Nat):ab→ab
 | .cr l=>.cr (ab.eo id l)
 | .tp l=>.tp (ab.eo id l)
 | .ej k o=>match decide (k=id)with
  |true=>.top
  |false=>.ej k o
 | .gR k x o=>match decide (k=id)with
  |true=>.top
  |false=>.gR k x o
 | .gY k o x n=>match decide (k=id)with
  |true=>.top
  |false=>.gY k o x n
 | .aP k=>match decide (k=id)with
  |true=>.top
  |false=>.aP k
 | .cM k n=>match decide (k=id)with
  |true=>.top
  |false=>.cM k n
 | .fp g (some k) o=>match decide (k=id)with
  |true=>.fp g none o
  |false=>.fp g (some k) o
 | .fn f a b=>.fn f (ab.eo id a) (ab.eo id b)
 | .ha k=>match decide (k=id)with
  |true=>.top
  |false=>.ha k
 | .fN g b x=>.fN g b (ab.kill id x)
 |x=>x
def ab.eo(id:Nat):List ab→List ab
 |[]=>[]
 |x::r=>ab.kill id x::ab.eo id r
end
def bd.map{α:Type}(f:α→α):bd α→bd α
 | .emp=>.emp
 | .n v l r=>.n (match v with|some x=>some (f x)|none=>none) (l.map f) (r.map f)
theorem bd.get_map{α:Type}(f:α→α): ∀(t:bd α) (k:Nat),(t.map f).get k=(t.get k).map f
 | .emp,_=>rfl
 | .n v l r,k=>by
  simp only[bd.map,bd.get]
  split
  ·cases v<;>rfl
  ·split
   ·exact bd.get_map f l _
   ·exact bd.get_map f r _
structure dn where
 xs:List bT
 ns:List fi
 Tg:Option Nat
 h:List (Nat × bO)
 n:Nat
 v:ab
def dn.l(r:dn)(l:bd ab):bd ab:=
 match r.Tg with
 |none=>l
 |some id=>l.map (ab.kill id)
def dn.st(r:dn)(S:ar)(dst:Option Nat):ar:=({S with l:=r.l S.l,h:=r.h,n:=r.n}:ar).put dst r.v
def mM(P:Program)(G:bc)(N B:Nat)(M:List aS)(o:Oper)(S:ar)(r:dn):Prop:=
 ∀e,(∀c∈S.g,c.ok e)→(∀(j:Nat) (x:bT),r.xs[j]? =some x→Env.at e (S.k+j)=x.den M e)→(∀n∈r.ns,n.ok M e)→dY P G o (S.den G N B e) ((r.st S o.dst).den G N B e)
def Nh(P:Program)(B:Nat)(S:ar)(t:TypeId):Option dn:=
 match zeroCells P t with
 |some zs=>match zs.all Value.oneCell'&&Nat.ble B S.n with
  |true=>some ⟨[],[],none,(S.n,.dv t (zs.map .cs))::S.h,S.n+1,.ej S.n 0⟩
  |false=>none
 |none=>none
def Ni(B:Nat)(S:ar)(t:TypeId)(x:ab):Option dn:=
 match x.cells.all (kP S.h)&&Nat.ble B S.n with
 |true=>some ⟨[],[],none,(S.n,.dv t x.cells)::S.h,S.n+1,.ej S.n 0⟩
 |false=>none
def Nj(P:Program)(S:ar)(t:TypeId)(p x:ab):Option dn:=
 match p with
 | .ej id off=>match dm S.h id,(P.info? t).map (·.size)with
  |some (.dv bt l),some n=>match x.cells.all (kP S.h)&&(Nat.beq n x.cells.length&&Nat.ble (off+n) l.length)with
   |true=>some ⟨[],[],none,jz S.h id (.dv bt (ey l off x.cells)),S.n,.top⟩
   |false=>none
  |_,_=>none
 | .gR id i off=>match dm S.h id,(P.info? t).map (·.size),i.rt with
  |some (.rw bt c y),some n,some (.int k)=>match x.cells.all ab.Bw&&((x.cells.all (kP S.h)&&y.eE (.li c))&&(Nat.beq n x.cells.length&&(Nat.ble (off+n) (b4 c)&&hz (eV c) (ey (iW c S.k 0 (eV c)) off x.cells))))with
   |true=>some ⟨[.f2 (.kj c k) y i,.up c y i (.cr (ey (iW c S.k 0 (eV c)) off x.cells))],py S.g (.iX c) (.kj c k) y i,
    none,jz S.h id (.rw bt c (.aV (.li c) (S.k+1))),S.n,.top⟩
   |false=>none
  |_,_,_=>none
 |_=>none
section
variable {P:Program} {G:bc} {o:Oper} {N B:Nat} {S:ar} {M:List aS}
theorem zhS{t:TypeId}{r:dn}(ao:o.op= .alloc t)(h:Nh P B S t=some r):mM P G N B M o S r:=fun e hf hx hn=>by
 unfold Nh at h
 split at h
 ·rename_i zs aT
  split at h
  ·rename_i ad
   cases h;simp only[Bool.and_eq_true]at ad
   have:=Sx (G:=G) (s:=S.den G N B e) t ao (Nat.le_of_ble_eq_true ad.2) aT ad.1
   rw[dn.st,ff];simp only[ar.den,cF,bO.den,ab.den,dn.l]at this⊢;rw[e9,List.map_map];exact this
  ·cases h
 ·cases h
theorem zhT{t:TypeId}{x:Operand}{r:dn}(ao:o.op= .box t x)(h:Ni B S t (S.a7 N x)=some r):mM P G N B M o S r:=fun e hf hx hn=>by
 unfold Ni at h
 split at h
 ·rename_i ad
  cases h;simp only[Bool.and_eq_true]at ad
  have ax:=vu (G:=G) (e:=e) ad.1
  have:=Sv (P:=P) (G:=G) (s:=S.den G N B e) t x ao (Nat.le_of_ble_eq_true ad.2) (by rw[bP hf,ax];exact xY ad.1)
  rw[bP hf,ax]at this;rw[dn.st,ff];exact this
 ·cases h
theorem zhU{c:bR}{l:List (fS c)}{j:Nat}{h0 aB:fS c}{vs:List ba}(aJ:l[j]? =some h0)(ai:gd vs (ck c aB)):gd ((l.map (ck c)).set j vs).flatten ((l.set j aB).map (ck c)).flatten:=by
 induction l generalizing j with
 |nil=>simp at aJ
 |cons x l aZ=>
  cases j with
  |zero=>
   simp only[List.map_cons,List.set_cons_zero,List.flatten_cons];exact ai.append (gd.refl _)
  |succ j=>
   simp only[List.map_cons,List.set_cons_succ,List.flatten_cons];exact(gd.refl _).append (aZ (by simpa using aJ))
theorem zhV{t:TypeId}{p x:Operand}{r:dn}(ao:o.op= .store t p x)(h:Nj P S t (S.a7 N p) (S.a7 N x)=some r):mM P G N B M o S r:=fun e hf hx hn=>by
 unfold Nj at h
 split at h
 ·rename_i id off ak
  split at h
  ·rename_i bt l n ah bV
   split at h
   ·rename_i ad
    cases h;simp only[Bool.and_eq_true]at ad
    have ax:=vu (G:=G) (e:=e) ad.1
    have hlen:=Nat.eq_of_beq_eq_true ad.2.1
    have lQ:c1 (aL G (S.den G N B e) x)=ab.bX G e (S.a7 N x).cells:=by rw[bP hf,ax]
    have:=Sz (P:=P) (G:=G) (s:=S.den G N B e) t p x ao (id:=id) (off:=off) (by rw[bP hf,ak];rfl) (bt:=bt) (cs:=ab.bX G e l) (by simp only[ar.den,er,ah,Option.map_some,bO.den])
     (vs:=ab.bX G e (S.a7 N x).cells) lQ (xY ad.1) (by rw[ml,bV,hlen]) (by rw[ml,ml,←hlen];exact Nat.le_of_ble_eq_true ad.2.2)
    rw[dn.st,ff];simp only[ar.den,tj,bO.den,ab.den,dn.l]at this⊢;rw[e9,E5,←e9,←e9];exact this
   ·cases h
  ·cases h
 ·rename_i id i off ak
  split at h
  ·rename_i bt c y n k ah bV hi
   split at h
   ·rename_i ad
    cases h;simp only[Bool.and_eq_true]at ad;obtain⟨gZ,⟨jt,hX⟩,tv,x8,Bx⟩:=ad
    have hlen:=Nat.eq_of_beq_eq_true tv
    obtain⟨g1,g2⟩:=xW hf hi hn;obtain⟨vs,v1,v2⟩:=Fs (G:=G) (e:=e) gZ
    have fH:vs.length=n:=by
     have:=congrArg List.length v2
     rw[ml,List.length_map]at this;omega
    have lQ:c1 (aL G (S.den G N B e) x)=ab.bX G e (S.a7 N x).cells:=by rw[bP hf,vu jt]
    have aJ:Env.at e S.k=⟨.st c,List.getD (y.aA e (.li c)) (Int.toNat (i.aA e (.int k))) (aw c)⟩:=hx 0 _ rfl
    have aa:Env.at e (S.k+1)=_:=hx 1 _ rfl
    have eQ:=Uy g1 g2
    have dJ:=SB (P:=P) (G:=G) (s:=S.den G N B e) t p x ao (id:=id) (i:=(cu (i.dyn e)).toNat) (off:=off) (by rw[bP hf,ak];rfl) (bt:=bt) (n:=b4 c) (es:=List.map (ck c) (y.aA e (.li c))) (by simp only[ar.den,er,ah,Option.map_some,bO.den])
     (e:=ck c (List.getD (y.aA e (.li c)) (Int.toNat (i.aA e (.int k))) (aw c))) (by rw[List.getElem?_map,lW hi,eQ];rfl) (by rw[lQ];exact v1) (by rw[bV,fH]) (by rw[fH];exact Nat.le_of_ble_eq_true x8)
    refine dJ.x7 ?_
    rw[dn.st,ff]
    have k8:gd (ey (ck c (List.getD (y.aA e (.li c)) (Int.toNat (i.aA e (.int k))) (aw c))) off vs) (ck c (ph c (fX e (eV c) (ey (iW c S.k 0 (eV c)) off (S.a7 N x).cells)))):=by
     have:=Bc (G:=G) (e:=e) Bx
     rw[e9,E5,←e9,←e9,tc,aJ,cH,v2,←E5]at this;exact Ng this
    have fh:(ab.aV (.li c) (S.k+1)).aA e (.li c)=List.set (y.aA e (.li c)) (cu (i.dyn e)).toNat (ph c (fX e (eV c) (ey (iW c S.k 0 (eV c)) off (S.a7 N x).cells))):=by
     simp only[ab.aA,ab.fw,ab.dyn,cH,aa,bT.den,ab.get,ab.cells]
    refine UM (s:={S.den G N B e with heap:=eU (S.den G N B e).heap id _}) (h':=cF G e (jz S.h id (.rw bt c (.aV (.li c) (S.k+1))))) fun gv il By=>?_
    rw[tj,xf]at By;simp only[xf]
    by_cases bj:id=gv
    ·rw[if_pos bj]at By⊢
     cases By;refine⟨_,rfl,?_⟩
     simp only[bO.den];rw[fh];refine .row bt (b4 c) (by simp) (fun q aK=>?_) (zhU (by rw[lW hi];exact eQ) k8)
     obtain⟨z,_,rfl⟩:=List.mem_map.1 aK;exact EA c z
    ·rw[if_neg bj]at By⊢
     exact⟨il,By,.same il⟩
   ·cases h
  ·cases h
 ·cases h
end
end Go.aN
namespace Go.aN
open Go Go.Lib
section
variable {P:Program}
theorem Nk{w:World}(t u ty e:TypeId){i:TypeInfo}(aH:P.underlying t=some (.slice e))(hu:P.underlying u=some .string)(hi:P.info? e=some i)(aT:i.zero=some (.int .u8 0))(iF:i.size=1)(jw:i.bytes=1)
 {v:Value}{n:Nat}{xs:List Value}(da:ij w e 1 v n xs)(s:ByteArray)(oW:n+s.size≤maxLen)(AR:n+s.size≤140737488355328):
 ∃bo w',(Builtin.append_ #[t,u] ty #[v,.string s]).run P w= .ok bo w'∧ij w' e 1 bo (n+s.size) (xs++strCells s)∧w.grownBy w' (cb v)∧(∀k,cb bo=some k→cb v=some k∨w.heap.size≤k):=by
 have zmc:n+s.size≤9223372036854775807:=by simp only[maxLen]at oW;omega
 have jQ:xs.length=n:=by simpa using da.1
 have hlen:(xs++strCells s).length=(n+s.size)*1:=by rw[List.length_append,jQ,strCells_length,Nat.mul_one]
 have grown: ∀(dT:Nat),dT<n+s.size→∀(row:Option Nat),
  ij (w.drew.alloc (.cells (xs.toArray++(strCells s).toArray++Builtin.zeroCells (Value.int .u8 0).cells (grownCap w (n+s.size) dT e-(n+s.size))) e)) e 1
   (.slice (some ⟨w.heap.size,0,none⟩) (n+s.size) (grownCap w (n+s.size) dT e)) (n+s.size) (xs++strCells s)∧
  w.grownBy (w.drew.alloc (.cells (xs.toArray++(strCells s).toArray++Builtin.zeroCells (Value.int .u8 0).cells (grownCap w (n+s.size) dT e-(n+s.size))) e)) row:=by
  intro dT ao row
  have h1:=grownCap_ge w (n+s.size) dT e
  have im:grownCap w (n+s.size) dT e≤maxLen:=grownCap_le_maxLen w (n+s.size) dT e oW
  refine⟨⟨hlen,.inr ⟨w.heap.size,_,_,rfl,by omega,heap_alloc_new w.drew _,h1,im,?_,?_⟩⟩,⟨rfl,rfl,rfl,by simp,fun k aj _=>Go.RowKit.Below.heap_alloc w.drew _ k aj⟩⟩
  ·have iK:(Value.int IntKind.u8 0).cells.size=1:=rfl
   simp only[Array.size_append,List.size_toArray,size_zeroCells,iK,jQ,strCells_length];omega
  ·simp only[Array.toList_append,List.append_assoc]
   rw[←List.append_assoc,←hlen];exact List.take_left
 have nS: ∀(m c k:Nat),cb (.slice (some ⟨w.heap.size,0,none⟩) m c)=some k→cb v=some k∨w.heap.size≤k:=fun m c k aj=>by
  simp only[cb]at aj
  split at aj
  ·cases aj
  ·simp at aj;exact .inr (by omega)
 rcases da.2 with⟨⟨c,rfl,u0⟩,jv⟩|⟨g,cap,cur,rfl,AS,ah,Bz,im,dR,lM⟩
 ·subst jv
  have hx:xs=[]:=List.eq_nil_of_length_eq_zero jQ
  subst hx
  by_cases hm:s.size=0
  ·have rJ:strCells s=[]:=List.eq_nil_of_length_eq_zero (by rw[strCells_length];exact hm)
   have hf:=run_firstCells_string (P:=P) w 1 s
   rw[hm]at hf;refine⟨.slice c 0 0,w,?_,by rw[hm,rJ];exact⟨rfl,.inl ⟨⟨c,rfl,u0⟩,rfl⟩⟩,World.grownBy.refl w _,fun k aj=>.inl aj⟩
   cases c<;>simp[Builtin.append_,run_underlying aH,run_underlying hu,sizeOf,typeInfo,hi,iF,Builtin.lenOf,hm,hf,rJ,storeCells]
  ·have c2:=grown 0 (by omega) (cb (.slice c 0 0))
   cases c with
   |none=>
    have ag:=run_append_nil_string (P:=P) w t u ty e i (.int .u8 0) aH hu hi aT s (by omega) (by omega) (by rw[jw];omega)
    simp only[Nat.zero_add,List.nil_append,Array.empty_append]at c2⊢
    have aB:(s.data.map fun b=>Value.int .u8 b.toNat)=(strCells s).toArray:=by
     apply Array.ext';simp[strCells]
    rw[aB]at ag;exact⟨_,_,ag,c2.1,c2.2,nS _ _⟩
   |some a=>
    have ag:=run_append_grow_string (P:=P) w t u ty e i (.int .u8 0) aH hu hi aT a 0 0 [] (by simp) (by simp) s (by omega) (by omega) (by rw[jw];exact growslice_fits (by omega) (by omega))
    exact⟨_,_,ag,c2.1,c2.2,nS _ _⟩
 ·by_cases x9:n+s.size≤cap
  ·have ag:=run_append_room_string (P:=P) w t u ty e i aH hu hi iF g n cap cur ah s x9 (by omega)
   refine⟨_,_,ag,⟨hlen,.inr ⟨g,cap,_,rfl,AS,setRow_heap w g cur _ e _ ah,x9,im,?_,?_⟩⟩,⟨rfl,rfl,rfl,by simp,fun k _ aj=>setRow_other w g k _ (fun e=>aj (by simp[cb,e,Nat.ne_of_gt AS]))⟩,fun k aj=>.inl ?_⟩
   ·simp only[List.size_toArray,List.length_append,List.length_take,List.length_drop,Array.length_toList,strCells_length]
    omega
   ·have cN:cur.toList.take n=xs:=by simpa using lM
    rw[cN,←hlen];exact List.take_left
   ·simpa[cb,Nat.ne_of_gt AS]using aj
  ·have holds: ∀j u,xs[j]? =some u→w.cell? ((⟨g,0,none⟩:Addr).add j)=some u:=by
    have hG:w.ownsRow 0 e 1 (.slice (some ⟨g,0,none⟩) n cap) n xs:=⟨da.1,.inr ⟨g,cap,cur,rfl,Nat.zero_le _,ah,Bz,im,dR,lM⟩⟩
    exact hG.cells (g:=g) rfl
   have ag:=run_append_grow_string (P:=P) w t u ty e i (.int .u8 0) aH hu hi aT ⟨g,0,none⟩ n cap xs (by rw[iF];simpa using jQ) holds s (by omega) (by omega) (by rw[jw];exact growslice_fits (by omega) (by omega))
   have c2:=grown cap (by omega) (cb (.slice (some ⟨g,0,none⟩) n cap))
   exact⟨_,_,ag,c2.1,c2.2,nS _ _⟩
def eG(b:ByteArray):List Int:=b.data.toList.map fun u=>(u.toNat:Int)
theorem Nl{w:World}{ro:Nat→Prop}(b:ByteArray):((eG b).map fun z=>[ba.v (.int .u8 z)]).length=b.size∧∀(j:Nat) (x:ba),((eG b).map fun z=>[ba.v (.int .u8 z)]).flatten[j]? =some x→cZ w ro x ((strCells b).getD j undef):=by
 refine⟨by rw[List.length_map];unfold eG;rw[List.length_map,Array.length_toList];rfl,fun j x af=>?_⟩
 have mq:((eG b).map fun z=>[ba.v (.int .u8 z)]).flatten=(eG b).map fun z=>ba.v (.int .u8 z):=by
  generalize eG b=l
  induction l with
  |nil=>rfl
  |cons y r aZ=>simp only[List.map_cons,List.flatten_cons,aZ,List.singleton_append]
 rw[mq]at af
 unfold eG at af
 simp only[List.map_map,List.getElem?_map]at af
 obtain⟨u,hu,rfl⟩:=Option.map_eq_some_iff.1 af
 have:(strCells b).getD j undef= .int .u8 (u.toNat:Int):=by
  unfold strCells;simp[List.getD,hu]
 rw[this]
 exact .v _ rfl
variable {G:bc} {s:aQ} {o:Oper}
def ya(P:Program)(t u:TypeId):Option TypeId:=
 match P.underlying t,P.underlying u with
 |some (.slice e),some .string=>match P.info? e with
  |some i=>match i.zero with
   |some (.int .u8 0)=>match Nat.beq i.size 1&&Nat.beq i.bytes 1 with
    |true=>some e
    |false=>none
   |_=>none
  |none=>none
 |_,_=>none
theorem Nn{t u e:TypeId}(h:ya P t u=some e): ∃i,P.underlying t=some (.slice e)∧P.underlying u=some .string∧P.info? e=some i∧i.zero=some (.int .u8 0)∧i.size=1∧i.bytes=1:=by
 unfold ya at h
 split at h
 ·rename_i az hu ai
  split at h
  ·rename_i i hi
   split at h
   ·rename_i aT
    split at h
    ·rename_i hc
     cases h;simp only[Bool.and_eq_true]at hc;exact⟨i,hu,ai,hi,aT,Nat.eq_of_beq_eq_true hc.1,Nat.eq_of_beq_eq_true hc.2⟩
    ·cases h
   ·cases h
  ·cases h
 ·cases h
theorem zhW(x y:Operand)(t u:TypeId)(ao:o.op= .call {callee:=.builtin .append,args:=#[x,y],argTypes:=#[t,u]}){e:TypeId}(aH:ya P t u=some e)
 {id:Nat}(hx:aL G s x= .aP id){es:List (List ba)}(bj:aE s.heap id=some (.row false e 1 es))(ad:s.base≤id)(bM:id<s.next)
 {b:ByteArray}(ay:aL G s y= .av (.v (.string b)))(bV:es.length+b.size≤maxLen∧es.length+b.size≤140737488355328):
 dY P G o s (aQ.put ⟨eo id s.c0,(id,.row false e 1 (es++(eG b).map fun z=>[ba.v (.int .u8 z)]))::dz id s.heap,s.next,s.base⟩ o.dst (.aP id)):=by
 intro E a w ⟨β,ro,ag⟩ K Q hK
 obtain⟨i,hu,ai,hi,aT,iF,jw⟩:=Nn aH
 have du:=ag.heap.dh id _ bj
 cases du with
 |row _ _ _ xs da b9 e0=>
  have lQ:a.eval x=β id:=by
   have h:=ag.eval x
   rw[hx]at h;generalize a.eval x=c at h
   cases h with
   |aP _ _ _ ak=>exact ak _ _ _ _ bj
  obtain⟨bo,w',cA,kL,c2,bk⟩:=Nk (P:=P) t u o.type e hu ai hi aT iF jw da b bV.1 bV.2;obtain⟨cR,c7⟩:=Nl (w:=w) (ro:=ro) b;unfold Oper.wp;simp only[execOp,ao,resolve,invoke,builtin,Sem.run_bind,Sem.run_pure,Result.andThen_ok,List.map_toArray,List.map_cons,List.map_nil,lQ,ag.en ay,cA]
  have jr: ∀k,k<w.heap.size→cb (β id)≠some k→w'.heap[k]? =w.heap[k]? :=fun k aj b9=>c2.block k aj (fun e=>b9 e.symm)
  have cm: ∀k,ro k→w'.heap[k]? =w.heap[k]? :=fun k aj=>jr k (ag.heap.lt k aj) fun bk=>ag.heap.fo k aj ⟨id,_,bj,rfl,bk⟩
  refine hK _ _ ⟨gX β id bo,ro,dc.put (ag.renew (w':=w') id ad bM bj (.row false e 1 (es++(eG b).map fun z=>[ba.v (.int .u8 z)])) bo c2.os c2.tape c2.output c2.size jr bk rfl ?_) o.dst _ _ ?_⟩
  ·refine .row e 1 _ _ (by rw[dZ,List.length_append,cR];exact kL) (fun az kb=>?_) (fun j x af=>?_)
   ·rw[List.mem_append]at kb
    rcases kb with h|h
    ·exact b9 _ h
    ·obtain⟨z,_,rfl⟩:=List.mem_map.1 h
     rfl
   ·exact(xr b9 da.1 e0 c7 j x af).keep cm fun _ h=>h
  ·exact .aP _ _ bM fun z bL cS dX _=>(dZ _ _ _).symm
theorem zhX(x y:Operand)(t u:TypeId)(ao:o.op= .call {callee:=.builtin .append,args:=#[x,y],argTypes:=#[t,u]}){e:TypeId}(aH:ya P t u=some e)
 (hx:aL G s x= .av (.v (.slice none 0 0)))(ad:s.base≤s.next){b:ByteArray}(ay:aL G s y= .av (.v (.string b)))(bV:b.size≤maxLen∧b.size≤140737488355328):
 dY P G o s ({s with heap:=(s.next,.row false e 1 ((eG b).map fun z=>[ba.v (.int .u8 z)]))::s.heap,next:=s.next+1}.put o.dst (.aP s.next)):=by
 intro E a w ⟨β,ro,ag⟩ K Q hK
 obtain⟨i,hu,ai,hi,aT,iF,jw⟩:=Nn aH
 obtain⟨bo,w',cA,kL,c2,bk⟩:=Nk (P:=P) (w:=w) t u o.type e hu ai hi aT iF jw (v:=.slice none 0 0) (n:=0) (xs:=[]) ⟨by simp,.inl ⟨⟨none,rfl,fun _ h=>(by cases h)⟩,rfl⟩⟩ b (by omega) (by omega)
 obtain⟨cR,c7⟩:=Nl (w:=w) (ro:=ro) b
 unfold Oper.wp
 simp only[execOp,ao,resolve,invoke,builtin,Sem.run_bind,Sem.run_pure,Result.andThen_ok,List.map_toArray,List.map_cons,List.map_nil,ag.en hx,ag.en ay,cA]
 have jq:aE s.heap s.next=none:=by
  cases ah:aE s.heap s.next with
  |none=>rfl
  |some p=>have:=ag.trans.new _ _ ah;omega
 have hw: ∀b,b<w.heap.size→w'.heap[b]? =w.heap[b]? :=fun b ad=>c2.block b ad (by simp[cb])
 have cm: ∀b,ro b→w'.heap[b]? =w.heap[b]? :=fun b ad=>hw b (ag.heap.lt b ad)
 refine hK _ _ ⟨gX β s.next bo,ro,dc.put (ag.new (w':=w') s.next jq ad (Nat.le_refl _) (.row false e 1 ((eG b).map fun z=>[ba.v (.int .u8 z)])) bo c2.os c2.tape c2.output c2.size hw (fun b ad=>?_) rfl ?_) o.dst _ _ ?_⟩
 ·rcases bk b ad with h|h
  ·simp[cb]at h
  ·exact h
 ·refine .row e 1 _ _ (by rw[dZ,cR];simpa using kL) (fun az kb=>?_) (fun j x af=>(c7 j x af).keep cm fun _ h=>h)
  obtain⟨z,_,rfl⟩:=List.mem_map.1 kb;rfl
 ·exact .aP _ _ (Nat.lt_succ_self _) fun z bL cS dX _=>(dZ _ _ _).symm
end
end Go.aN
namespace Go.aN
open Go Go.Lib
section
variable {P:Program} {G:bc} {s:aQ} {E:Entry} {a:Act} {w w':World} {β:Nat→Value} {ro:Nat→Prop}
theorem dc.No(h:dc E G s a w β ro)(id:Nat)(ad:s.base≤s.next){t0:TypeId}{n0:Nat}{AO:List (List ba)}(bj:aE s.heap id=some (.row false t0 n0 AO))(o:ew)(val:Value)
 (o3:w'.os=w.os)(o4:w'.tape=w.tape)(kI:w'.output=w.output)(bV:w.heap.size≤w'.heap.size)(hw: ∀b,b<w.heap.size→cb (β id)≠some b→w'.heap[b]? =w.heap[b]?)
 (gN: ∀b,cb val=some b→cb (β id)=some b∨w.heap.size≤b)(_hlive:o.live=true)
 (du:k7 w' ro ((s.next,o)::dz id s.heap) (gX β s.next val) (s.next+1) s.next o):
 dc E G ⟨eo id s.c0,(s.next,o)::dz id s.heap,s.next+1,s.base⟩ a w' (gX β s.next val) ro:=by
 have cm: ∀b,ro b→w'.heap[b]? =w.heap[b]? :=fun b ag=>hw b (h.heap.lt b ag) fun ad=>h.heap.fo b ag ⟨id,_,bj,rfl,ad⟩
 have ah: ∀k,k≠s.next→k≠id→aE ((s.next,o)::dz id s.heap) k=(aE s.heap k).map (eD id):=fun k aj eu=>by simp[aE,Ne.symm aj,qn,eu]
 have uX:aE ((s.next,o)::dz id s.heap) s.next=some o:=by simp[aE]
 have zmd:id<s.next:=h.trans.new _ _ bj
 have key: ∀x c,bG w ro s.heap β s.next x c→bG w' ro ((s.next,o)::dz id s.heap) (gX β s.next val) (s.next+1) (ee id x) c:=by
  intro x c hx
  induction hx with
  |av x c hx=>exact .av x c (hx.keep cm fun _ h=>h)
  |agg cs c ai _ aZ=>
   refine .agg _ c (by rw[h9];exact ai) fun j x af=>?_
   obtain⟨y,ay,rfl⟩:=hT id af;exact aZ j y ay
  |tuple cs c ai _ aZ=>
   refine .tuple _ c (by rw[h9];exact ai) fun j x af=>?_
   obtain⟨y,ay,rfl⟩:=hT id af;exact aZ j y ay
  |ptr k off c aq ak=>
   simp only[ee]
   split
   ·exact .top _
   ·rename_i aj
    refine .ptr k off c (by omega) fun t cs bz=>?_
    rw[db _ _ (show k≠s.next by omega)]
    rw[ah k (by omega) aj]at bz
    cases ai:aE s.heap k with
    |none=>simp[ai]at bz
    |some p=>
     cases p with
     |box bL cs'=>exact ak bL cs' ai
     |row=>simp[ai,eD]at bz
     |bU=>simp[ai,eD]at bz
  |dF k off c aq ak=>
   simp only[ee]
   split
   ·exact .top _
   ·rename_i aj
    refine .dF k off c (by omega) fun t cs bz=>?_
    rw[db _ _ (show k≠s.next by omega)]
    rw[ah k (by omega) aj]at bz
    cases ai:aE s.heap k with
    |none=>simp[ai]at bz
    |some p=>
     cases p with
     |box bL cs'=>exact ak bL cs' ai
     |row=>simp[ai,eD]at bz
     |bU=>simp[ai,eD]at bz
  |c5 k i off c aq ak=>
   simp only[ee]
   split
   ·exact .top _
   ·rename_i aj
    refine .c5 k i off c (by omega) fun z t n es bz=>?_
    rw[db _ _ (show k≠s.next by omega)]
    rw[ah k (by omega) aj]at bz
    cases ai:aE s.heap k with
    |none=>simp[ai]at bz
    |some p=>
     cases p with
     |box bL cs'=>simp[ai,eD]at bz
     |bU=>simp[ai,eD]at bz
     |row iE bL cS dX=>
      simp only[ai,Option.map_some,eD,Option.some.injEq,ew.row.injEq]at bz;obtain⟨rfl,rfl,rfl,rfl⟩:=bz;exact ak _ _ _ _ ai
  |aP k c aq ak=>
   simp only[ee]
   split
   ·exact .top _
   ·rename_i aj
    refine .aP k c (by omega) fun z t n es bz=>?_
    rw[db _ _ (show k≠s.next by omega)]
    rw[ah k (by omega) aj]at bz
    cases ai:aE s.heap k with
    |none=>simp[ai]at bz
    |some p=>
     cases p with
     |box bL cs'=>simp[ai,eD]at bz
     |bU=>simp[ai,eD]at bz
     |row iE bL cS dX=>exact ak _ _ _ _ ai
  |fn f p q c d aa ae _ _ hq hr=>
   refine .fn f _ _ c d (by rw[h9];exact aa) (by rw[h9];exact ae) (fun j x af=>?_) (fun j x af=>?_)
   ·obtain⟨y,ay,rfl⟩:=hT id af
    exact hq j y ay
   ·obtain⟨y,ay,rfl⟩:=hT id af
    exact hr j y ay
  |ref k c aq ak=>
   simp only[ee]
   split
   ·exact .top _
   ·rename_i aj
    refine .ref k c (by omega) fun bW bz=>?_
    rw[db _ _ (show k≠s.next by omega)]
    rw[ah k (by omega) aj]at bz
    cases ai:aE s.heap k with
    |none=>simp[ai]at bz
    |some p=>
     cases p with
     |box=>simp[ai,eD]at bz
     |row=>simp[ai,eD]at bz
     |bU lL=>exact ak lL ai
  |top c=>exact .top c
 have dT: ∀k p,k≠s.next→aE ((s.next,o)::dz id s.heap) k=some p→k≠id∧∃q,aE s.heap k=some q∧p=eD id q:=by
  intro k p aj bz
  have bI:k≠id:=fun h=>by
   subst h;simp[aE,Ne.symm aj,qn]at bz
  refine⟨bI,?_⟩
  rw[ah k aj bI]at bz
  cases ai:aE s.heap k with
  |none=>simp[ai]at bz
  |some q=>simp[ai]at bz;exact⟨q,rfl,bz.symm⟩
 refine⟨h.defers,by simpa[h9]using h.size,fun i x hx=>?_,⟨fun k p aj=>?_,fun k bs p fZ b aj eu ak gO bk eC=>?_,fun b ag=>?_,fun b ag=>Nat.lt_of_lt_of_le (h.heap.lt b ag) bV⟩,
  h.ik.keep cm fun _ h=>h,?_,h.base⟩
 ·obtain⟨y,ay,rfl⟩:=hT id hx
  exact key _ _ (h.slot i y ay)
 ·by_cases bI:k=s.next
  ·subst k
   rw[uX]at aj;simp only[Option.some.injEq]at aj;subst aj;exact du
  ·obtain⟨hW,q,aK,rfl⟩:=dT k p bI aj
   have gP:=h.heap.dh k q aK
   have b9:q.live=true→∀b,cb (β k)=some b→w'.heap[b]? =w.heap[b]? :=fun aq b bk=>
    hw b (gP.hO aq bk) fun jS=>hW (h.heap.inj k id q _ b aK bj aq rfl bk jS)
   cases gP with
   |box t cs b arr aa ae au aR=>
    refine .box t _ b arr (by rw[db _ _ bI];exact aa) ((b9 rfl b (by rw[aa];rfl)).trans ae) (by rw[h9];exact au) fun j x af=>?_
    obtain⟨y,ay,rfl⟩:=hT id af;exact key _ _ (aR j y ay)
   |row t n es xs aa ae au=>exact .row t n es xs (by rw[db _ _ bI];exact aa.keep (fun b ad=>b9 rfl b ad) bV) ae fun j x af=>(au j x af).keep cm fun _ h=>h
   |gf t n es aa=>exact .gf t n es (by rw[db _ _ bI];exact aa.keep cm fun _ h=>h)
   |bU bW b o aa ae au=>exact .bU bW b o (by rw[db _ _ bI];exact aa) ((b9 rfl b aa).trans ae) (by rw[db _ _ bI];exact bW.mono _ _ _ _ (fun x c h=>h.keep cm fun _ h=>h) au)
 ·by_cases bI:k=s.next
  ·by_cases gQ:bs=s.next
   ·rw[bI,gQ]
   ·subst k
    rw[dZ]at bk;rw[db _ _ gQ]at eC;obtain⟨hW,q,aK,rfl⟩:=dT bs fZ gQ eu;rw[ju]at gO
    have ae:=(h.heap.dh bs q aK).hO gO eC
    rcases gN b bk with aa|aa
    ·exact absurd (h.heap.inj bs id q _ b aK bj gO rfl eC aa) hW
    ·omega
  ·obtain⟨hW,q,aK,rfl⟩:=dT k p bI aj
   rw[ju]at ak;rw[db _ _ bI]at bk
   by_cases gQ:bs=s.next
   ·subst bs
    rw[dZ]at eC
    have ae:=(h.heap.dh k q aK).hO ak bk
    rcases gN b eC with aa|aa
    ·exact absurd (h.heap.inj k id q _ b aK bj ak rfl bk aa) hW
    ·omega
   ·obtain⟨zhY,q',uY,rfl⟩:=dT bs fZ gQ eu
    rw[ju]at gO;rw[db _ _ gQ]at eC;exact h.heap.inj k bs q q' b aK uY ak gO bk eC
 ·rintro⟨k,p,aj,ak,bk⟩
  by_cases bI:k=s.next
  ·subst k
   rw[dZ]at bk
   rcases gN b bk with aa|aa
   ·exact h.heap.fo b ag ⟨id,_,bj,rfl,aa⟩
   ·have:=h.heap.lt b ag;omega
  ·obtain⟨hW,q,aK,rfl⟩:=dT k p bI aj
   rw[ju]at ak;rw[db _ _ bI]at bk;exact h.heap.fo b ag ⟨k,q,aK,ak,bk⟩
 ·have t:=h.trans
  refine⟨o3.trans t.os,o4.trans t.tape,kI.trans t.output,Nat.le_trans t.size bV,fun b hP gh=>?_,t.jo,t.j9,?_,fun k aj p bz=>?_,fun k p bz=>?_,Nat.le_succ_of_le t.le⟩
  ·by_cases jS:cb (β id)=some b
   ·rcases t.hp b ⟨id,_,bj,rfl,jS⟩with hc|hc
    ·exact absurd hc gh
    ·omega
   ·rw[hw b (Nat.lt_of_lt_of_le hP t.size) jS]
    exact t.frame b hP gh
  ·rintro b ⟨k,p,aj,ak,bk⟩
   by_cases bI:k=s.next
   ·subst k
    rw[dZ]at bk
    rcases gN b bk with aa|aa
    ·exact t.hp b ⟨id,_,bj,rfl,aa⟩
    ·exact .inr (Nat.le_trans t.size aa)
   ·obtain⟨hW,q,aK,rfl⟩:=dT k p bI aj
    rw[ju]at ak;rw[db _ _ bI]at bk;exact t.hp b ⟨k,q,aK,ak,bk⟩
  ·have bI:k≠s.next:=by have:=h.base;omega
   obtain⟨hW,q,aK,rfl⟩:=dT k p bI bz;rw[db _ _ bI];exact t.dT k aj q aK
  ·by_cases bI:k=s.next
   ·subst k;exact Nat.lt_succ_self _
   ·obtain⟨hW,q,aK,rfl⟩:=dT k p bI bz
    exact Nat.lt_succ_of_lt (t.new k q aK)
theorem dc.UN(h:dc E G s a w β ro)(id a1:Nat)(ad:s.base≤a1)(bM:a1<s.next){t0:TypeId}{n0:Nat}{AO:List (List ba)}(bj:aE s.heap id=some (.row false t0 n0 AO))(o:ew)(val:Value)
 (o3:w'.os=w.os)(o4:w'.tape=w.tape)(kI:w'.output=w.output)(bV:w.heap.size≤w'.heap.size)(hw: ∀b,b<w.heap.size→cb (β id)≠some b→w'.heap[b]? =w.heap[b]?)
 (gN: ∀b,cb val=some b→cb (β id)=some b∨w.heap.size≤b)(_hlive:o.live=true)
 (du:k7 w' ro ((a1,o)::dz a1 (dz id s.heap)) (gX β a1 val) s.next a1 o):
 dc E G ⟨eo a1 (eo id s.c0),(a1,o)::dz a1 (dz id s.heap),s.next,s.base⟩ a w' (gX β a1 val) ro:=by
 have cm: ∀b,ro b→w'.heap[b]? =w.heap[b]? :=fun b ag=>hw b (h.heap.lt b ag) fun ad=>h.heap.fo b ag ⟨id,_,bj,rfl,ad⟩
 have ah: ∀k,k≠a1→k≠id→aE ((a1,o)::dz a1 (dz id s.heap)) k=((aE s.heap k).map (eD id)).map (eD a1):=fun k aj eu=>by simp[aE,Ne.symm aj,qn,aj,eu]
 have uX:aE ((a1,o)::dz a1 (dz id s.heap)) a1=some o:=by simp[aE]
 have key: ∀x c,bG w ro s.heap β s.next x c→bG w' ro ((a1,o)::dz a1 (dz id s.heap)) (gX β a1 val) s.next (ee a1 (ee id x)) c:=by
  intro x c hx
  induction hx with
  |av x c hx=>exact .av x c (hx.keep cm fun _ h=>h)
  |agg cs c ai _ aZ=>
   refine .agg _ c (by rw[h9,h9];exact ai) fun j x af=>?_
   obtain⟨z,aT,rfl⟩:=hT a1 af;obtain⟨y,ay,rfl⟩:=hT id aT;exact aZ j y ay
  |tuple cs c ai _ aZ=>
   refine .tuple _ c (by rw[h9,h9];exact ai) fun j x af=>?_
   obtain⟨z,aT,rfl⟩:=hT a1 af;obtain⟨y,ay,rfl⟩:=hT id aT;exact aZ j y ay
  |ptr k off c aq ak=>
   by_cases aj:k=id
   ·simp only[ee,aj,if_true]
    exact .top _
   by_cases gk:k=a1
   ·simp only[ee,if_neg aj,if_neg (gk ▸ aj),gk,if_true]
    exact .top _
   ·simp only[ee,if_neg aj,if_neg gk]
    refine .ptr k off c aq fun t cs bz=>?_
    rw[db _ _ gk];rw[ah k gk aj]at bz
    cases ai:aE s.heap k with
    |none=>simp[ai]at bz
    |some p=>
     cases p with
     |box bL cs'=>exact ak bL cs' ai
     |row=>simp[ai,eD]at bz
     |bU=>simp[ai,eD]at bz
  |dF k off c aq ak=>
   by_cases aj:k=id
   ·simp only[ee,aj,if_true]
    exact .top _
   by_cases gk:k=a1
   ·simp only[ee,if_neg aj,if_neg (gk ▸ aj),gk,if_true]
    exact .top _
   ·simp only[ee,if_neg aj,if_neg gk]
    refine .dF k off c aq fun t cs bz=>?_
    rw[db _ _ gk];rw[ah k gk aj]at bz
    cases ai:aE s.heap k with
    |none=>simp[ai]at bz
    |some p=>
     cases p with
     |box bL cs'=>exact ak bL cs' ai
     |row=>simp[ai,eD]at bz
     |bU=>simp[ai,eD]at bz
  |c5 k i off c aq ak=>
   by_cases aj:k=id
   ·simp only[ee,aj,if_true]
    exact .top _
   by_cases gk:k=a1
   ·simp only[ee,if_neg aj,if_neg (gk ▸ aj),gk,if_true]
    exact .top _
   ·simp only[ee,if_neg aj,if_neg gk]
    refine .c5 k i off c aq fun z t n es bz=>?_
    rw[db _ _ gk];rw[ah k gk aj]at bz
    cases ai:aE s.heap k with
    |none=>simp[ai]at bz
    |some p=>
     cases p with
     |box bL cs'=>simp[ai,eD]at bz
     |bU=>simp[ai,eD]at bz
     |row iE bL cS dX=>
      simp only[ai,Option.map_some,eD,Option.some.injEq,ew.row.injEq]at bz;obtain⟨rfl,rfl,rfl,rfl⟩:=bz;exact ak _ _ _ _ ai
  |aP k c aq ak=>
   by_cases aj:k=id
   ·simp only[ee,aj,if_true]
    exact .top _
   by_cases gk:k=a1
   ·simp only[ee,if_neg aj,if_neg (gk ▸ aj),gk,if_true]
    exact .top _
   ·simp only[ee,if_neg aj,if_neg gk]
    refine .aP k c aq fun z t n es bz=>?_
    rw[db _ _ gk];rw[ah k gk aj]at bz
    cases ai:aE s.heap k with
    |none=>simp[ai]at bz
    |some p=>
     cases p with
     |box bL cs'=>simp[ai,eD]at bz
     |bU=>simp[ai,eD]at bz
     |row iE bL cS dX=>exact ak _ _ _ _ ai
  |fn f p q c d aa ae _ _ hq hr=>
   refine .fn f _ _ c d (by rw[h9,h9];exact aa) (by rw[h9,h9];exact ae) (fun j x af=>?_) (fun j x af=>?_)
   ·obtain⟨z,aT,rfl⟩:=hT a1 af
    obtain⟨y,ay,rfl⟩:=hT id aT;exact hq j y ay
   ·obtain⟨z,aT,rfl⟩:=hT a1 af
    obtain⟨y,ay,rfl⟩:=hT id aT;exact hr j y ay
  |ref k c aq ak=>
   by_cases aj:k=id
   ·simp only[ee,aj,if_true]
    exact .top _
   by_cases gk:k=a1
   ·simp only[ee,if_neg aj,if_neg (gk ▸ aj),gk,if_true]
    exact .top _
   ·simp only[ee,if_neg aj,if_neg gk]
    refine .ref k c aq fun bW bz=>?_
    rw[db _ _ gk];rw[ah k gk aj]at bz
    cases ai:aE s.heap k with
    |none=>simp[ai]at bz
    |some p=>
     cases p with
     |box=>simp[ai,eD]at bz
     |row=>simp[ai,eD]at bz
     |bU lL=>exact ak lL ai
  |top c=>exact .top c
 have dT: ∀k p,k≠a1→aE ((a1,o)::dz a1 (dz id s.heap)) k=some p→k≠id∧∃q,aE s.heap k=some q∧p=eD a1 (eD id q):=by
  intro k p aj bz
  have bI:k≠id:=fun h=>by
   subst h;simp[aE,Ne.symm aj,qn,aj]at bz
  refine⟨bI,?_⟩
  rw[ah k aj bI]at bz
  cases ai:aE s.heap k with
  |none=>simp[ai]at bz
  |some q=>simp[ai]at bz;exact⟨q,rfl,bz.symm⟩
 refine⟨h.defers,by simpa[h9]using h.size,fun i x hx=>?_,⟨fun k p aj=>?_,fun k bs p fZ b aj eu ak gO bk eC=>?_,fun b ag=>?_,fun b ag=>Nat.lt_of_lt_of_le (h.heap.lt b ag) bV⟩,
  h.ik.keep cm fun _ h=>h,?_,h.base⟩
 ·obtain⟨z,aT,rfl⟩:=hT a1 hx
  obtain⟨y,ay,rfl⟩:=hT id aT;exact key _ _ (h.slot i y ay)
 ·by_cases bI:k=a1
  ·subst k
   rw[uX]at aj;simp only[Option.some.injEq]at aj;subst aj;exact du
  ·obtain⟨hW,q,aK,rfl⟩:=dT k p bI aj
   have gP:=h.heap.dh k q aK
   have b9:q.live=true→∀b,cb (β k)=some b→w'.heap[b]? =w.heap[b]? :=fun aq b bk=>
    hw b (gP.hO aq bk) fun jS=>hW (h.heap.inj k id q _ b aK bj aq rfl bk jS)
   cases gP with
   |box t cs b arr aa ae au aR=>
    refine .box t _ b arr (by rw[db _ _ bI];exact aa) ((b9 rfl b (by rw[aa];rfl)).trans ae) (by rw[h9,h9];exact au) fun j x af=>?_
    obtain⟨z,aT,rfl⟩:=hT a1 af;obtain⟨y,ay,rfl⟩:=hT id aT;exact key _ _ (aR j y ay)
   |row t n es xs aa ae au=>exact .row t n es xs (by rw[db _ _ bI];exact aa.keep (fun b ad=>b9 rfl b ad) bV) ae fun j x af=>(au j x af).keep cm fun _ h=>h
   |gf t n es aa=>exact .gf t n es (by rw[db _ _ bI];exact aa.keep cm fun _ h=>h)
   |bU bW b o aa ae au=>exact .bU bW b o (by rw[db _ _ bI];exact aa) ((b9 rfl b aa).trans ae) (by rw[db _ _ bI];exact bW.mono _ _ _ _ (fun x c h=>h.keep cm fun _ h=>h) au)
 ·by_cases bI:k=a1
  ·by_cases gQ:bs=a1
   ·rw[bI,gQ]
   ·subst k
    rw[dZ]at bk;rw[db _ _ gQ]at eC;obtain⟨hW,q,aK,rfl⟩:=dT bs fZ gQ eu;rw[ju,ju]at gO
    have ae:=(h.heap.dh bs q aK).hO gO eC
    rcases gN b bk with aa|aa
    ·exact absurd (h.heap.inj bs id q _ b aK bj gO rfl eC aa) hW
    ·omega
  ·obtain⟨hW,q,aK,rfl⟩:=dT k p bI aj
   rw[ju,ju]at ak;rw[db _ _ bI]at bk
   by_cases gQ:bs=a1
   ·subst bs
    rw[dZ]at eC
    have ae:=(h.heap.dh k q aK).hO ak bk
    rcases gN b eC with aa|aa
    ·exact absurd (h.heap.inj k id q _ b aK bj ak rfl bk aa) hW
    ·omega
   ·obtain⟨zhY,q',uY,rfl⟩:=dT bs fZ gQ eu
    rw[ju,ju]at gO;rw[db _ _ gQ]at eC;exact h.heap.inj k bs q q' b aK uY ak gO bk eC
 ·rintro⟨k,p,aj,ak,bk⟩
  by_cases bI:k=a1
  ·subst k
   rw[dZ]at bk
   rcases gN b bk with aa|aa
   ·exact h.heap.fo b ag ⟨id,_,bj,rfl,aa⟩
   ·have:=h.heap.lt b ag;omega
  ·obtain⟨hW,q,aK,rfl⟩:=dT k p bI aj
   rw[ju,ju]at ak;rw[db _ _ bI]at bk;exact h.heap.fo b ag ⟨k,q,aK,ak,bk⟩
 ·have t:=h.trans
  refine⟨o3.trans t.os,o4.trans t.tape,kI.trans t.output,Nat.le_trans t.size bV,fun b hP gh=>?_,t.jo,t.j9,?_,fun k aj p bz=>?_,fun k p bz=>?_,t.le⟩
  ·by_cases jS:cb (β id)=some b
   ·rcases t.hp b ⟨id,_,bj,rfl,jS⟩with hc|hc
    ·exact absurd hc gh
    ·omega
   ·rw[hw b (Nat.lt_of_lt_of_le hP t.size) jS]
    exact t.frame b hP gh
  ·rintro b ⟨k,p,aj,ak,bk⟩
   by_cases bI:k=a1
   ·subst k
    rw[dZ]at bk
    rcases gN b bk with aa|aa
    ·exact t.hp b ⟨id,_,bj,rfl,aa⟩
    ·exact .inr (Nat.le_trans t.size aa)
   ·obtain⟨hW,q,aK,rfl⟩:=dT k p bI aj
    rw[ju,ju]at ak;rw[db _ _ bI]at bk;exact t.hp b ⟨k,q,aK,ak,bk⟩
  ·have bI:k≠a1:=by have:=h.base;omega
   obtain⟨hW,q,aK,rfl⟩:=dT k p bI bz;rw[db _ _ bI];exact t.dT k aj q aK
  ·by_cases bI:k=a1
   ·subst k;exact bM
   ·obtain⟨hW,q,aK,rfl⟩:=dT k p bI bz
    exact t.new k q aK
end
section
variable {P:Program} {G:bc} {o:Oper} {s:aQ}
theorem zhZ(x y:Operand)(t:TypeId)(ao:o.op= .call {callee:=.builtin .append,args:=#[x,y],argTypes:=#[t,t]}){e n bytes:Nat}(aH:qo P t=some (e,n,bytes))
 {id:Nat}(hx:aL G s x= .aP id){es:List (List ba)}(bj:aE s.heap id=some (.row false e n es))(ad:s.base≤s.next)
 {fs:List (List ba)}(ay:fB s.heap n (aL G s y)=some fs)(bV:es.length+fs.length≤maxLen∧(es.length+fs.length)*bytes≤140737488355328):
 dY P G o s (aQ.put ⟨eo id s.c0,(s.next,.row false e n (es++fs))::dz id s.heap,s.next+1,s.base⟩ o.dst (.aP s.next)):=by
 intro E a w ⟨β,ro,ag⟩ K Q hK
 obtain⟨i,z,hu,hi,aT,iF,jw,fe,hn⟩:=qb aH
 obtain⟨b,cap,hc,mC,pb,f,ia,pc⟩:=xq ag.heap (ag.eval y) ay
 have du:=ag.heap.dh id _ bj
 cases du with
 |row _ _ _ xs da b9 e0=>
  have lQ:a.eval x=β id:=by
   have h:=ag.eval x
   rw[hx]at h;generalize a.eval x=c at h
   cases h with
   |aP _ _ _ ak=>exact ak _ _ _ _ bj
  obtain⟨n8,pd,rK⟩:=AT mC pc
  obtain⟨bo,w',cA,kL,c2,bk⟩:=Eo (P:=P) t o.type e hu hi aT iF jw fe hn da (b:=b) (m:=fs.length) (cap:=cap) n8 (fun ad=>by rw[pb ad];rfl)
   (fun bg aY j u af=>by
    have cW:=(List.getElem?_eq_some_iff.1 af).1
    rw[n8]at cW
    have aa:=ia bg aY j cW
    simp[cW]at af
    rw[aa,af]) pd bV.1 bV.2
  unfold Oper.wp;simp only[execOp,ao,resolve,invoke,builtin,Sem.run_bind,Sem.run_pure,Result.andThen_ok,List.map_toArray,List.map_cons,List.map_nil,lQ,hc,cA]
  have jr: ∀k,k<w.heap.size→cb (β id)≠some k→w'.heap[k]? =w.heap[k]? :=fun k aj b9=>c2.block k aj (fun e=>b9 e.symm)
  have cm: ∀k,ro k→w'.heap[k]? =w.heap[k]? :=fun k aj=>jr k (ag.heap.lt k aj) fun bk=>ag.heap.fo k aj ⟨id,_,bj,rfl,bk⟩
  refine hK _ _ ⟨gX β s.next bo,ro,dc.put (ag.No (w':=w') id ad bj (.row false e n (es++fs)) bo c2.os c2.tape c2.output c2.size jr bk rfl ?_) o.dst _ _ ?_⟩
  ·refine .row e n _ _ (by rw[dZ,List.length_append];exact kL) (fun az kb=>?_) (fun j x af=>?_)
   ·rw[List.mem_append]at kb
    rcases kb with h|h
    ·exact b9 _ h
    ·exact mC _ h
   ·exact(xr b9 da.1 e0 rK j x af).keep cm fun _ h=>h
  ·exact .aP _ _ (Nat.lt_succ_self _) fun z bL cS dX _=>(dZ _ _ _).symm
theorem zh0(x y:Operand)(t u:TypeId)(ao:o.op= .call {callee:=.builtin .append,args:=#[x,y],argTypes:=#[t,u]}){e:TypeId}(aH:ya P t u=some e)
 {id:Nat}(hx:aL G s x= .aP id){es:List (List ba)}(bj:aE s.heap id=some (.row false e 1 es))(ad:s.base≤s.next)
 {b:ByteArray}(ay:aL G s y= .av (.v (.string b)))(bV:es.length+b.size≤maxLen∧es.length+b.size≤140737488355328):
 dY P G o s (aQ.put ⟨eo id s.c0,(s.next,.row false e 1 (es++(eG b).map fun z=>[ba.v (.int .u8 z)]))::dz id s.heap,s.next+1,s.base⟩ o.dst (.aP s.next)):=by
 intro E a w ⟨β,ro,ag⟩ K Q hK
 obtain⟨i,hu,ai,hi,aT,iF,jw⟩:=Nn aH
 have du:=ag.heap.dh id _ bj
 cases du with
 |row _ _ _ xs da b9 e0=>
  have lQ:a.eval x=β id:=by
   have h:=ag.eval x
   rw[hx]at h;generalize a.eval x=c at h
   cases h with
   |aP _ _ _ ak=>exact ak _ _ _ _ bj
  obtain⟨bo,w',cA,kL,c2,bk⟩:=Nk (P:=P) t u o.type e hu ai hi aT iF jw da b bV.1 bV.2;obtain⟨cR,c7⟩:=Nl (w:=w) (ro:=ro) b;unfold Oper.wp;simp only[execOp,ao,resolve,invoke,builtin,Sem.run_bind,Sem.run_pure,Result.andThen_ok,List.map_toArray,List.map_cons,List.map_nil,lQ,ag.en ay,cA]
  have jr: ∀k,k<w.heap.size→cb (β id)≠some k→w'.heap[k]? =w.heap[k]? :=fun k aj b9=>c2.block k aj (fun e=>b9 e.symm)
  have cm: ∀k,ro k→w'.heap[k]? =w.heap[k]? :=fun k aj=>jr k (ag.heap.lt k aj) fun bk=>ag.heap.fo k aj ⟨id,_,bj,rfl,bk⟩
  refine hK _ _ ⟨gX β s.next bo,ro,dc.put (ag.No (w':=w') id ad bj (.row false e 1 (es++(eG b).map fun z=>[ba.v (.int .u8 z)])) bo c2.os c2.tape c2.output c2.size jr bk rfl ?_) o.dst _ _ ?_⟩
  ·refine .row e 1 _ _ (by rw[dZ,List.length_append,cR];exact kL) (fun az kb=>?_) (fun j x af=>?_)
   ·rw[List.mem_append]at kb
    rcases kb with h|h
    ·exact b9 _ h
    ·obtain⟨z,_,rfl⟩:=List.mem_map.1 h
     rfl
   ·exact(xr b9 da.1 e0 c7 j x af).keep cm fun _ h=>h
  ·exact .aP _ _ (Nat.lt_succ_self _) fun z bL cS dX _=>(dZ _ _ _).symm
end
section
theorem cw.zh1{s bF:aQ}(id off m k gS n:Nat){t:TypeId}{cs:List aD}{es:List (List ba)}(bj:aE s.heap id=some (.box t cs))(hm:aE s.heap m=some (.row false gS n es))(hc:cs[off]? =some (.aP m))(ad:s.base≤k)(bM:k<s.next)(ra:id≠k)
 (h:(⟨eo k (eo m s.c0),eU ((k,.row false gS n es)::dz k (dz m s.heap)) id (.box t ((eo k (eo m cs)).set off (.aP k))),s.next,s.base⟩:aQ)=bF):cw s bF:=by
 subst h
 intro E G a w ⟨β,ro,ag⟩
 have zh2:id≠m:=fun h=>by rw[h,hm]at bj;cases bj
 have Np:=ag.heap.dh m _ hm
 have fh:=ag.UN (w':=w) m k ad bM hm (.row false gS n es) (β m) rfl rfl rfl (Nat.le_refl _) (fun _ _ _=>rfl) (fun _ ad=>.inl ad) rfl (by
  cases Np with
  |row _ _ _ xs aa ae au=>exact .row gS n es xs (by rw[dZ];exact aa) ae au)
 have vk:aE ((k,.row false gS n es)::dz k (dz m s.heap)) id=some (.box t (eo k (eo m cs))):=by
  simp only[aE,if_neg (Ne.symm ra),qn,if_neg ra,if_neg zh2,bj,Option.map_some,eD]
 have du:=fh.heap.dh id _ vk
 have zh3:=ag.heap.dh id _ bj
 cases zh3 with
 |box _ _ oq Nq g1 g2 g3 g4=>
  cases du with
  |box _ _ b arr aa ae au aR=>
   have sX:=aa
   rw[db _ _ ra,g1]at sX
   have zh4:oq=b:=by simpa using sX
   subst zh4
   have r0:Nq=arr:=by
    have:=g2.symm.trans ae
    simpa using this
   subst r0;refine⟨_,ro,fh.write id _ _ vk rfl rfl (.inl ⟨_,_,_,rfl,rfl⟩) rfl rfl rfl (Nat.le_refl _) (fun _ _ _=>rfl) (.box t _ oq Nq aa ae (by rw[au,List.length_set]) fun j x af=>?_)⟩
   rw[List.getElem?_set]at af
   split at af
   ·rename_i aB
    subst aB
    split at af
    ·simp only[Option.some.injEq]at af
     subst af
     have ax:=g4 off _ hc
     generalize Nq.getD off undef=bD at ax⊢
     cases ax with
     |aP _ _ _ ak=>
      refine .aP _ _ bM fun z bL cS dX _=>?_
      rw[ak _ _ _ _ hm];exact(dZ _ _ _).symm
    ·cases af
   ·exact Lq vk (aR j x af) fun _ _=>rfl
end
end Go.aN
