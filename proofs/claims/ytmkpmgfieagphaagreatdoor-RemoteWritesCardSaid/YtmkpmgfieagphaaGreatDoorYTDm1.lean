/- TD, part K: calls that see all own blocks. Conditions: none. -/
import Derived.Test.YtmkpmgfieagphaaGreatDoorYTDj
import Derived.Test.YtmkpmgfieagphaaGreatDoorYSMu
import Derived.Test.YtmkpmgfieagphaaGreatDoorYTDa
import Derived.Lib.AppendStr
namespace Go.aO
open Go
def Ei:ei→ei→Prop
 | .box _ _,.box _ _=>True
 | .row _ _ n _,.row _ _ m _=>n=m
 | .bT _,.bT _=>True
 |_,_=>False
section
variable {w w':World} {ro ro':Nat→Prop} {σ e0:Heap} {β dN:Nat→Value} {N oz:Nat}
theorem bF.move{x:aF}{c:Value}(h:bF w ro σ β N x c)(hw: ∀b,ro b→w'.heap[b]? =w.heap[b]?)(cl: ∀b,ro b→ro' b)(ou:N≤oz)
 (aj: ∀id o,id<N→aG e0 id=some o→dN id=β id∧∃ct,aG σ id=some ct∧Ei ct o):bF w' ro' e0 dN oz x c:=by
 induction h with
 |aw x c hx=>exact .aw x c (hx.keep hw cl)
 |agg cs c ai _ a7=>exact .agg cs c ai a7
 |tuple cs c ai _ a7=>exact .tuple cs c ai a7
 |ptr id off c ar ak=>
  refine .ptr id off c (by omega) fun t cs ah=>?_
  obtain⟨ad,ct,dX,ai⟩:=aj id _ ar ah
  cases ct with
  |box bI cs'=>
   obtain⟨b,aa,ae⟩:=ak bI cs' dX;exact⟨b,ad.trans aa,ae⟩
  |_=>exact ai.elim
 |dC id off c ar ak=>
  refine .dC id off c (by omega) fun t cs ah=>?_
  obtain⟨ad,ct,dX,ai⟩:=aj id _ ar ah
  cases ct with
  |box bI cs'=>
   obtain⟨b,aa,ae⟩:=ak bI cs' dX;exact⟨b,ad.trans aa,ae⟩
  |_=>exact ai.elim
 |c6 id i off c ar ak=>
  refine .c6 id i off c (by omega) fun z t n es ah=>?_
  obtain⟨ad,ct,dX,ai⟩:=aj id _ ar ah
  cases ct with
  |row iA bI cT dR=>
   have ai:cT=n:=ai
   subst ai;obtain⟨b,l,hW,aa,ae⟩:=ak iA bI cT dR dX;exact⟨b,l,hW,ad.trans aa,ae⟩
  |_=>exact ai.elim
 |aR id c ar ak=>
  refine .aR id c (by omega) fun z t n es ah=>?_
  obtain⟨ad,ct,dX,ai⟩:=aj id _ ar ah
  cases ct with
  |row iA bI cT dR=>rw[ad];exact ak iA bI cT dR dX
  |_=>exact ai.elim
 |fn f p q c d aa ae _ _ ha hb=>exact .fn f p q c d aa ae ha hb
 |ref id c ar ak=>
  refine .ref id c (by omega) fun bU ah=>?_
  obtain⟨ad,ct,dX,ai⟩:=aj id _ ar ah
  cases ct with
  |bT ln=>rw[ad];exact ak ln dX
  |_=>exact ai.elim
 |top c=>exact .top c
end
section
variable {P:Program} {G:bd} {s:aU} {E:Entry} {a:Act} {w w':World} {β:Nat→Value} {ro:Nat→Prop}
variable {o:Oper}
theorem Tn{x:Operand}{xs:Array Operand}{f:Fn}{p q:List aF}{c d:Array Value}(h:df E G s a w β ro)(aa:c.size=p.length)(ae:d.size=q.length)(kc: ∀(j:Nat) (x:aF),p[j]? =some x→bF w ro s.heap β s.next x (c.getD j undef))(uS: ∀(j:Nat) (x:aF),q[j]? =some x→bF w ro s.heap β s.next x (d.getD j undef)):
 ∀(i:Nat) (y:aF),(p++xs.toList.map (aM G s)++q)[i]? =some y→bF w ro s.heap β s.next y ((c++xs.map a.eval++d).getD i undef):=fun i y ay=>by
 rw[Array.getD_eq_getD_getElem?]
 rcases Nat.lt_or_ge i (p.length+xs.size)with hi|hi
 ·rw[List.getElem?_append_left (by simpa using hi)]at ay
  rw[Array.getElem?_append_left (by simpa[aa]using hi)]
  rcases Nat.lt_or_ge i p.length with mc|mc
  ·rw[List.getElem?_append_left mc]at ay
   rw[Array.getElem?_append_left (by omega),←Array.getD_eq_getD_getElem?]
   exact kc i y ay
  ·rw[List.getElem?_append_right mc,List.getElem?_map]at ay
   rw[Array.getElem?_append_right (by omega),aa]
   cases aS:xs.toList[i-p.length]? with
   |none=>simp[aS]at ay
   |some z=>
    simp only[aS,Option.map_some,Option.some.injEq]at ay;subst ay
    have oQ:xs[i-p.length]? =some z:=by simpa using aS
    simp only[Array.getElem?_map,oQ,Option.map_some,Option.getD_some]
    exact h.eval z
 ·rw[List.getElem?_append_right (by simpa using hi)]at ay
  rw[Array.getElem?_append_right (by simpa[aa]using hi),←Array.getD_eq_getD_getElem?]
  have:=uS _ y ay
  simpa[aa]using this
def uT(P:Program)(G:bd)(o:Oper)(s:aU)(f:FuncId)(p q:List aF)(xs:Array Operand):Prop:=
 ∀E a w β ro,df E G s a w β ro→∃c d:Array Value,c.size=p.length∧d.size=q.length∧(∀(j:Nat) (x:aF),p[j]? =some x→bF w ro s.heap β s.next x (c.getD j undef))∧(∀(j:Nat) (x:aF),q[j]? =some x→bF w ro s.heap β s.next x (d.getD j undef))∧
  ∀dA,(execOp a.eval o).run P dA=(callFunc f (c++xs.map a.eval++d)).run P dA
theorem uT.value{x:Operand}{xs:Array Operand}{ts:Array TypeId}(ao:o.op= .call {callee:=.value x,args:=xs,argTypes:=ts}){f:FuncId}{p q:List aF}(hx:aM G s x= .fn (.func f) p q):uT P G o s f p q xs:=by
 intro E a w β ro h
 have lr:=h.eval x
 rw[hx]at lr
 generalize he:a.eval x=Kr at lr
 cases lr with
 |fn _ _ _ c d aa ae kc uS=>
  refine⟨c,d,aa,ae,kc,uS,fun dA=>?_⟩
  simp only[execOp,ao,resolve,he,Deferred.ofValue,Sem.run_bind,Sem.run_pure,Result.andThen_ok,invoke]
def methodOf(P:Program)(t:TypeId)(name:String):Option Nat:=
 match P.info? t,P.underlying t with
 |some i,some d=>match i.methods.find? (·.name==name),(match d with
  | .pointer _=>false
  |_=>true)with
  |some m,true=>match m.path.isEmpty,m.func with
   |true,some (f,false)=>some f
   |_,_=>none
  |_,_=>none
 |_,_=>none
theorem zfu{t:TypeId}{name:String}{f:Nat}(h:methodOf P t name=some f)(v:Value)(n:Nat)(w:World):(method (n+1) t v name).run P w= .ok (f,v) w:=by
 unfold methodOf at h
 split at h
 ·rename_i i d hi hd
  split at h
  ·rename_i m hm ak
   split at h
   ·rename_i g qT nt
    cases h
    have q1:m.path.toList=[]:=by
     have:=Array.isEmpty_iff.1 qT
     rw[this]
    unfold method;simp only[Sem.run_bind,typeInfo,hi,Sem.run_pure,Result.andThen_ok,hm,q1,follow,nt]
    cases d<;>first|(cases ak;done)|simp[receiverAt,run_underlying hd,Place.get,Result.andThen,typeInfo,hi,hm,q1,follow,nt]
   ·cases h
  ·cases h
 ·cases h
theorem uT.invoke{y:aF}{x:Operand}{xs:Array Operand}{ts:Array TypeId}{name:String}(ao:o.op= .call {callee:=.invoke x name,args:=xs,argTypes:=ts}){t:TypeId}{f:Nat}(hm:methodOf P t name=some f)
 (ax: ∀E a w β ro,df E G s a w β ro→∃v,a.eval x= .iface t v∧bF w ro s.heap β s.next y v):uT P G o s f [y] [] xs:=by
 intro E a w β ro h
 obtain⟨v,he,ag⟩:=ax E a w β ro h
 refine⟨#[v],#[],rfl,rfl,fun j z af=>?_,fun j z af=>by simp at af,fun dA=>?_⟩
 ·cases j with
  |zero=>simp at af;subst af;exact ag
  |succ j=>simp at af
 ·have hex:(#[Value.iface t v]++xs.map a.eval).extract 1 (#[Value.iface t v]++xs.map a.eval).size=xs.map a.eval:=by
   apply Array.ext';simp only[Array.toList_extract,Array.toList_append,Array.size_append];simp[List.extract];exact List.take_of_length_le (by simp)
  have zfv:=fun n=>zfu (P:=P) hm v n dA
  have hd:P.types.size+Made.depth=(P.types.size+99)+1:=rfl
  simp only[execOp,ao,resolve,he,Sem.run_bind,Sem.run_pure,Result.andThen_ok,Go.invoke]
  have aP:(#[Value.iface t v]++xs.map a.eval)[0]? =some (.iface t v):=by rw[Array.getElem?_append_left (by show 0<1;decide)];rfl
  rw[hex,aP]
  have ak: ∀k:Program→Sem Next,((program >>= k):Sem Next).run P dA=(k P).run P dA:=fun k=>rfl
  show((program >>= fun zN=>method (zN.types.size+Made.depth) t v name >>= fun x=>callFunc x.1 (#[x.2]++xs.map a.eval)):Sem Next).run P dA=_;rw[ak,Sem.run_bind,hd,zfv,Result.andThen_ok,Array.append_empty]
theorem zfw{xs:Array Operand}{f:FuncId}{p q:List aF}(uU:uT P G o s f p q xs)(gE:mP P f=true)
 {R:aF→Heap→Prop}(hc:dJ P G f (p++xs.toList.map (aM G s)++q) s.heap s.next R){bC:aU→Prop}
 (fS: ∀r b1,R r b1→∃m,s.next≤m∧gD m r=true∧kR m b1=true∧(∀id o,id<s.next→aG b1 id=some o→∃ct,aG s.heap id=some ct∧Ei ct o)∧bC (aU.put ⟨s.c0,b1,m,s.base⟩ o.dst r)):
 ∀(E:Entry) (a:Act) (w:World),Rel E G s a w→∀(K:Act→World→Prop) (Q:Exit→Act→World→Prop),(∀t,bC t→∀bf w',Rel E G t bf w'→K bf w')→o.wp P a w K Q:=by
 intro E a w ⟨β,ro,h⟩ K Q hK
 obtain⟨c,d,aa,ae,kc,uS,cy⟩:=uU E a w β ro h
 ·unfold Oper.wp
  rw[cy w,Dc gE]
  have hg:=hc w β ro (c++xs.map a.eval++d) (by simp[aa,ae,Nat.add_assoc]) (Tn (x:=.const undef) (f:=.func f) h aa ae kc uS) h.heap h.h7 h.trans.new
  refine Calls.mono hg fun e w' aN=>?_
  obtain⟨v,r,b1,dN,ro',cT,rfl,ag,dD,hL,cL⟩:=aN;obtain⟨m,hm,zfx,To,zi,e2⟩:=fS r b1 ag
  have hw: ∀b,ro b→w'.heap[b]? =w.heap[b]? :=fun b ad=>cL.frame b (h.heap.lt b ad) (h.heap.fk b ad)
  have cl: ∀b,ro b→ro' b:=cL.jZ
  have aj: ∀id o,id<s.next→aG b1 id=some o→dN id=β id∧∃ct,aG s.heap id=some ct∧Ei ct o:=fun id o bR ah=>⟨(cL.dM id bR o ah).2,zi id o bR ah⟩
  have fh:df E G ⟨s.c0,b1,m,s.base⟩ a w' dN ro':=by
   refine⟨h.defers,h.size,fun i x hx=>(h.slot i x hx).move hw cl hm aj,⟨fun id o ah=>?_,hL.inj,hL.fk,hL.lt⟩,h.h7.keep hw cl,?_,h.base⟩
   ·obtain⟨_,zv⟩:=qZ To ah
    cases hL.dh id o ah with
    |box t cs b arr aE bo cv eC=>exact .box t cs b arr aE bo cv fun j x af=>(eC j x af).lower (qY (zv t cs rfl) af)
    |row t n es xs aE bo cv=>exact .row t n es xs aE bo cv
    |gi t n es aE=>exact .gi t n es aE
    |bT bU b o aE bo cv=>exact .bT bU b o aE bo cv
   ·have t:=h.trans
    refine⟨cL.os.trans t.os,cL.tape.trans t.tape,cL.output.trans t.output,Nat.le_trans t.size cL.size,fun b ad hn=>?_,fun b ad=>?_,fun b ad=>cl b (t.jZ b ad),fun b ad=>?_,fun id bR o ah=>?_,fun id o ah=>(qZ To ah).1,Nat.le_trans t.le hm⟩
    ·rw[←t.frame b ad hn]
     refine cL.frame b (Nat.lt_of_lt_of_le ad t.size) fun hv=>?_
     rcases t.gZ b hv with q|q
     ·exact hn q
     ·omega
    ·rcases cL.jk b ad with q|q|q
     ·exact t.jk b q
     ·rcases t.gZ b q with q|q
      ·exact .inr (.inl q)
      ·exact .inr (.inr q)
     ·exact .inr (.inr (Nat.le_trans t.size q))
    ·rcases cL.gZ b ad with q|q
     ·exact t.gZ b q
     ·exact .inr (Nat.le_trans t.size q)
    ·have Km:id<s.next:=Nat.lt_of_lt_of_le bR t.le
     obtain⟨aa,ae⟩:=aj id o Km ah;obtain⟨ct,au,_⟩:=ae;obtain⟨da,dm⟩:=t.dM id bR ct au;exact⟨da,aa.trans dm⟩
  exact hK _ e2 _ _ ⟨dN,ro',fh.put o.dst r v (dD.lower zfx)⟩
end
end Go.aO
namespace Go.aO
open Go
inductive uV:ei→ei→Prop where
 |same (o:ei):uV o o
 |box (t:TypeId) {cs ds:List aF}:fW cs ds→uV (.box t cs) (.box t ds)
 |row (t:TypeId) (n:Nat) {es fs:List (List bb)}:es.length=fs.length→(∀e∈fs,e.length=n)→gh es.flatten fs.flatten→uV (.row false t n es) (.row false t n fs)
def qe(s t:aU):Prop:=∀E (G:bd) a w β ro,df E G s a w β ro→df E G t a w β ro
theorem qe.le{s t:aU}(h:qe s t):cu s t:=fun E G a w ⟨β,ro,ag⟩=>⟨β,ro,h E G a w β ro ag⟩
theorem qe.of{s t:aU}(ad:t.base=s.base)(hn:s.next≤t.next)(ar:t.c0.length=s.c0.length)(ai: ∀(i:Nat) (v:aF),t.c0[i]? =some v→∃u,s.c0[i]? =some u∧Sub u v)
 (bk: ∀(id:Nat) (o:ei),aG t.heap id=some o→∃ct,aG s.heap id=some ct∧uV ct o):qe s t:=by
 intro E G a w β ro h
 have nw: ∀id ty cs,aG t.heap id=some (.box ty cs)→β id=β id∧∃ty cs,aG s.heap id=some (.box ty cs):=fun id ty cs ah=>by
  obtain⟨ct,aa,ae⟩:=bk id _ ah
  cases ae with
  |same=>exact⟨rfl,ty,cs,aa⟩
  |box _ h=>exact⟨rfl,_,_,aa⟩
 have db: ∀id z ty n es,aG t.heap id=some (.row z ty n es)→β id=β id∧∃z ty es,aG s.heap id=some (.row z ty n es):=fun id z ty n es ah=>by
  obtain⟨ct,aa,ae⟩:=bk id _ ah
  cases ae with
  |same=>exact⟨rfl,z,ty,es,aa⟩
  |row _ _=>exact⟨rfl,_,_,_,aa⟩
 have nx: ∀id bU,aG t.heap id=some (.bT bU)→β id=β id∧∃bU,aG s.heap id=some (.bT bU):=fun id bU ah=>by
  obtain⟨ct,aa,ae⟩:=bk id _ ah
  cases ae with
  |same=>exact⟨rfl,bU,aa⟩
 have hex: ∀id o,aG t.heap id=some o→∃ct,aG s.heap id=some ct∧ct.live=o.live:=fun id o ah=>by
  obtain⟨ct,aa,ae⟩:=bk id o ah
  cases ae<;>exact⟨_,aa,rfl⟩
 have own: ∀b,Own t.heap β b→Own s.heap β b:=fun b ⟨id,o,ah,KP,bm⟩=>by
  obtain⟨ct,aa,ae⟩:=hex id o ah;exact⟨id,ct,aa,by rw[ae];exact KP,bm⟩
 refine⟨h.defers,by rw[ar];exact h.size,fun i x hx=>?_,⟨fun id o ah=>?_,fun id gv o ct b aa ae au aW bN c5=>?_,fun b ad ao=>h.heap.fk b ad (own b ao),h.heap.lt⟩,h.h7,?_,by rw[ad];exact h.base⟩
 ·obtain⟨u,hu,gC⟩:=ai i x hx
  exact(gC _ _ _ _ _ _ (h.slot i u hu)).keep (fun _ _=>rfl) (fun _ h=>h) hn nw db nx
 ·obtain⟨ct,aa,zfy⟩:=bk id o ah
  have dr:=(h.heap.dh id ct aa).keep (fun _ _=>rfl) (fun _ h=>h) hn (Nat.le_refl _) rfl (fun _ _ _=>rfl) nw db nx
  cases zfy with
  |same=>exact dr
  |box ty gC=>
   cases dr with
   |box _ _ b arr aE bo cv eC=>
    refine .box ty _ b arr aE bo (by rw[cv,gC.at.1]) fun j x af=>?_
    obtain⟨u,hu,L0⟩:=gC.at.2 j x af;exact L0 _ _ _ _ _ _ (eC j u hu)
  |row ty n ar hn gC=>
   cases dr with
   |row _ _ _ xs aE bo cv=>
    refine .row ty n _ xs (by rw[←ar];exact aE) hn fun j x af=>?_
    obtain⟨u,hu,L0⟩:=gC.at.2 j x af;exact L0 _ _ _ (cv j u hu)
 ·obtain⟨p,g1,g2⟩:=hex id o aa
  obtain⟨gb,g3,g4⟩:=hex gv ct ae;exact h.heap.inj id gv p gb b g1 g3 (by rw[g2];exact au) (by rw[g4];exact aW) bN c5
 ·have o5:=h.trans
  refine⟨o5.os,o5.tape,o5.output,o5.size,o5.frame,o5.jk,o5.jZ,fun b ad=>o5.gZ b (own b ad),fun id hi o ah=>?_,fun id o ah=>?_,Nat.le_trans o5.le hn⟩
  ·obtain⟨p,g1,_⟩:=hex id o ah
   exact o5.dM id hi p g1
  ·obtain⟨p,g1,_⟩:=hex id o ah
   exact Nat.lt_of_lt_of_le (o5.new id p g1) hn
theorem cu.of{s t:aU}(ad:t.base=s.base)(hn:s.next≤t.next)(ar:t.c0.length=s.c0.length)(ai: ∀(i:Nat) (v:aF),t.c0[i]? =some v→∃u,s.c0[i]? =some u∧Sub u v)
 (bk: ∀(id:Nat) (o:ei),aG t.heap id=some o→∃ct,aG s.heap id=some ct∧uV ct o):cu s t:=(qe.of ad hn ar ai bk).le
theorem qe.put{s t:aU}{i:Nat}{x:bb}(h:qe s t)(ai:s.c0[i]? =some (.aw x)):qe s (t.put (some i) (.aw x)):=by
 intro E G a w β ro ag
 have aK:=h E G a w β ro ag
 refine⟨aK.defers,by simp only[aU.put,List.length_set];exact aK.size,fun j y ay=>?_,aK.heap,aK.h7,aK.trans,aK.base⟩
 simp only[aU.put,List.getElem?_set]at ay
 split at ay
 ·rename_i e
  subst e
  split at ay
  ·cases ay
   cases ag.slot i (.aw x) ai with
   |aw _ _ ax=>exact .aw _ _ ax
  ·cases ay
 ·exact aK.slot j y ay
section
variable {P:Program} {G:bd}
theorem dS.xf{o:Oper}{s t bI:aU}(h:dS P G o s t)(ar:cu t bI):dS P G o s bI:=
 fun E a w ag K Q hK=>h E a w ag K Q fun bf w' dY=>hK bf w' (ar E G bf w' dY)
theorem Tp{s:aU}{dst:Option Nat}{v bp:aF}(h:Sub v bp):cu (s.put dst v) (s.put dst bp):=by
 cases dst with
 |none=>exact cu.refl _
 |some d=>
  refine cu.of rfl (Nat.le_refl _) (by simp[aU.put]) (fun i u hu=>?_) (fun id o ao=>⟨o,ao,.same o⟩)
  simp only[aU.put,List.getElem?_set]at hu⊢
  split at hu
  ·rename_i e
   rw[if_pos e]
   split at hu
   ·rename_i bR
    cases hu;rw[if_pos bR];exact⟨_,rfl,h⟩
   ·cases hu
  ·rename_i e
   rw[if_neg e];exact⟨u,hu,Sub.refl _⟩
theorem Tq{s:aU}{h':Heap}{dst:Option Nat}{v:aF}(bk: ∀id o,aG h' id=some o→∃ct,aG s.heap id=some ct∧uV ct o):cu (s.put dst v) (aU.put {s with heap:=h'} dst v):=by
 cases dst with
 |none=>exact cu.of rfl (Nat.le_refl _) rfl (fun i u hu=>⟨u,hu,Sub.refl _⟩) bk
 |some d=>exact cu.of rfl (Nat.le_refl _) rfl (fun i u hu=>⟨u,hu,Sub.refl _⟩) bk
theorem L1: ∀{l m:List bb},fW (l.map .aw) (m.map .aw)→gh l m
 |[],[],_=>.nil
 |[],_::_,h=>by cases h
 |_::_,[],h=>by cases h
 |x::l,y::m,h=>by
  cases h with
  |cons aa ae=>
   refine .cons (fun w ro c hc=>?_) (L1 ae)
   have:=aa w ro [] (fun _=>undef) 0 c (.aw x c hc)
   cases this with
   |aw _ _ h=>exact h
theorem gh.refl: ∀(l:List bb),gh l l
 |[]=>.nil
 |x::r=>.cons (lA.refl x) (gh.refl r)
theorem gh.append{a b c d:List bb}(h:gh a b)(k:gh c d):gh (a++c) (b++d):=by
 induction h with
 |nil=>exact k
 |cons h _ a7=>exact .cons h a7
end
section
variable {P:Program} {G:bd} {s:aU}
theorem zfz{o:Oper}(t:TypeId)(len:Nat)(parts:Array (Nat × Operand))(ao:o.op= .buildSlice t len parts){e n:Nat}(hu:P.underlying t=some (.slice e))(bY:(P.info? e).map (·.size)=some n)
 {zs:List Value}(aS:zeroCells P e=some zs)(sk:zs.all Value.oneCell'=true)(l9:zs.length=n)(hlen:0<len*n∧len*n≤16777216)
 {ps:List (Nat × aF)}(q2:parts.toList.map (fun p=>(p.1,aM G s p.2))=ps)(ec:ps.all (fun p=>(c1 p.2).all (eF s.heap))=true)
 {ds:List aF}(hf:j4 (fun i=>some (i*n,n)) ((List.replicate len (zs.map fun z=>aF.aw (.v z))).flatten) ps=some ds)(ad:s.base≤s.next):
 dS P G o s ({s with heap:=(s.next,.box e ds)::s.heap,next:=s.next+1}.put o.dst (.dC s.next len)):=by
 have mQ:ds.length=len*n:=by
  have: ∀(ps:List (Nat × aF)) (cs ds:List aF),j4 (fun i=>some (i*n,n)) cs ps=some ds→ds.length=cs.length:=by
   intro ps
   induction ps with
   |nil=>intro cs ds h;simp[j4]at h;rw[h]
   |cons p r a7=>
    intro cs ds h;obtain⟨i,v⟩:=p;simp only[j4]at h
    split at h
    ·rename_i hc
     rw[a7 _ _ h,pQ _ _ _ (by omega)]
    ·cases h
  rw[this ps _ _ hf,j0 (n:=n) (fun e he=>by rw[List.mem_replicate]at he;rw[he.2];simpa using l9)]
  simp
 intro E a w ⟨β,ro,ag⟩ K Q hK
 obtain⟨aa,ae⟩:=KA ag q2 ec
 obtain⟨z,j2,oF,_⟩:=zl aS w
 have e1:(List.replicate len (zs.map fun z=>aF.aw (.v z))).flatten.length=len*n:=by
  rw[j0 (n:=n) (fun e he=>by rw[List.mem_replicate]at he;rw[he.2];simpa using l9)];simp
 have zdu:zs.toArray.size=n:=by simpa using l9
 have q3:0<n:=by
  rcases Nat.eq_zero_or_pos n with h|h
  ·rw[h]at hlen;simp at hlen
  ·exact h
 obtain⟨ys,g1,g2,g3⟩:=Dg (place':=fun i=>some (i*n,n)) (fun _ _ h=>h) ag.heap hf aa ae (xs:=(Array.range (len*n)).map fun x=>zs.toArray[x%zs.toArray.size]!) (by rw[e1];simp) (fun j x af=>by
  have cU:j<len*n:=by rw[←e1];exact(List.getElem?_eq_some_iff.1 af).1
  have hm:j=(j/ n)*n+j%n:=by rw[Nat.mul_comm];exact(Nat.div_add_mod j n).symm
  have nD:j%n<n:=Nat.mod_lt _ q3
  have nE:j/ n<len:=by rw[Nat.div_lt_iff_lt_mul q3];exact cU
  rw[hm,qP (n:=n) (fun e he=>by rw[List.mem_replicate]at he;rw[he.2];simpa using l9) (i:=j/ n) (e:=zs.map fun z=>aF.aw (.v z)) (by simp[nE]) (j%n) nD]at af
  have:=Kz (w:=w) (ro:=ro) (σ:=s.heap) (β:=β) (N:=s.next) sk (j%n) x af
  have aE:(Array.map (fun x=>zs.toArray[x%zs.toArray.size]!) (Array.range (len*n))).getD j undef=zs.toArray.getD (j%n) undef:=by
   have au:j%n<zs.length:=by omega
   simp[cU,l9,List.getElem?_eq_getElem au]
  rw[aE]
  exact this)
 have cy:(execOp a.eval o).run P w= .ok (.value (.slice (some ⟨w.heap.size,0,none⟩) len len)) (w.alloc (.cells ys e)):=by
  have zA:(sizeOf e).run P w= .ok n w:=by
   cases hi:P.info? e with
   |none=>simp[hi]at bY
   |some i=>simp[hi]at bY;simp[sizeOf,typeInfo,hi,bY]
  have cb: ¬len*n>2^24:=by omega
  have jq: ¬len*n=0:=by omega
  simp only[execOp,ao,Sem.run_bind,Instr.buildSlice,run_underlying hu,Result.andThen_ok,zA,if_neg cb,if_neg jq,j2,Sem.run_pure,oF]
  erw [g1]
  simp[newRow]
 have jl:aG s.heap s.next=none:=by
  cases ah:aG s.heap s.next with
  |none=>rfl
  |some p=>have:=ag.trans.new _ _ ah;omega
 have up: ∀(x:aF) (c:Value),bF w ro s.heap β s.next x c→bF (w.alloc (.cells ys e)) ro ((s.next,.box e ds)::s.heap) (gQ β s.next (.pointer (some ⟨w.heap.size,0,none⟩))) (s.next+1) x c:=fun x c hx=>
  hx.move (fun b ad=>(Go.RowKit.Below.heap_alloc w _ b (ag.heap.lt b ad))) (fun _ h=>h) (Nat.le_succ _) fun id o bR ah=>by
   have cb: ¬s.next=id:=by omega
   simp only[aG,if_neg cb]at ah;refine⟨dc _ _ (fun bk=>cb bk.symm),o,ah,?_⟩
   cases o with
   |box=>trivial
   |row=>rfl
   |bT=>trivial
 have fh:=ag.new (w':=w.alloc (.cells ys e)) s.next jl ad (Nat.le_refl _) (.box e ds) (.pointer (some ⟨w.heap.size,0,none⟩)) rfl rfl rfl (by simp) (fun b ad=>Go.RowKit.Below.heap_alloc w _ b ad) (fun b ad=>by simp[b9]at ad;omega) rfl
  (.box e ds w.heap.size ys (by rw[dT]) (heap_alloc_new w _) g2 fun j x af=>up _ _ (g3 j x af))
 unfold Oper.wp
 rw[cy]
 exact hK _ _ ⟨_,ro,fh.put o.dst (.dC s.next len) (.slice (some ⟨w.heap.size,0,none⟩) len len) (.dC _ _ _ (Nat.lt_succ_self _) fun t cs _=>⟨_,dT _ _ _,rfl⟩)⟩
end
def ab.Am:ab→Bool
 | .aQ _ _=>true
 | .fd _ _ _ _=>true
 | .cs _=>true
 | .ip _ _ _=>true
 |_=>false
theorem Ej{G:bd}{e:Env}: ∀{l:List ab},l.all ab.Am=true→∃vs,iR (ab.bX G e l)=some vs∧ab.bX G e l=vs.map .aw
 |[],_=>⟨[],rfl,rfl⟩
 |x::r,h=>by
  simp only[List.all_cons,Bool.and_eq_true]at h;obtain⟨vs,aa,ae⟩:=Ej (G:=G) (e:=e) h.2
  have: ∃y,x.den G e= .aw y:=by
   cases x<;>first|exact⟨_,rfl⟩|(simp[ab.Am]at h)
  obtain⟨y,ay⟩:=this;refine⟨y::vs,?_,?_⟩
  ·simp only[ab.bX,ay,iR,aa]
  ·simp only[ab.bX,ay,ae,List.map_cons]
mutual
def ab.kill(id:Nat):ab→ab
 | .bO l=>.bO (ab.ef id l)
 | .tp l=>.tp (ab.ef id l)
 | .cq k o=>match decide (k=id)with
  |true=>.top
  |false=>.cq k o
 | .gr k x o=>match decide (k=id)with
  |true=>.top
  |false=>.gr k x o
 | .gq k o x n=>match decide (k=id)with
  |true=>.top
  |false=>.gq k o x n
 | .aR k=>match decide (k=id)with
  |true=>.top
  |false=>.aR k
 | .cY k n=>match decide (k=id)with
  |true=>.top
  |false=>.cY k n
 | .fl g (some k) o=>match decide (k=id)with
  |true=>.fl g none o
  |false=>.fl g (some k) o
 | .fn f a b=>.fn f (ab.ef id a) (ab.ef id b)
 | .gR k=>match decide (k=id)with
  |true=>.top
  |false=>.gR k
 | .fL g b x=>.fL g b (ab.kill id x)
 |x=>x
def ab.ef(id:Nat):List ab→List ab
 |[]=>[]
 |x::r=>ab.kill id x::ab.ef id r
end
def bg.map{α:Type}(f:α→α):bg α→bg α
 | .emp=>.emp
 | .n v l r=>.n (match v with|some x=>some (f x)|none=>none) (l.map f) (r.map f)
theorem bg.get_map{α:Type}(f:α→α): ∀(t:bg α) (k:Nat),(t.map f).get k=(t.get k).map f
 | .emp,_=>rfl
 | .n v l r,k=>by
  simp only[bg.map,bg.get]
  split
  ·cases v<;>rfl
  ·split
   ·exact bg.get_map f l _
   ·exact bg.get_map f r _
structure dk where
 xs:List bQ
 ns:List fi
 RR:Option Nat
 h:List (Nat × bK)
 n:Nat
 v:ab
def dk.l(r:dk)(l:bg ab):bg ab:=
 match r.RR with
 |none=>l
 |some id=>l.map (ab.kill id)
def dk.st(r:dk)(S:aq)(dst:Option Nat):aq:=({S with l:=r.l S.l,h:=r.h,n:=r.n}:aq).put dst r.v
def mm(P:Program)(G:bd)(N B:Nat)(M:List aV)(o:Oper)(S:aq)(r:dk):Prop:=
 ∀e,(∀c∈S.g,c.ok e)→(∀(j:Nat) (x:bQ),r.xs[j]? =some x→Env.at e (S.k+j)=x.den M e)→(∀n∈r.ns,n.ok M e)→dS P G o (S.den G N B e) ((r.st S o.dst).den G N B e)
def L2(P:Program)(B:Nat)(S:aq)(t:TypeId):Option dk:=
 match zeroCells P t with
 |some zs=>match zs.all Value.oneCell'&&Nat.ble B S.n with
  |true=>some ⟨[],[],none,(S.n,.cQ t (zs.map .cs))::S.h,S.n+1,.cq S.n 0⟩
  |false=>none
 |none=>none
def L3(B:Nat)(S:aq)(t:TypeId)(x:ab):Option dk:=
 match x.cells.all (kA S.h)&&Nat.ble B S.n with
 |true=>some ⟨[],[],none,(S.n,.cQ t x.cells)::S.h,S.n+1,.cq S.n 0⟩
 |false=>none
def L4(P:Program)(S:aq)(t:TypeId)(p x:ab):Option dk:=
 match p with
 | .cq id off=>match dj S.h id,(P.info? t).map (·.size)with
  |some (.cQ bt l),some n=>match x.cells.all (kA S.h)&&(Nat.beq n x.cells.length&&Nat.ble (off+n) l.length)with
   |true=>some ⟨[],[],none,ju S.h id (.cQ bt (ej l off x.cells)),S.n,.top⟩
   |false=>none
  |_,_=>none
 | .gr id i off=>match dj S.h id,(P.info? t).map (·.size),i.rt with
  |some (.rw bt c y),some n,some (.int k)=>match x.cells.all ab.Am&&((x.cells.all (kA S.h)&&y.ew (.li c))&&(Nat.beq n x.cells.length&&(Nat.ble (off+n) (b5 c)&&hl (eR c) (ej (iV c S.k 0 (eR c)) off x.cells))))with
   |true=>some ⟨[.f2 (.j8 c k) y i,.up c y i (.bO (ej (iV c S.k 0 (eR c)) off x.cells))],o2 S.g (.iz c) (.j8 c k) y i,
    none,ju S.h id (.rw bt c (.aQ (.li c) (S.k+1))),S.n,.top⟩
   |false=>none
  |_,_,_=>none
 |_=>none
section
variable {P:Program} {G:bd} {o:Oper} {N B:Nat} {S:aq} {M:List aV}
theorem zfA{t:TypeId}{r:dk}(ao:o.op= .alloc t)(h:L2 P B S t=some r):mm P G N B M o S r:=fun e hf hx hn=>by
 unfold L2 at h
 split at h
 ·rename_i zs aS
  split at h
  ·rename_i ad
   cases h;simp only[Bool.and_eq_true]at ad
   have:=Q8 (G:=G) (s:=S.den G N B e) t ao (Nat.le_of_ble_eq_true ad.2) aS ad.1
   rw[dk.st,ff];simp only[aq.den,cH,bK.den,ab.den,dk.l]at this⊢;rw[fa,List.map_map];exact this
  ·cases h
 ·cases h
theorem zfB{t:TypeId}{x:Operand}{r:dk}(ao:o.op= .box t x)(h:L3 B S t (S.a8 N x)=some r):mm P G N B M o S r:=fun e hf hx hn=>by
 unfold L3 at h
 split at h
 ·rename_i ad
  cases h;simp only[Bool.and_eq_true]at ad
  have ax:=uL (G:=G) (e:=e) ad.1
  have:=Q6 (P:=P) (G:=G) (s:=S.den G N B e) t x ao (Nat.le_of_ble_eq_true ad.2) (by rw[bM hf,ax];exact w7 ad.1)
  rw[bM hf,ax]at this;rw[dk.st,ff];exact this
 ·cases h
theorem zfC{c:bJ}{l:List (fQ c)}{j:Nat}{il aE:fQ c}{vs:List bb}(aP:l[j]? =some il)(ai:gh vs (cj c aE)):gh ((l.map (cj c)).set j vs).flatten ((l.set j aE).map (cj c)).flatten:=by
 induction l generalizing j with
 |nil=>simp at aP
 |cons x l a7=>
  cases j with
  |zero=>
   simp only[List.map_cons,List.set_cons_zero,List.flatten_cons];exact ai.append (gh.refl _)
  |succ j=>
   simp only[List.map_cons,List.set_cons_succ,List.flatten_cons];exact(gh.refl _).append (a7 (by simpa using aP))
theorem zfD{t:TypeId}{p x:Operand}{r:dk}(ao:o.op= .store t p x)(h:L4 P S t (S.a8 N p) (S.a8 N x)=some r):mm P G N B M o S r:=fun e hf hx hn=>by
 unfold L4 at h
 split at h
 ·rename_i id off ak
  split at h
  ·rename_i bt l n ah bY
   split at h
   ·rename_i ad
    cases h;simp only[Bool.and_eq_true]at ad
    have ax:=uL (G:=G) (e:=e) ad.1
    have hlen:=Nat.eq_of_beq_eq_true ad.2.1
    have lv:c1 (aM G (S.den G N B e) x)=ab.bX G e (S.a8 N x).cells:=by rw[bM hf,ax]
    have:=Ra (P:=P) (G:=G) (s:=S.den G N B e) t p x ao (id:=id) (off:=off) (by rw[bM hf,ak];rfl) (bt:=bt) (cs:=ab.bX G e l) (by simp only[aq.den,eh,ah,Option.map_some,bK.den])
     (vs:=ab.bX G e (S.a8 N x).cells) lv (w7 ad.1) (by rw[lZ,bY,hlen]) (by rw[lZ,lZ,←hlen];exact Nat.le_of_ble_eq_true ad.2.2)
    rw[dk.st,ff];simp only[aq.den,sI,bK.den,ab.den,dk.l]at this⊢;rw[fa,DZ,←fa,←fa];exact this
   ·cases h
  ·cases h
 ·rename_i id i off ak
  split at h
  ·rename_i bt c y n k ah bY hi
   split at h
   ·rename_i ad
    cases h;simp only[Bool.and_eq_true]at ad;obtain⟨fY,⟨hr,gP⟩,sR,xg,An⟩:=ad
    have hlen:=Nat.eq_of_beq_eq_true sR
    obtain⟨g1,g2⟩:=w5 hf hi hn;obtain⟨vs,v1,v2⟩:=Ej (G:=G) (e:=e) fY
    have fF:vs.length=n:=by
     have:=congrArg List.length v2
     rw[lZ,List.length_map]at this;omega
    have lv:c1 (aM G (S.den G N B e) x)=ab.bX G e (S.a8 N x).cells:=by rw[bM hf,uL hr]
    have aP:Env.at e S.k=⟨.st c,List.getD (y.aC e (.li c)) (Int.toNat (i.aC e (.int k))) (av c)⟩:=hx 0 _ rfl
    have aa:Env.at e (S.k+1)=_:=hx 1 _ rfl
    have eM:=Tc g1 g2
    have dH:=Rc (P:=P) (G:=G) (s:=S.den G N B e) t p x ao (id:=id) (i:=(cr (i.dyn e)).toNat) (off:=off) (by rw[bM hf,ak];rfl) (bt:=bt) (n:=b5 c) (es:=List.map (cj c) (y.aC e (.li c))) (by simp only[aq.den,eh,ah,Option.map_some,bK.den])
     (e:=cj c (List.getD (y.aC e (.li c)) (Int.toNat (i.aC e (.int k))) (av c))) (by rw[List.getElem?_map,lD hi,eM];rfl) (by rw[lv];exact v1) (by rw[bY,fF]) (by rw[fF];exact Nat.le_of_ble_eq_true xg)
    refine dH.xf ?_
    rw[dk.st,ff]
    have kP:gh (ej (cj c (List.getD (y.aC e (.li c)) (Int.toNat (i.aC e (.int k))) (av c))) off vs) (cj c (oR c (fX e (eR c) (ej (iV c S.k 0 (eR c)) off (S.a8 N x).cells)))):=by
     have:=zW (G:=G) (e:=e) An
     rw[fa,DZ,←fa,←fa,sC,aP,cI,v2,←DZ]at this;exact L1 this
    have fh:(ab.aQ (.li c) (S.k+1)).aC e (.li c)=List.set (y.aC e (.li c)) (cr (i.dyn e)).toNat (oR c (fX e (eR c) (ej (iV c S.k 0 (eR c)) off (S.a8 N x).cells))):=by
     simp only[ab.aC,ab.fu,ab.dyn,cI,aa,bQ.den,ab.get,ab.cells]
    refine Tq (s:={S.den G N B e with heap:=eQ (S.den G N B e).heap id _}) (h':=cH G e (ju S.h id (.rw bt c (.aQ (.li c) (S.k+1))))) fun gv h8 Ao=>?_
    rw[sI,wg]at Ao;simp only[wg]
    by_cases bh:id=gv
    ·rw[if_pos bh]at Ao⊢
     cases Ao;refine⟨_,rfl,?_⟩
     simp only[bK.den];rw[fh];refine .row bt (b5 c) (by simp) (fun q aN=>?_) (zfC (by rw[lD hi];exact eM) kP)
     obtain⟨z,_,rfl⟩:=List.mem_map.1 aN;exact Dv c z
    ·rw[if_neg bh]at Ao⊢
     exact⟨h8,Ao,.same h8⟩
   ·cases h
  ·cases h
 ·cases h
end
end Go.aO
namespace Go.aO
open Go Go.Lib
section
variable {P:Program}
theorem L5{w:World}(t u ty e:TypeId){i:TypeInfo}(aK:P.underlying t=some (.slice e))(hu:P.underlying u=some .string)(hi:P.info? e=some i)(aS:i.zero=some (.int .u8 0))(iB:i.size=1)(jr:i.bytes=1)
 {v:Value}{n:Nat}{xs:List Value}(db:h6 w e 1 v n xs)(s:ByteArray)(sl:n+s.size≤maxLen)(zB:n+s.size≤140737488355328):
 ∃bp w',(Builtin.append_ #[t,u] ty #[v,.string s]).run P w= .ok bp w'∧h6 w' e 1 bp (n+s.size) (xs++strCells s)∧w.grownBy w' (b9 v)∧(∀k,b9 bp=some k→b9 v=some k∨w.heap.size≤k):=by
 have zjM:n+s.size≤9223372036854775807:=by simp only[maxLen]at sl;omega
 have jI:xs.length=n:=by simpa using db.1
 have hlen:(xs++strCells s).length=(n+s.size)*1:=by rw[List.length_append,jI,strCells_length,Nat.mul_one]
 have grown: ∀(dM:Nat),dM<n+s.size→∀(row:Option Nat),
  h6 (w.drew.alloc (.cells (xs.toArray++(strCells s).toArray++Builtin.zeroCells (Value.int .u8 0).cells (grownCap w (n+s.size) dM e-(n+s.size))) e)) e 1
   (.slice (some ⟨w.heap.size,0,none⟩) (n+s.size) (grownCap w (n+s.size) dM e)) (n+s.size) (xs++strCells s)∧
  w.grownBy (w.drew.alloc (.cells (xs.toArray++(strCells s).toArray++Builtin.zeroCells (Value.int .u8 0).cells (grownCap w (n+s.size) dM e-(n+s.size))) e)) row:=by
  intro dM ao row
  have h4:=grownCap_ge w (n+s.size) dM e
  have h9:grownCap w (n+s.size) dM e≤maxLen:=grownCap_le_maxLen w (n+s.size) dM e sl
  refine⟨⟨hlen,.inr ⟨w.heap.size,_,_,rfl,by omega,heap_alloc_new w.drew _,h4,h9,?_,?_⟩⟩,⟨rfl,rfl,rfl,by simp,fun k aj _=>Go.RowKit.Below.heap_alloc w.drew _ k aj⟩⟩
  ·have iG:(Value.int IntKind.u8 0).cells.size=1:=rfl
   simp only[Array.size_append,List.size_toArray,size_zeroCells,iG,jI,strCells_length];omega
  ·simp only[Array.toList_append,List.append_assoc]
   rw[←List.append_assoc,←hlen];exact List.take_left
 have L6: ∀(m c k:Nat),b9 (.slice (some ⟨w.heap.size,0,none⟩) m c)=some k→b9 v=some k∨w.heap.size≤k:=fun m c k aj=>by
  simp only[b9]at aj
  split at aj
  ·cases aj
  ·simp at aj;exact .inr (by omega)
 rcases db.2 with⟨⟨c,rfl,uf⟩,jq⟩|⟨g,cap,cur,rfl,zC,ah,Ap,h9,dL,lp⟩
 ·subst jq
  have hx:xs=[]:=List.eq_nil_of_length_eq_zero jI
  subst hx
  by_cases hm:s.size=0
  ·have q4:strCells s=[]:=List.eq_nil_of_length_eq_zero (by rw[strCells_length];exact hm)
   have hf:=run_firstCells_string (P:=P) w 1 s
   rw[hm]at hf;refine⟨.slice c 0 0,w,?_,by rw[hm,q4];exact⟨rfl,.inl ⟨⟨c,rfl,uf⟩,rfl⟩⟩,World.grownBy.refl w _,fun k aj=>.inl aj⟩
   cases c<;>simp[Builtin.append_,run_underlying aK,run_underlying hu,sizeOf,typeInfo,hi,iB,Builtin.lenOf,hm,hf,q4,storeCells]
  ·have c2:=grown 0 (by omega) (b9 (.slice c 0 0))
   cases c with
   |none=>
    have ag:=run_append_nil_string (P:=P) w t u ty e i (.int .u8 0) aK hu hi aS s (by omega) (by omega) (by rw[jr];omega)
    simp only[Nat.zero_add,List.nil_append,Array.empty_append]at c2⊢
    have aE:(s.data.map fun b=>Value.int .u8 b.toNat)=(strCells s).toArray:=by
     apply Array.ext';simp[strCells]
    rw[aE]at ag;exact⟨_,_,ag,c2.1,c2.2,L6 _ _⟩
   |some a=>
    have ag:=run_append_grow_string (P:=P) w t u ty e i (.int .u8 0) aK hu hi aS a 0 0 [] (by simp) (by simp) s (by omega) (by omega) (by rw[jr];exact growslice_fits (by omega) (by omega))
    exact⟨_,_,ag,c2.1,c2.2,L6 _ _⟩
 ·by_cases xh:n+s.size≤cap
  ·have ag:=run_append_room_string (P:=P) w t u ty e i aK hu hi iB g n cap cur ah s xh (by omega)
   refine⟨_,_,ag,⟨hlen,.inr ⟨g,cap,_,rfl,zC,setRow_heap w g cur _ e _ ah,xh,h9,?_,?_⟩⟩,⟨rfl,rfl,rfl,by simp,fun k _ aj=>setRow_other w g k _ (fun e=>aj (by simp[b9,e,Nat.ne_of_gt zC]))⟩,fun k aj=>.inl ?_⟩
   ·simp only[List.size_toArray,List.length_append,List.length_take,List.length_drop,Array.length_toList,strCells_length]
    omega
   ·have cL:cur.toList.take n=xs:=by simpa using lp
    rw[cL,←hlen];exact List.take_left
   ·simpa[b9,Nat.ne_of_gt zC]using aj
  ·have holds: ∀j u,xs[j]? =some u→w.cell? ((⟨g,0,none⟩:Addr).add j)=some u:=by
    have hv:w.ownsRow 0 e 1 (.slice (some ⟨g,0,none⟩) n cap) n xs:=⟨db.1,.inr ⟨g,cap,cur,rfl,Nat.zero_le _,ah,Ap,h9,dL,lp⟩⟩
    exact hv.cells (g:=g) rfl
   have ag:=run_append_grow_string (P:=P) w t u ty e i (.int .u8 0) aK hu hi aS ⟨g,0,none⟩ n cap xs (by rw[iB];simpa using jI) holds s (by omega) (by omega) (by rw[jr];exact growslice_fits (by omega) (by omega))
   have c2:=grown cap (by omega) (b9 (.slice (some ⟨g,0,none⟩) n cap))
   exact⟨_,_,ag,c2.1,c2.2,L6 _ _⟩
def eB(b:ByteArray):List Int:=b.data.toList.map fun u=>(u.toNat:Int)
theorem L7{w:World}{ro:Nat→Prop}(b:ByteArray):((eB b).map fun z=>[bb.v (.int .u8 z)]).length=b.size∧∀(j:Nat) (x:bb),((eB b).map fun z=>[bb.v (.int .u8 z)]).flatten[j]? =some x→cZ w ro x ((strCells b).getD j undef):=by
 refine⟨by rw[List.length_map];unfold eB;rw[List.length_map,Array.length_toList];rfl,fun j x af=>?_⟩
 have l2:((eB b).map fun z=>[bb.v (.int .u8 z)]).flatten=(eB b).map fun z=>bb.v (.int .u8 z):=by
  generalize eB b=l
  induction l with
  |nil=>rfl
  |cons y r a7=>simp only[List.map_cons,List.flatten_cons,a7,List.singleton_append]
 rw[l2]at af
 unfold eB at af
 simp only[List.map_map,List.getElem?_map]at af
 obtain⟨u,hu,rfl⟩:=Option.map_eq_some_iff.1 af
 have:(strCells b).getD j undef= .int .u8 (u.toNat:Int):=by
  unfold strCells;simp[List.getD,hu]
 rw[this]
 exact .v _ rfl
variable {G:bd} {s:aU} {o:Oper}
def xi(P:Program)(t u:TypeId):Option TypeId:=
 match P.underlying t,P.underlying u with
 |some (.slice e),some .string=>match P.info? e with
  |some i=>match i.zero with
   |some (.int .u8 0)=>match Nat.beq i.size 1&&Nat.beq i.bytes 1 with
    |true=>some e
    |false=>none
   |_=>none
  |none=>none
 |_,_=>none
theorem L8{t u e:TypeId}(h:xi P t u=some e): ∃i,P.underlying t=some (.slice e)∧P.underlying u=some .string∧P.info? e=some i∧i.zero=some (.int .u8 0)∧i.size=1∧i.bytes=1:=by
 unfold xi at h
 split at h
 ·rename_i aB hu ai
  split at h
  ·rename_i i hi
   split at h
   ·rename_i aS
    split at h
    ·rename_i hc
     cases h;simp only[Bool.and_eq_true]at hc;exact⟨i,hu,ai,hi,aS,Nat.eq_of_beq_eq_true hc.1,Nat.eq_of_beq_eq_true hc.2⟩
    ·cases h
   ·cases h
  ·cases h
 ·cases h
theorem zfE(x y:Operand)(t u:TypeId)(ao:o.op= .call {callee:=.builtin .append,args:=#[x,y],argTypes:=#[t,u]}){e:TypeId}(aK:xi P t u=some e)
 {id:Nat}(hx:aM G s x= .aR id){es:List (List bb)}(bh:aG s.heap id=some (.row false e 1 es))(ad:s.base≤id)(bR:id<s.next)
 {b:ByteArray}(ay:aM G s y= .aw (.v (.string b)))(bY:es.length+b.size≤maxLen∧es.length+b.size≤140737488355328):
 dS P G o s (aU.put ⟨ef id s.c0,(id,.row false e 1 (es++(eB b).map fun z=>[bb.v (.int .u8 z)]))::dz id s.heap,s.next,s.base⟩ o.dst (.aR id)):=by
 intro E a w ⟨β,ro,ag⟩ K Q hK
 obtain⟨i,hu,ai,hi,aS,iB,jr⟩:=L8 aK
 have dr:=ag.heap.dh id _ bh
 cases dr with
 |row _ _ _ xs db cb e1=>
  have lv:a.eval x=β id:=by
   have h:=ag.eval x
   rw[hx]at h;generalize a.eval x=c at h
   cases h with
   |aR _ _ _ ak=>exact ak _ _ _ _ bh
  obtain⟨bp,w',cy,ku,c2,bm⟩:=L5 (P:=P) t u o.type e hu ai hi aS iB jr db b bY.1 bY.2;obtain⟨da,dm⟩:=L7 (w:=w) (ro:=ro) b;unfold Oper.wp;simp only[execOp,ao,resolve,invoke,builtin,Sem.run_bind,Sem.run_pure,Result.andThen_ok,List.map_toArray,List.map_cons,List.map_nil,lv,ag.ee ay,cy]
  have jm: ∀k,k<w.heap.size→b9 (β id)≠some k→w'.heap[k]? =w.heap[k]? :=fun k aj cb=>c2.block k aj (fun e=>cb e.symm)
  have cl: ∀k,ro k→w'.heap[k]? =w.heap[k]? :=fun k aj=>jm k (ag.heap.lt k aj) fun bm=>ag.heap.fk k aj ⟨id,_,bh,rfl,bm⟩
  refine hK _ _ ⟨gQ β id bp,ro,df.put (ag.renew (w':=w') id ad bR bh (.row false e 1 (es++(eB b).map fun z=>[bb.v (.int .u8 z)])) bp c2.os c2.tape c2.output c2.size jm bm rfl ?_) o.dst _ _ ?_⟩
  ·refine .row e 1 _ _ (by rw[dT,List.length_append,da];exact ku) (fun aB iM=>?_) (fun j x af=>?_)
   ·rw[List.mem_append]at iM
    rcases iM with h|h
    ·exact cb _ h
    ·obtain⟨z,_,rfl⟩:=List.mem_map.1 h
     rfl
   ·exact(wz cb db.1 e1 dm j x af).keep cl fun _ h=>h
  ·exact .aR _ _ bR fun z bI cT dR _=>(dT _ _ _).symm
theorem zfF(x y:Operand)(t u:TypeId)(ao:o.op= .call {callee:=.builtin .append,args:=#[x,y],argTypes:=#[t,u]}){e:TypeId}(aK:xi P t u=some e)
 (hx:aM G s x= .aw (.v (.slice none 0 0)))(ad:s.base≤s.next){b:ByteArray}(ay:aM G s y= .aw (.v (.string b)))(bY:b.size≤maxLen∧b.size≤140737488355328):
 dS P G o s ({s with heap:=(s.next,.row false e 1 ((eB b).map fun z=>[bb.v (.int .u8 z)]))::s.heap,next:=s.next+1}.put o.dst (.aR s.next)):=by
 intro E a w ⟨β,ro,ag⟩ K Q hK
 obtain⟨i,hu,ai,hi,aS,iB,jr⟩:=L8 aK
 obtain⟨bp,w',cy,ku,c2,bm⟩:=L5 (P:=P) (w:=w) t u o.type e hu ai hi aS iB jr (v:=.slice none 0 0) (n:=0) (xs:=[]) ⟨by simp,.inl ⟨⟨none,rfl,fun _ h=>(by cases h)⟩,rfl⟩⟩ b (by omega) (by omega)
 obtain⟨da,dm⟩:=L7 (w:=w) (ro:=ro) b
 unfold Oper.wp
 simp only[execOp,ao,resolve,invoke,builtin,Sem.run_bind,Sem.run_pure,Result.andThen_ok,List.map_toArray,List.map_cons,List.map_nil,ag.ee hx,ag.ee ay,cy]
 have jl:aG s.heap s.next=none:=by
  cases ah:aG s.heap s.next with
  |none=>rfl
  |some p=>have:=ag.trans.new _ _ ah;omega
 have hw: ∀b,b<w.heap.size→w'.heap[b]? =w.heap[b]? :=fun b ad=>c2.block b ad (by simp[b9])
 have cl: ∀b,ro b→w'.heap[b]? =w.heap[b]? :=fun b ad=>hw b (ag.heap.lt b ad)
 refine hK _ _ ⟨gQ β s.next bp,ro,df.put (ag.new (w':=w') s.next jl ad (Nat.le_refl _) (.row false e 1 ((eB b).map fun z=>[bb.v (.int .u8 z)])) bp c2.os c2.tape c2.output c2.size hw (fun b ad=>?_) rfl ?_) o.dst _ _ ?_⟩
 ·rcases bm b ad with h|h
  ·simp[b9]at h
  ·exact h
 ·refine .row e 1 _ _ (by rw[dT,da];simpa using ku) (fun aB iM=>?_) (fun j x af=>(dm j x af).keep cl fun _ h=>h)
  obtain⟨z,_,rfl⟩:=List.mem_map.1 iM;rfl
 ·exact .aR _ _ (Nat.lt_succ_self _) fun z bI cT dR _=>(dT _ _ _).symm
end
end Go.aO
namespace Go.aO
open Go Go.Lib
section
variable {P:Program} {G:bd} {s:aU} {E:Entry} {a:Act} {w w':World} {β:Nat→Value} {ro:Nat→Prop}
theorem df.L9(h:df E G s a w β ro)(id:Nat)(ad:s.base≤s.next){t0:TypeId}{n0:Nat}{zy:List (List bb)}(bh:aG s.heap id=some (.row false t0 n0 zy))(o:ei)(val:Value)
 (oC:w'.os=w.os)(oD:w'.tape=w.tape)(kq:w'.output=w.output)(bY:w.heap.size≤w'.heap.size)(hw: ∀b,b<w.heap.size→b9 (β id)≠some b→w'.heap[b]? =w.heap[b]?)
 (gJ: ∀b,b9 val=some b→b9 (β id)=some b∨w.heap.size≤b)(_hlive:o.live=true)
 (dr:kO w' ro ((s.next,o)::dz id s.heap) (gQ β s.next val) (s.next+1) s.next o):
 df E G ⟨ef id s.c0,(s.next,o)::dz id s.heap,s.next+1,s.base⟩ a w' (gQ β s.next val) ro:=by
 have cl: ∀b,ro b→w'.heap[b]? =w.heap[b]? :=fun b ag=>hw b (h.heap.lt b ag) fun ad=>h.heap.fk b ag ⟨id,_,bh,rfl,ad⟩
 have ah: ∀k,k≠s.next→k≠id→aG ((s.next,o)::dz id s.heap) k=(aG s.heap k).map (eu id):=fun k aj eA=>by simp[aG,Ne.symm aj,pW,eA]
 have uc:aG ((s.next,o)::dz id s.heap) s.next=some o:=by simp[aG]
 have zjN:id<s.next:=h.trans.new _ _ bh
 have key: ∀x c,bF w ro s.heap β s.next x c→bF w' ro ((s.next,o)::dz id s.heap) (gQ β s.next val) (s.next+1) (dZ id x) c:=by
  intro x c hx
  induction hx with
  |aw x c hx=>exact .aw x c (hx.keep cl fun _ h=>h)
  |agg cs c ai _ a7=>
   refine .agg _ c (by rw[hY];exact ai) fun j x af=>?_
   obtain⟨y,ay,rfl⟩:=hM id af;exact a7 j y ay
  |tuple cs c ai _ a7=>
   refine .tuple _ c (by rw[hY];exact ai) fun j x af=>?_
   obtain⟨y,ay,rfl⟩:=hM id af;exact a7 j y ay
  |ptr k off c ar ak=>
   simp only[dZ]
   split
   ·exact .top _
   ·rename_i aj
    refine .ptr k off c (by omega) fun t cs bz=>?_
    rw[dc _ _ (show k≠s.next by omega)]
    rw[ah k (by omega) aj]at bz
    cases ai:aG s.heap k with
    |none=>simp[ai]at bz
    |some p=>
     cases p with
     |box bI cs'=>exact ak bI cs' ai
     |row=>simp[ai,eu]at bz
     |bT=>simp[ai,eu]at bz
  |dC k off c ar ak=>
   simp only[dZ]
   split
   ·exact .top _
   ·rename_i aj
    refine .dC k off c (by omega) fun t cs bz=>?_
    rw[dc _ _ (show k≠s.next by omega)]
    rw[ah k (by omega) aj]at bz
    cases ai:aG s.heap k with
    |none=>simp[ai]at bz
    |some p=>
     cases p with
     |box bI cs'=>exact ak bI cs' ai
     |row=>simp[ai,eu]at bz
     |bT=>simp[ai,eu]at bz
  |c6 k i off c ar ak=>
   simp only[dZ]
   split
   ·exact .top _
   ·rename_i aj
    refine .c6 k i off c (by omega) fun z t n es bz=>?_
    rw[dc _ _ (show k≠s.next by omega)]
    rw[ah k (by omega) aj]at bz
    cases ai:aG s.heap k with
    |none=>simp[ai]at bz
    |some p=>
     cases p with
     |box bI cs'=>simp[ai,eu]at bz
     |bT=>simp[ai,eu]at bz
     |row iA bI cT dR=>
      simp only[ai,Option.map_some,eu,Option.some.injEq,ei.row.injEq]at bz;obtain⟨rfl,rfl,rfl,rfl⟩:=bz;exact ak _ _ _ _ ai
  |aR k c ar ak=>
   simp only[dZ]
   split
   ·exact .top _
   ·rename_i aj
    refine .aR k c (by omega) fun z t n es bz=>?_
    rw[dc _ _ (show k≠s.next by omega)]
    rw[ah k (by omega) aj]at bz
    cases ai:aG s.heap k with
    |none=>simp[ai]at bz
    |some p=>
     cases p with
     |box bI cs'=>simp[ai,eu]at bz
     |bT=>simp[ai,eu]at bz
     |row iA bI cT dR=>exact ak _ _ _ _ ai
  |fn f p q c d aa ae _ _ ha hb=>
   refine .fn f _ _ c d (by rw[hY];exact aa) (by rw[hY];exact ae) (fun j x af=>?_) (fun j x af=>?_)
   ·obtain⟨y,ay,rfl⟩:=hM id af
    exact ha j y ay
   ·obtain⟨y,ay,rfl⟩:=hM id af
    exact hb j y ay
  |ref k c ar ak=>
   simp only[dZ]
   split
   ·exact .top _
   ·rename_i aj
    refine .ref k c (by omega) fun bU bz=>?_
    rw[dc _ _ (show k≠s.next by omega)]
    rw[ah k (by omega) aj]at bz
    cases ai:aG s.heap k with
    |none=>simp[ai]at bz
    |some p=>
     cases p with
     |box=>simp[ai,eu]at bz
     |row=>simp[ai,eu]at bz
     |bT ln=>exact ak ln ai
  |top c=>exact .top c
 have dM: ∀k p,k≠s.next→aG ((s.next,o)::dz id s.heap) k=some p→k≠id∧∃q,aG s.heap k=some q∧p=eu id q:=by
  intro k p aj bz
  have bH:k≠id:=fun h=>by
   subst h;simp[aG,Ne.symm aj,pW]at bz
  refine⟨bH,?_⟩
  rw[ah k aj bH]at bz
  cases ai:aG s.heap k with
  |none=>simp[ai]at bz
  |some q=>simp[ai]at bz;exact⟨q,rfl,bz.symm⟩
 refine⟨h.defers,by simpa[hY]using h.size,fun i x hx=>?_,⟨fun k p aj=>?_,fun k bu p gb b aj eA ak gK bm et=>?_,fun b ag=>?_,fun b ag=>Nat.lt_of_lt_of_le (h.heap.lt b ag) bY⟩,
  h.h7.keep cl fun _ h=>h,?_,h.base⟩
 ·obtain⟨y,ay,rfl⟩:=hM id hx
  exact key _ _ (h.slot i y ay)
 ·by_cases bH:k=s.next
  ·subst k
   rw[uc]at aj;simp only[Option.some.injEq]at aj;subst aj;exact dr
  ·obtain⟨hP,q,aN,rfl⟩:=dM k p bH aj
   have gL:=h.heap.dh k q aN
   have cb:q.live=true→∀b,b9 (β k)=some b→w'.heap[b]? =w.heap[b]? :=fun ar b bm=>
    hw b (gL.hG ar bm) fun jK=>hP (h.heap.inj k id q _ b aN bh ar rfl bm jK)
   cases gL with
   |box t cs b arr aa ae au aW=>
    refine .box t _ b arr (by rw[dc _ _ bH];exact aa) ((cb rfl b (by rw[aa];rfl)).trans ae) (by rw[hY];exact au) fun j x af=>?_
    obtain⟨y,ay,rfl⟩:=hM id af;exact key _ _ (aW j y ay)
   |row t n es xs aa ae au=>exact .row t n es xs (by rw[dc _ _ bH];exact aa.keep (fun b ad=>cb rfl b ad) bY) ae fun j x af=>(au j x af).keep cl fun _ h=>h
   |gi t n es aa=>exact .gi t n es (by rw[dc _ _ bH];exact aa.keep cl fun _ h=>h)
   |bT bU b o aa ae au=>exact .bT bU b o (by rw[dc _ _ bH];exact aa) ((cb rfl b aa).trans ae) (by rw[dc _ _ bH];exact bU.mono _ _ _ _ (fun x c h=>h.keep cl fun _ h=>h) au)
 ·by_cases bH:k=s.next
  ·by_cases gM:bu=s.next
   ·rw[bH,gM]
   ·subst k
    rw[dT]at bm;rw[dc _ _ gM]at et;obtain⟨hP,q,aN,rfl⟩:=dM bu gb gM eA;rw[jo]at gK
    have ae:=(h.heap.dh bu q aN).hG gK et
    rcases gJ b bm with aa|aa
    ·exact absurd (h.heap.inj bu id q _ b aN bh gK rfl et aa) hP
    ·omega
  ·obtain⟨hP,q,aN,rfl⟩:=dM k p bH aj
   rw[jo]at ak;rw[dc _ _ bH]at bm
   by_cases gM:bu=s.next
   ·subst bu
    rw[dT]at et
    have ae:=(h.heap.dh k q aN).hG ak bm
    rcases gJ b et with aa|aa
    ·exact absurd (h.heap.inj k id q _ b aN bh ak rfl bm aa) hP
    ·omega
   ·obtain⟨zfG,q',ud,rfl⟩:=dM bu gb gM eA
    rw[jo]at gK;rw[dc _ _ gM]at et;exact h.heap.inj k bu q q' b aN ud ak gK bm et
 ·rintro⟨k,p,aj,ak,bm⟩
  by_cases bH:k=s.next
  ·subst k
   rw[dT]at bm
   rcases gJ b bm with aa|aa
   ·exact h.heap.fk b ag ⟨id,_,bh,rfl,aa⟩
   ·have:=h.heap.lt b ag;omega
  ·obtain⟨hP,q,aN,rfl⟩:=dM k p bH aj
   rw[jo]at ak;rw[dc _ _ bH]at bm;exact h.heap.fk b ag ⟨k,q,aN,ak,bm⟩
 ·have t:=h.trans
  refine⟨oC.trans t.os,oD.trans t.tape,kq.trans t.output,Nat.le_trans t.size bY,fun b hH gk=>?_,t.jk,t.jZ,?_,fun k aj p bz=>?_,fun k p bz=>?_,Nat.le_succ_of_le t.le⟩
  ·by_cases jK:b9 (β id)=some b
   ·rcases t.gZ b ⟨id,_,bh,rfl,jK⟩with hc|hc
    ·exact absurd hc gk
    ·omega
   ·rw[hw b (Nat.lt_of_lt_of_le hH t.size) jK]
    exact t.frame b hH gk
  ·rintro b ⟨k,p,aj,ak,bm⟩
   by_cases bH:k=s.next
   ·subst k
    rw[dT]at bm
    rcases gJ b bm with aa|aa
    ·exact t.gZ b ⟨id,_,bh,rfl,aa⟩
    ·exact .inr (Nat.le_trans t.size aa)
   ·obtain⟨hP,q,aN,rfl⟩:=dM k p bH aj
    rw[jo]at ak;rw[dc _ _ bH]at bm;exact t.gZ b ⟨k,q,aN,ak,bm⟩
  ·have bH:k≠s.next:=by have:=h.base;omega
   obtain⟨hP,q,aN,rfl⟩:=dM k p bH bz;rw[dc _ _ bH];exact t.dM k aj q aN
  ·by_cases bH:k=s.next
   ·subst k;exact Nat.lt_succ_self _
   ·obtain⟨hP,q,aN,rfl⟩:=dM k p bH bz
    exact Nat.lt_succ_of_lt (t.new k q aN)
theorem df.Tr(h:df E G s a w β ro)(id a1:Nat)(ad:s.base≤a1)(bR:a1<s.next){t0:TypeId}{n0:Nat}{zy:List (List bb)}(bh:aG s.heap id=some (.row false t0 n0 zy))(o:ei)(val:Value)
 (oC:w'.os=w.os)(oD:w'.tape=w.tape)(kq:w'.output=w.output)(bY:w.heap.size≤w'.heap.size)(hw: ∀b,b<w.heap.size→b9 (β id)≠some b→w'.heap[b]? =w.heap[b]?)
 (gJ: ∀b,b9 val=some b→b9 (β id)=some b∨w.heap.size≤b)(_hlive:o.live=true)
 (dr:kO w' ro ((a1,o)::dz a1 (dz id s.heap)) (gQ β a1 val) s.next a1 o):
 df E G ⟨ef a1 (ef id s.c0),(a1,o)::dz a1 (dz id s.heap),s.next,s.base⟩ a w' (gQ β a1 val) ro:=by
 have cl: ∀b,ro b→w'.heap[b]? =w.heap[b]? :=fun b ag=>hw b (h.heap.lt b ag) fun ad=>h.heap.fk b ag ⟨id,_,bh,rfl,ad⟩
 have ah: ∀k,k≠a1→k≠id→aG ((a1,o)::dz a1 (dz id s.heap)) k=((aG s.heap k).map (eu id)).map (eu a1):=fun k aj eA=>by simp[aG,Ne.symm aj,pW,aj,eA]
 have uc:aG ((a1,o)::dz a1 (dz id s.heap)) a1=some o:=by simp[aG]
 have key: ∀x c,bF w ro s.heap β s.next x c→bF w' ro ((a1,o)::dz a1 (dz id s.heap)) (gQ β a1 val) s.next (dZ a1 (dZ id x)) c:=by
  intro x c hx
  induction hx with
  |aw x c hx=>exact .aw x c (hx.keep cl fun _ h=>h)
  |agg cs c ai _ a7=>
   refine .agg _ c (by rw[hY,hY];exact ai) fun j x af=>?_
   obtain⟨z,aS,rfl⟩:=hM a1 af;obtain⟨y,ay,rfl⟩:=hM id aS;exact a7 j y ay
  |tuple cs c ai _ a7=>
   refine .tuple _ c (by rw[hY,hY];exact ai) fun j x af=>?_
   obtain⟨z,aS,rfl⟩:=hM a1 af;obtain⟨y,ay,rfl⟩:=hM id aS;exact a7 j y ay
  |ptr k off c ar ak=>
   by_cases aj:k=id
   ·simp only[dZ,aj,if_true]
    exact .top _
   by_cases fV:k=a1
   ·simp only[dZ,if_neg aj,if_neg (fV ▸ aj),fV,if_true]
    exact .top _
   ·simp only[dZ,if_neg aj,if_neg fV]
    refine .ptr k off c ar fun t cs bz=>?_
    rw[dc _ _ fV];rw[ah k fV aj]at bz
    cases ai:aG s.heap k with
    |none=>simp[ai]at bz
    |some p=>
     cases p with
     |box bI cs'=>exact ak bI cs' ai
     |row=>simp[ai,eu]at bz
     |bT=>simp[ai,eu]at bz
  |dC k off c ar ak=>
   by_cases aj:k=id
   ·simp only[dZ,aj,if_true]
    exact .top _
   by_cases fV:k=a1
   ·simp only[dZ,if_neg aj,if_neg (fV ▸ aj),fV,if_true]
    exact .top _
   ·simp only[dZ,if_neg aj,if_neg fV]
    refine .dC k off c ar fun t cs bz=>?_
    rw[dc _ _ fV];rw[ah k fV aj]at bz
    cases ai:aG s.heap k with
    |none=>simp[ai]at bz
    |some p=>
     cases p with
     |box bI cs'=>exact ak bI cs' ai
     |row=>simp[ai,eu]at bz
     |bT=>simp[ai,eu]at bz
  |c6 k i off c ar ak=>
   by_cases aj:k=id
   ·simp only[dZ,aj,if_true]
    exact .top _
   by_cases fV:k=a1
   ·simp only[dZ,if_neg aj,if_neg (fV ▸ aj),fV,if_true]
    exact .top _
   ·simp only[dZ,if_neg aj,if_neg fV]
    refine .c6 k i off c ar fun z t n es bz=>?_
    rw[dc _ _ fV];rw[ah k fV aj]at bz
    cases ai:aG s.heap k with
    |none=>simp[ai]at bz
    |some p=>
     cases p with
     |box bI cs'=>simp[ai,eu]at bz
     |bT=>simp[ai,eu]at bz
     |row iA bI cT dR=>
      simp only[ai,Option.map_some,eu,Option.some.injEq,ei.row.injEq]at bz;obtain⟨rfl,rfl,rfl,rfl⟩:=bz;exact ak _ _ _ _ ai
  |aR k c ar ak=>
   by_cases aj:k=id
   ·simp only[dZ,aj,if_true]
    exact .top _
   by_cases fV:k=a1
   ·simp only[dZ,if_neg aj,if_neg (fV ▸ aj),fV,if_true]
    exact .top _
   ·simp only[dZ,if_neg aj,if_neg fV]
    refine .aR k c ar fun z t n es bz=>?_
    rw[dc _ _ fV];rw[ah k fV aj]at bz
    cases ai:aG s.heap k with
    |none=>simp[ai]at bz
    |some p=>
     cases p with
     |box bI cs'=>simp[ai,eu]at bz
     |bT=>simp[ai,eu]at bz
     |row iA bI cT dR=>exact ak _ _ _ _ ai
  |fn f p q c d aa ae _ _ ha hb=>
   refine .fn f _ _ c d (by rw[hY,hY];exact aa) (by rw[hY,hY];exact ae) (fun j x af=>?_) (fun j x af=>?_)
   ·obtain⟨z,aS,rfl⟩:=hM a1 af
    obtain⟨y,ay,rfl⟩:=hM id aS;exact ha j y ay
   ·obtain⟨z,aS,rfl⟩:=hM a1 af
    obtain⟨y,ay,rfl⟩:=hM id aS;exact hb j y ay
  |ref k c ar ak=>
   by_cases aj:k=id
   ·simp only[dZ,aj,if_true]
    exact .top _
   by_cases fV:k=a1
   ·simp only[dZ,if_neg aj,if_neg (fV ▸ aj),fV,if_true]
    exact .top _
   ·simp only[dZ,if_neg aj,if_neg fV]
    refine .ref k c ar fun bU bz=>?_
    rw[dc _ _ fV];rw[ah k fV aj]at bz
    cases ai:aG s.heap k with
    |none=>simp[ai]at bz
    |some p=>
     cases p with
     |box=>simp[ai,eu]at bz
     |row=>simp[ai,eu]at bz
     |bT ln=>exact ak ln ai
  |top c=>exact .top c
 have dM: ∀k p,k≠a1→aG ((a1,o)::dz a1 (dz id s.heap)) k=some p→k≠id∧∃q,aG s.heap k=some q∧p=eu a1 (eu id q):=by
  intro k p aj bz
  have bH:k≠id:=fun h=>by
   subst h;simp[aG,Ne.symm aj,pW,aj]at bz
  refine⟨bH,?_⟩
  rw[ah k aj bH]at bz
  cases ai:aG s.heap k with
  |none=>simp[ai]at bz
  |some q=>simp[ai]at bz;exact⟨q,rfl,bz.symm⟩
 refine⟨h.defers,by simpa[hY]using h.size,fun i x hx=>?_,⟨fun k p aj=>?_,fun k bu p gb b aj eA ak gK bm et=>?_,fun b ag=>?_,fun b ag=>Nat.lt_of_lt_of_le (h.heap.lt b ag) bY⟩,
  h.h7.keep cl fun _ h=>h,?_,h.base⟩
 ·obtain⟨z,aS,rfl⟩:=hM a1 hx
  obtain⟨y,ay,rfl⟩:=hM id aS;exact key _ _ (h.slot i y ay)
 ·by_cases bH:k=a1
  ·subst k
   rw[uc]at aj;simp only[Option.some.injEq]at aj;subst aj;exact dr
  ·obtain⟨hP,q,aN,rfl⟩:=dM k p bH aj
   have gL:=h.heap.dh k q aN
   have cb:q.live=true→∀b,b9 (β k)=some b→w'.heap[b]? =w.heap[b]? :=fun ar b bm=>
    hw b (gL.hG ar bm) fun jK=>hP (h.heap.inj k id q _ b aN bh ar rfl bm jK)
   cases gL with
   |box t cs b arr aa ae au aW=>
    refine .box t _ b arr (by rw[dc _ _ bH];exact aa) ((cb rfl b (by rw[aa];rfl)).trans ae) (by rw[hY,hY];exact au) fun j x af=>?_
    obtain⟨z,aS,rfl⟩:=hM a1 af;obtain⟨y,ay,rfl⟩:=hM id aS;exact key _ _ (aW j y ay)
   |row t n es xs aa ae au=>exact .row t n es xs (by rw[dc _ _ bH];exact aa.keep (fun b ad=>cb rfl b ad) bY) ae fun j x af=>(au j x af).keep cl fun _ h=>h
   |gi t n es aa=>exact .gi t n es (by rw[dc _ _ bH];exact aa.keep cl fun _ h=>h)
   |bT bU b o aa ae au=>exact .bT bU b o (by rw[dc _ _ bH];exact aa) ((cb rfl b aa).trans ae) (by rw[dc _ _ bH];exact bU.mono _ _ _ _ (fun x c h=>h.keep cl fun _ h=>h) au)
 ·by_cases bH:k=a1
  ·by_cases gM:bu=a1
   ·rw[bH,gM]
   ·subst k
    rw[dT]at bm;rw[dc _ _ gM]at et;obtain⟨hP,q,aN,rfl⟩:=dM bu gb gM eA;rw[jo,jo]at gK
    have ae:=(h.heap.dh bu q aN).hG gK et
    rcases gJ b bm with aa|aa
    ·exact absurd (h.heap.inj bu id q _ b aN bh gK rfl et aa) hP
    ·omega
  ·obtain⟨hP,q,aN,rfl⟩:=dM k p bH aj
   rw[jo,jo]at ak;rw[dc _ _ bH]at bm
   by_cases gM:bu=a1
   ·subst bu
    rw[dT]at et
    have ae:=(h.heap.dh k q aN).hG ak bm
    rcases gJ b et with aa|aa
    ·exact absurd (h.heap.inj k id q _ b aN bh ak rfl bm aa) hP
    ·omega
   ·obtain⟨zfG,q',ud,rfl⟩:=dM bu gb gM eA
    rw[jo,jo]at gK;rw[dc _ _ gM]at et;exact h.heap.inj k bu q q' b aN ud ak gK bm et
 ·rintro⟨k,p,aj,ak,bm⟩
  by_cases bH:k=a1
  ·subst k
   rw[dT]at bm
   rcases gJ b bm with aa|aa
   ·exact h.heap.fk b ag ⟨id,_,bh,rfl,aa⟩
   ·have:=h.heap.lt b ag;omega
  ·obtain⟨hP,q,aN,rfl⟩:=dM k p bH aj
   rw[jo,jo]at ak;rw[dc _ _ bH]at bm;exact h.heap.fk b ag ⟨k,q,aN,ak,bm⟩
 ·have t:=h.trans
  refine⟨oC.trans t.os,oD.trans t.tape,kq.trans t.output,Nat.le_trans t.size bY,fun b hH gk=>?_,t.jk,t.jZ,?_,fun k aj p bz=>?_,fun k p bz=>?_,t.le⟩
  ·by_cases jK:b9 (β id)=some b
   ·rcases t.gZ b ⟨id,_,bh,rfl,jK⟩with hc|hc
    ·exact absurd hc gk
    ·omega
   ·rw[hw b (Nat.lt_of_lt_of_le hH t.size) jK]
    exact t.frame b hH gk
  ·rintro b ⟨k,p,aj,ak,bm⟩
   by_cases bH:k=a1
   ·subst k
    rw[dT]at bm
    rcases gJ b bm with aa|aa
    ·exact t.gZ b ⟨id,_,bh,rfl,aa⟩
    ·exact .inr (Nat.le_trans t.size aa)
   ·obtain⟨hP,q,aN,rfl⟩:=dM k p bH aj
    rw[jo,jo]at ak;rw[dc _ _ bH]at bm;exact t.gZ b ⟨k,q,aN,ak,bm⟩
  ·have bH:k≠a1:=by have:=h.base;omega
   obtain⟨hP,q,aN,rfl⟩:=dM k p bH bz;rw[dc _ _ bH];exact t.dM k aj q aN
  ·by_cases bH:k=a1
   ·subst k;exact bR
   ·obtain⟨hP,q,aN,rfl⟩:=dM k p bH bz
    exact t.new k q aN
end
section
variable {P:Program} {G:bd} {o:Oper} {s:aU}
theorem zfH(x y:Operand)(t:TypeId)(ao:o.op= .call {callee:=.builtin .append,args:=#[x,y],argTypes:=#[t,t]}){e n bytes:Nat}(aK:pX P t=some (e,n,bytes))
 {id:Nat}(hx:aM G s x= .aR id){es:List (List bb)}(bh:aG s.heap id=some (.row false e n es))(ad:s.base≤s.next)
 {fs:List (List bb)}(ay:fy s.heap n (aM G s y)=some fs)(bY:es.length+fs.length≤maxLen∧(es.length+fs.length)*bytes≤140737488355328):
 dS P G o s (aU.put ⟨ef id s.c0,(s.next,.row false e n (es++fs))::dz id s.heap,s.next+1,s.base⟩ o.dst (.aR s.next)):=by
 intro E a w ⟨β,ro,ag⟩ K Q hK
 obtain⟨i,z,hu,hi,aS,iB,jr,fe,hn⟩:=pK aK
 obtain⟨b,cap,hc,ma,oL,f,hZ,oM⟩:=wy ag.heap (ag.eval y) ay
 have dr:=ag.heap.dh id _ bh
 cases dr with
 |row _ _ _ xs db cb e1=>
  have lv:a.eval x=β id:=by
   have h:=ag.eval x
   rw[hx]at h;generalize a.eval x=c at h
   cases h with
   |aR _ _ _ ak=>exact ak _ _ _ _ bh
  obtain⟨nF,oN,q5⟩:=zD ma oM
  obtain⟨bp,w',cy,ku,c2,bm⟩:=Dj (P:=P) t o.type e hu hi aS iB jr fe hn db (b:=b) (m:=fs.length) (cap:=cap) nF (fun ad=>by rw[oL ad];rfl)
   (fun bf ba j u af=>by
    have cU:=(List.getElem?_eq_some_iff.1 af).1
    rw[nF]at cU
    have aa:=hZ bf ba j cU
    simp[cU]at af
    rw[aa,af]) oN bY.1 bY.2
  unfold Oper.wp;simp only[execOp,ao,resolve,invoke,builtin,Sem.run_bind,Sem.run_pure,Result.andThen_ok,List.map_toArray,List.map_cons,List.map_nil,lv,hc,cy]
  have jm: ∀k,k<w.heap.size→b9 (β id)≠some k→w'.heap[k]? =w.heap[k]? :=fun k aj cb=>c2.block k aj (fun e=>cb e.symm)
  have cl: ∀k,ro k→w'.heap[k]? =w.heap[k]? :=fun k aj=>jm k (ag.heap.lt k aj) fun bm=>ag.heap.fk k aj ⟨id,_,bh,rfl,bm⟩
  refine hK _ _ ⟨gQ β s.next bp,ro,df.put (ag.L9 (w':=w') id ad bh (.row false e n (es++fs)) bp c2.os c2.tape c2.output c2.size jm bm rfl ?_) o.dst _ _ ?_⟩
  ·refine .row e n _ _ (by rw[dT,List.length_append];exact ku) (fun aB iM=>?_) (fun j x af=>?_)
   ·rw[List.mem_append]at iM
    rcases iM with h|h
    ·exact cb _ h
    ·exact ma _ h
   ·exact(wz cb db.1 e1 q5 j x af).keep cl fun _ h=>h
  ·exact .aR _ _ (Nat.lt_succ_self _) fun z bI cT dR _=>(dT _ _ _).symm
theorem zfI(x y:Operand)(t u:TypeId)(ao:o.op= .call {callee:=.builtin .append,args:=#[x,y],argTypes:=#[t,u]}){e:TypeId}(aK:xi P t u=some e)
 {id:Nat}(hx:aM G s x= .aR id){es:List (List bb)}(bh:aG s.heap id=some (.row false e 1 es))(ad:s.base≤s.next)
 {b:ByteArray}(ay:aM G s y= .aw (.v (.string b)))(bY:es.length+b.size≤maxLen∧es.length+b.size≤140737488355328):
 dS P G o s (aU.put ⟨ef id s.c0,(s.next,.row false e 1 (es++(eB b).map fun z=>[bb.v (.int .u8 z)]))::dz id s.heap,s.next+1,s.base⟩ o.dst (.aR s.next)):=by
 intro E a w ⟨β,ro,ag⟩ K Q hK
 obtain⟨i,hu,ai,hi,aS,iB,jr⟩:=L8 aK
 have dr:=ag.heap.dh id _ bh
 cases dr with
 |row _ _ _ xs db cb e1=>
  have lv:a.eval x=β id:=by
   have h:=ag.eval x
   rw[hx]at h;generalize a.eval x=c at h
   cases h with
   |aR _ _ _ ak=>exact ak _ _ _ _ bh
  obtain⟨bp,w',cy,ku,c2,bm⟩:=L5 (P:=P) t u o.type e hu ai hi aS iB jr db b bY.1 bY.2;obtain⟨da,dm⟩:=L7 (w:=w) (ro:=ro) b;unfold Oper.wp;simp only[execOp,ao,resolve,invoke,builtin,Sem.run_bind,Sem.run_pure,Result.andThen_ok,List.map_toArray,List.map_cons,List.map_nil,lv,ag.ee ay,cy]
  have jm: ∀k,k<w.heap.size→b9 (β id)≠some k→w'.heap[k]? =w.heap[k]? :=fun k aj cb=>c2.block k aj (fun e=>cb e.symm)
  have cl: ∀k,ro k→w'.heap[k]? =w.heap[k]? :=fun k aj=>jm k (ag.heap.lt k aj) fun bm=>ag.heap.fk k aj ⟨id,_,bh,rfl,bm⟩
  refine hK _ _ ⟨gQ β s.next bp,ro,df.put (ag.L9 (w':=w') id ad bh (.row false e 1 (es++(eB b).map fun z=>[bb.v (.int .u8 z)])) bp c2.os c2.tape c2.output c2.size jm bm rfl ?_) o.dst _ _ ?_⟩
  ·refine .row e 1 _ _ (by rw[dT,List.length_append,da];exact ku) (fun aB iM=>?_) (fun j x af=>?_)
   ·rw[List.mem_append]at iM
    rcases iM with h|h
    ·exact cb _ h
    ·obtain⟨z,_,rfl⟩:=List.mem_map.1 h
     rfl
   ·exact(wz cb db.1 e1 dm j x af).keep cl fun _ h=>h
  ·exact .aR _ _ (Nat.lt_succ_self _) fun z bI cT dR _=>(dT _ _ _).symm
end
section
theorem cu.zfJ{s bC:aU}(id off m k gN n:Nat){t:TypeId}{cs:List aF}{es:List (List bb)}(bh:aG s.heap id=some (.box t cs))(hm:aG s.heap m=some (.row false gN n es))(hc:cs[off]? =some (.aR m))(ad:s.base≤k)(bR:k<s.next)(qI:id≠k)
 (h:(⟨ef k (ef m s.c0),eQ ((k,.row false gN n es)::dz k (dz m s.heap)) id (.box t ((ef k (ef m cs)).set off (.aR k))),s.next,s.base⟩:aU)=bC):cu s bC:=by
 subst h
 intro E G a w ⟨β,ro,ag⟩
 have zfK:id≠m:=fun h=>by rw[h,hm]at bh;cases bh
 have Ma:=ag.heap.dh m _ hm
 have fh:=ag.Tr (w':=w) m k ad bR hm (.row false gN n es) (β m) rfl rfl rfl (Nat.le_refl _) (fun _ _ _=>rfl) (fun _ ad=>.inl ad) rfl (by
  cases Ma with
  |row _ _ _ xs aa ae au=>exact .row gN n es xs (by rw[dT];exact aa) ae au)
 have uC:aG ((k,.row false gN n es)::dz k (dz m s.heap)) id=some (.box t (ef k (ef m cs))):=by
  simp only[aG,if_neg (Ne.symm qI),pW,if_neg qI,if_neg zfK,bh,Option.map_some,eu]
 have dr:=fh.heap.dh id _ uC
 have zfL:=ag.heap.dh id _ bh
 cases zfL with
 |box _ _ nR Mb g1 g2 g3 g4=>
  cases dr with
  |box _ _ b arr aa ae au aW=>
   have so:=aa
   rw[dc _ _ qI,g1]at so
   have zfM:nR=b:=by simpa using so
   subst zfM
   have rq:Mb=arr:=by
    have:=g2.symm.trans ae
    simpa using this
   subst rq;refine⟨_,ro,fh.write id _ _ uC rfl rfl (.inl ⟨_,_,_,rfl,rfl⟩) rfl rfl rfl (Nat.le_refl _) (fun _ _ _=>rfl) (.box t _ nR Mb aa ae (by rw[au,List.length_set]) fun j x af=>?_)⟩
   rw[List.getElem?_set]at af
   split at af
   ·rename_i aE
    subst aE
    split at af
    ·simp only[Option.some.injEq]at af
     subst af
     have ax:=g4 off _ hc
     generalize Mb.getD off undef=bl at ax⊢
     cases ax with
     |aR _ _ _ ak=>
      refine .aR _ _ bR fun z bI cT dR _=>?_
      rw[ak _ _ _ _ hm];exact(dT _ _ _).symm
    ·cases af
   ·exact Kd uC (aW j x af) fun _ _=>rfl
end
end Go.aO
