/- TD, part K: calls that see all own blocks. Conditions: none. -/
import Derived.Test.YtmkpmgfieagphaaGreatDoorQTDj
import Derived.Test.YtmkpmgfieagphaaGreatDoorQSMu
import Derived.Test.YtmkpmgfieagphaaGreatDoorQTDa
import Derived.Lib.AppendStr
namespace Go.aK
open Go
def Dk:eg→eg→Prop
 | .box _ _,.box _ _=>True
 | .row _ _ n _,.row _ _ m _=>n=m
 | .bK _,.bK _=>True
 |_,_=>False
section
variable {w w':World} {ro ro':Nat→Prop} {σ eU:Heap} {β dK:Nat→Value} {N oh:Nat}
theorem bp.move{x:aC}{c:Value}(h:bp w ro σ β N x c)(hw: ∀b,ro b→w'.heap[b]? =w.heap[b]?)(cc: ∀b,ro b→ro' b)(ob:N≤oh)
 (aj: ∀id o,id<N→aD eU id=some o→dK id=β id∧∃cy,aD σ id=some cy∧Dk cy o):bp w' ro' eU dK oh x c:=by
 induction h with
 |au x c hx=>exact .au x c (hx.keep hw cc)
 |agg cs c ai _ aZ=>exact .agg cs c ai aZ
 |tuple cs c ai _ aZ=>exact .tuple cs c ai aZ
 |ptr id off c ar ak=>
  refine .ptr id off c (by omega) fun t cs ah=>?_
  obtain⟨ad,cy,dU,ai⟩:=aj id _ ar ah
  cases cy with
  |box bz cs'=>
   obtain⟨b,aa,ae⟩:=ak bz cs' dU;exact⟨b,ad.trans aa,ae⟩
  |_=>exact ai.elim
 |dx id off c ar ak=>
  refine .dx id off c (by omega) fun t cs ah=>?_
  obtain⟨ad,cy,dU,ai⟩:=aj id _ ar ah
  cases cy with
  |box bz cs'=>
   obtain⟨b,aa,ae⟩:=ak bz cs' dU;exact⟨b,ad.trans aa,ae⟩
  |_=>exact ai.elim
 |cV id i off c ar ak=>
  refine .cV id i off c (by omega) fun z t n es ah=>?_
  obtain⟨ad,cy,dU,ai⟩:=aj id _ ar ah
  cases cy with
  |row ij bz cH dN=>
   have ai:cH=n:=ai
   subst ai;obtain⟨b,l,hT,aa,ae⟩:=ak ij bz cH dN dU;exact⟨b,l,hT,ad.trans aa,ae⟩
  |_=>exact ai.elim
 |aM id c ar ak=>
  refine .aM id c (by omega) fun z t n es ah=>?_
  obtain⟨ad,cy,dU,ai⟩:=aj id _ ar ah
  cases cy with
  |row ij bz cH dN=>rw[ad];exact ak ij bz cH dN dU
  |_=>exact ai.elim
 |fn f p q c d aa ae _ _ gZ ha=>exact .fn f p q c d aa ae gZ ha
 |ref id c ar ak=>
  refine .ref id c (by omega) fun bM ah=>?_
  obtain⟨ad,cy,dU,ai⟩:=aj id _ ar ah
  cases cy with
  |bK lb=>rw[ad];exact ak lb dU
  |_=>exact ai.elim
 |top c=>exact .top c
end
section
variable {P:Program} {G:a8} {s:aO} {E:Entry} {a:Act} {w w':World} {β:Nat→Value} {ro:Nat→Prop}
variable {o:Oper}
theorem RV{x:Operand}{xs:Array Operand}{f:Fn}{p q:List aC}{c d:Array Value}(h:c3 E G s a w β ro)(aa:c.size=p.length)(ae:d.size=q.length)(j5: ∀(j:Nat) (x:aC),p[j]? =some x→bp w ro s.heap β s.next x (c.getD j undef))(uw: ∀(j:Nat) (x:aC),q[j]? =some x→bp w ro s.heap β s.next x (d.getD j undef)):
 ∀(i:Nat) (y:aC),(p++xs.toList.map (aI G s)++q)[i]? =some y→bp w ro s.heap β s.next y ((c++xs.map a.eval++d).getD i undef):=fun i y ax=>by
 rw[Array.getD_eq_getD_getElem?]
 rcases Nat.lt_or_ge i (p.length+xs.size)with hi|hi
 ·rw[List.getElem?_append_left (by simpa using hi)]at ax
  rw[Array.getElem?_append_left (by simpa[aa]using hi)]
  rcases Nat.lt_or_ge i p.length with l4|l4
  ·rw[List.getElem?_append_left l4]at ax
   rw[Array.getElem?_append_left (by omega),←Array.getD_eq_getD_getElem?]
   exact j5 i y ax
  ·rw[List.getElem?_append_right l4,List.getElem?_map]at ax
   rw[Array.getElem?_append_right (by omega),aa]
   cases aV:xs.toList[i-p.length]? with
   |none=>simp[aV]at ax
   |some z=>
    simp only[aV,Option.map_some,Option.some.injEq]at ax;subst ax
    have oF:xs[i-p.length]? =some z:=by simpa using aV
    simp only[Array.getElem?_map,oF,Option.map_some,Option.getD_some]
    exact h.eval z
 ·rw[List.getElem?_append_right (by simpa using hi)]at ax
  rw[Array.getElem?_append_right (by simpa[aa]using hi),←Array.getD_eq_getD_getElem?]
  have:=uw _ y ax
  simpa[aa]using this
def ux(P:Program)(G:a8)(o:Oper)(s:aO)(f:FuncId)(p q:List aC)(xs:Array Operand):Prop:=
 ∀E a w β ro,c3 E G s a w β ro→∃c d:Array Value,c.size=p.length∧d.size=q.length∧(∀(j:Nat) (x:aC),p[j]? =some x→bp w ro s.heap β s.next x (c.getD j undef))∧(∀(j:Nat) (x:aC),q[j]? =some x→bp w ro s.heap β s.next x (d.getD j undef))∧
  ∀dk,(execOp a.eval o).run P dk=(callFunc f (c++xs.map a.eval++d)).run P dk
theorem ux.value{x:Operand}{xs:Array Operand}{ts:Array TypeId}(an:o.op= .call {callee:=.value x,args:=xs,argTypes:=ts}){f:FuncId}{p q:List aC}(hx:aI G s x= .fn (.func f) p q):ux P G o s f p q xs:=by
 intro E a w β ro h
 have lg:=h.eval x
 rw[hx]at lg
 generalize he:a.eval x=IQ at lg
 cases lg with
 |fn _ _ _ c d aa ae j5 uw=>
  refine⟨c,d,aa,ae,j5,uw,fun dk=>?_⟩
  simp only[execOp,an,resolve,he,Deferred.ofValue,Sem.run_bind,Sem.run_pure,Result.andThen_ok,invoke]
def methodOf(P:Program)(t:TypeId)(name:String):Option Nat:=
 match P.info? t,P.underlying t with
 |some i,some d=>match i.methods.find? (·.name==name),(match d with
  | .pointer _=>false
  |_=>true)with
  |some m,true=>match m.path.isEmpty,m.func with
   |true,some (f,false)=>some f
   |_,_=>none
  |_,_=>none
 |_,_=>none
theorem zd2{t:TypeId}{name:String}{f:Nat}(h:methodOf P t name=some f)(v:Value)(n:Nat)(w:World):(method (n+1) t v name).run P w= .ok (f,v) w:=by
 unfold methodOf at h
 split at h
 ·rename_i i d hi hd
  split at h
  ·rename_i m hm ak
   split at h
   ·rename_i g qJ lQ
    cases h
    have qS:m.path.toList=[]:=by
     have:=Array.isEmpty_iff.1 qJ
     rw[this]
    unfold method;simp only[Sem.run_bind,typeInfo,hi,Sem.run_pure,Result.andThen_ok,hm,qS,follow,lQ]
    cases d<;>first|(cases ak;done)|simp[receiverAt,run_underlying hd,Place.get,Result.andThen,typeInfo,hi,hm,qS,follow,lQ]
   ·cases h
  ·cases h
 ·cases h
theorem ux.invoke{y:aC}{x:Operand}{xs:Array Operand}{ts:Array TypeId}{name:String}(an:o.op= .call {callee:=.invoke x name,args:=xs,argTypes:=ts}){t:TypeId}{f:Nat}(hm:methodOf P t name=some f)
 (aw: ∀E a w β ro,c3 E G s a w β ro→∃v,a.eval x= .iface t v∧bp w ro s.heap β s.next y v):ux P G o s f [y] [] xs:=by
 intro E a w β ro h
 obtain⟨v,he,ag⟩:=aw E a w β ro h
 refine⟨#[v],#[],rfl,rfl,fun j z af=>?_,fun j z af=>by simp at af,fun dk=>?_⟩
 ·cases j with
  |zero=>simp at af;subst af;exact ag
  |succ j=>simp at af
 ·have hex:(#[Value.iface t v]++xs.map a.eval).extract 1 (#[Value.iface t v]++xs.map a.eval).size=xs.map a.eval:=by
   apply Array.ext';simp only[Array.toList_extract,Array.toList_append,Array.size_append];simp[List.extract];exact List.take_of_length_le (by simp)
  have zd3:=fun n=>zd2 (P:=P) hm v n dk
  have hd:P.types.size+Made.depth=(P.types.size+99)+1:=rfl
  simp only[execOp,an,resolve,he,Sem.run_bind,Sem.run_pure,Result.andThen_ok,Go.invoke]
  have aP:(#[Value.iface t v]++xs.map a.eval)[0]? =some (.iface t v):=by rw[Array.getElem?_append_left (by show 0<1;decide)];rfl
  rw[hex,aP]
  have ak: ∀k:Program→Sem Next,((program >>= k):Sem Next).run P dk=(k P).run P dk:=fun k=>rfl
  show((program >>= fun y8=>method (y8.types.size+Made.depth) t v name >>= fun x=>callFunc x.1 (#[x.2]++xs.map a.eval)):Sem Next).run P dk=_;rw[ak,Sem.run_bind,hd,zd3,Result.andThen_ok,Array.append_empty]
theorem zd4{xs:Array Operand}{f:FuncId}{p q:List aC}(uy:ux P G o s f p q xs)(gz:mE P f=true)
 {R:aC→Heap→Prop}(hc:dE P G f (p++xs.toList.map (aI G s)++q) s.heap s.next R){bn:aO→Prop}
 (fQ: ∀r bU,R r bU→∃m,s.next≤m∧gy m r=true∧kQ m bU=true∧(∀id o,id<s.next→aD bU id=some o→∃cy,aD s.heap id=some cy∧Dk cy o)∧bn (aO.put ⟨s.cO,bU,m,s.base⟩ o.dst r)):
 ∀(E:Entry) (a:Act) (w:World),Rel E G s a w→∀(K:Act→World→Prop) (Q:Exit→Act→World→Prop),(∀t,bn t→∀bc w',Rel E G t bc w'→K bc w')→o.wp P a w K Q:=by
 intro E a w ⟨β,ro,h⟩ K Q hK
 obtain⟨c,d,aa,ae,j5,uw,cn⟩:=uy E a w β ro h
 ·unfold Oper.wp
  rw[cn w,Cf gz]
  have hb:=hc w β ro (c++xs.map a.eval++d) (by simp[aa,ae,Nat.add_assoc]) (RV (x:=.const undef) (f:=.func f) h aa ae j5 uw) h.heap h.h3 h.trans.new
  refine Calls.mono hb fun e w' aJ=>?_
  obtain⟨v,r,bU,dK,ro',cH,rfl,ag,dy,hG,cD⟩:=aJ;obtain⟨m,hm,zd5,RX,yD,eW⟩:=fQ r bU ag
  have hw: ∀b,ro b→w'.heap[b]? =w.heap[b]? :=fun b ad=>cD.frame b (h.heap.lt b ad) (h.heap.fe b ad)
  have cc: ∀b,ro b→ro' b:=cD.jR
  have aj: ∀id o,id<s.next→aD bU id=some o→dK id=β id∧∃cy,aD s.heap id=some cy∧Dk cy o:=fun id o bI ah=>⟨(cD.dJ id bI o ah).2,yD id o bI ah⟩
  have fb:c3 E G ⟨s.cO,bU,m,s.base⟩ a w' dK ro':=by
   refine⟨h.defers,h.size,fun i x hx=>(h.slot i x hx).move hw cc hm aj,⟨fun id o ah=>?_,hG.inj,hG.fe,hG.lt⟩,h.h3.keep hw cc,?_,h.base⟩
   ·obtain⟨_,yP⟩:=qP RX ah
    cases hG.c6 id o ah with
    |box t cs b arr aA bh ct e1=>exact .box t cs b arr aA bh ct fun j x af=>(e1 j x af).lower (qO (yP t cs rfl) af)
    |row t n es xs aA bh ct=>exact .row t n es xs aA bh ct
    |gb t n es aA=>exact .gb t n es aA
    |bK bM b o aA bh ct=>exact .bK bM b o aA bh ct
   ·have t:=h.trans
    refine⟨cD.os.trans t.os,cD.tape.trans t.tape,cD.output.trans t.output,Nat.le_trans t.size cD.size,fun b ad hn=>?_,fun b ad=>?_,fun b ad=>cc b (t.jR b ad),fun b ad=>?_,fun id bI o ah=>?_,fun id o ah=>(qP RX ah).1,Nat.le_trans t.le hm⟩
    ·rw[←t.frame b ad hn]
     refine cD.frame b (Nat.lt_of_lt_of_le ad t.size) fun hs=>?_
     rcases t.gY b hs with q|q
     ·exact hn q
     ·omega
    ·rcases cD.jb b ad with q|q|q
     ·exact t.jb b q
     ·rcases t.gY b q with q|q
      ·exact .inr (.inl q)
      ·exact .inr (.inr q)
     ·exact .inr (.inr (Nat.le_trans t.size q))
    ·rcases cD.gY b ad with q|q
     ·exact t.gY b q
     ·exact .inr (Nat.le_trans t.size q)
    ·have IK:id<s.next:=Nat.lt_of_lt_of_le bI t.le
     obtain⟨aa,ae⟩:=aj id o IK ah;obtain⟨cy,av,_⟩:=ae;obtain⟨c1,di⟩:=t.dJ id bI cy av;exact⟨c1,aa.trans di⟩
  exact hK _ eW _ _ ⟨dK,ro',fb.put o.dst r v (dy.lower zd5)⟩
end
end Go.aK
namespace Go.aK
open Go
inductive uz:eg→eg→Prop where
 |same (o:eg):uz o o
 |box (t:TypeId) {cs ds:List aC}:fU cs ds→uz (.box t cs) (.box t ds)
 |row (t:TypeId) (n:Nat) {es fs:List (List a1)}:es.length=fs.length→(∀e∈fs,e.length=n)→fZ es.flatten fs.flatten→uz (.row false t n es) (.row false t n fs)
def qa(s t:aO):Prop:=∀E (G:a8) a w β ro,c3 E G s a w β ro→c3 E G t a w β ro
theorem qa.le{s t:aO}(h:qa s t):cl s t:=fun E G a w ⟨β,ro,ag⟩=>⟨β,ro,h E G a w β ro ag⟩
theorem qa.of{s t:aO}(ad:t.base=s.base)(hn:s.next≤t.next)(ar:t.cO.length=s.cO.length)(ai: ∀(i:Nat) (v:aC),t.cO[i]? =some v→∃u,s.cO[i]? =some u∧Sub u v)
 (bd: ∀(id:Nat) (o:eg),aD t.heap id=some o→∃cy,aD s.heap id=some cy∧uz cy o):qa s t:=by
 intro E G a w β ro h
 have ng: ∀id ty cs,aD t.heap id=some (.box ty cs)→β id=β id∧∃ty cs,aD s.heap id=some (.box ty cs):=fun id ty cs ah=>by
  obtain⟨cy,aa,ae⟩:=bd id _ ah
  cases ae with
  |same=>exact⟨rfl,ty,cs,aa⟩
  |box _ h=>exact⟨rfl,_,_,aa⟩
 have cZ: ∀id z ty n es,aD t.heap id=some (.row z ty n es)→β id=β id∧∃z ty es,aD s.heap id=some (.row z ty n es):=fun id z ty n es ah=>by
  obtain⟨cy,aa,ae⟩:=bd id _ ah
  cases ae with
  |same=>exact⟨rfl,z,ty,es,aa⟩
  |row _ _=>exact⟨rfl,_,_,_,aa⟩
 have nh: ∀id bM,aD t.heap id=some (.bK bM)→β id=β id∧∃bM,aD s.heap id=some (.bK bM):=fun id bM ah=>by
  obtain⟨cy,aa,ae⟩:=bd id _ ah
  cases ae with
  |same=>exact⟨rfl,bM,aa⟩
 have hex: ∀id o,aD t.heap id=some o→∃cy,aD s.heap id=some cy∧cy.live=o.live:=fun id o ah=>by
  obtain⟨cy,aa,ae⟩:=bd id o ah
  cases ae<;>exact⟨_,aa,rfl⟩
 have own: ∀b,Own t.heap β b→Own s.heap β b:=fun b ⟨id,o,ah,Jf,bf⟩=>by
  obtain⟨cy,aa,ae⟩:=hex id o ah;exact⟨id,cy,aa,by rw[ae];exact Jf,bf⟩
 refine⟨h.defers,by rw[ar];exact h.size,fun i x hx=>?_,⟨fun id o ah=>?_,fun id gp o cy b aa ae av aQ bL cT=>?_,fun b ad an=>h.heap.fe b ad (own b an),h.heap.lt⟩,h.h3,?_,by rw[ad];exact h.base⟩
 ·obtain⟨u,hu,gx⟩:=ai i x hx
  exact(gx _ _ _ _ _ _ (h.slot i u hu)).keep (fun _ _=>rfl) (fun _ h=>h) hn ng cZ nh
 ·obtain⟨cy,aa,zd6⟩:=bd id o ah
  have dj:=(h.heap.c6 id cy aa).keep (fun _ _=>rfl) (fun _ h=>h) hn (Nat.le_refl _) rfl (fun _ _ _=>rfl) ng cZ nh
  cases zd6 with
  |same=>exact dj
  |box ty gx=>
   cases dj with
   |box _ _ b arr aA bh ct e1=>
    refine .box ty _ b arr aA bh (by rw[ct,gx.at.1]) fun j x af=>?_
    obtain⟨u,hu,Km⟩:=gx.at.2 j x af;exact Km _ _ _ _ _ _ (e1 j u hu)
  |row ty n ar hn gx=>
   cases dj with
   |row _ _ _ xs aA bh ct=>
    refine .row ty n _ xs (by rw[←ar];exact aA) hn fun j x af=>?_
    obtain⟨u,hu,Km⟩:=gx.at.2 j x af;exact Km _ _ _ (ct j u hu)
 ·obtain⟨p,g1,g2⟩:=hex id o aa
  obtain⟨fW,g3,g4⟩:=hex gp cy ae;exact h.heap.inj id gp p fW b g1 g3 (by rw[g2];exact av) (by rw[g4];exact aQ) bL cT
 ·have oU:=h.trans
  refine⟨oU.os,oU.tape,oU.output,oU.size,oU.frame,oU.jb,oU.jR,fun b ad=>oU.gY b (own b ad),fun id hi o ah=>?_,fun id o ah=>?_,Nat.le_trans oU.le hn⟩
  ·obtain⟨p,g1,_⟩:=hex id o ah
   exact oU.dJ id hi p g1
  ·obtain⟨p,g1,_⟩:=hex id o ah
   exact Nat.lt_of_lt_of_le (oU.new id p g1) hn
theorem cl.of{s t:aO}(ad:t.base=s.base)(hn:s.next≤t.next)(ar:t.cO.length=s.cO.length)(ai: ∀(i:Nat) (v:aC),t.cO[i]? =some v→∃u,s.cO[i]? =some u∧Sub u v)
 (bd: ∀(id:Nat) (o:eg),aD t.heap id=some o→∃cy,aD s.heap id=some cy∧uz cy o):cl s t:=(qa.of ad hn ar ai bd).le
theorem qa.put{s t:aO}{i:Nat}{x:a1}(h:qa s t)(ai:s.cO[i]? =some (.au x)):qa s (t.put (some i) (.au x)):=by
 intro E G a w β ro ag
 have aH:=h E G a w β ro ag
 refine⟨aH.defers,by simp only[aO.put,List.length_set];exact aH.size,fun j y ax=>?_,aH.heap,aH.h3,aH.trans,aH.base⟩
 simp only[aO.put,List.getElem?_set]at ax
 split at ax
 ·rename_i e
  subst e
  split at ax
  ·cases ax
   cases ag.slot i (.au x) ai with
   |au _ _ aw=>exact .au _ _ aw
  ·cases ax
 ·exact aH.slot j y ax
section
variable {P:Program} {G:a8}
theorem dO.wT{o:Oper}{s t bz:aO}(h:dO P G o s t)(ar:cl t bz):dO P G o s bz:=
 fun E a w ag K Q hK=>h E a w ag K Q fun bc w' dV=>hK bc w' (ar E G bc w' dV)
theorem RY{s:aO}{dst:Option Nat}{v bg:aC}(h:Sub v bg):cl (s.put dst v) (s.put dst bg):=by
 cases dst with
 |none=>exact cl.refl _
 |some d=>
  refine cl.of rfl (Nat.le_refl _) (by simp[aO.put]) (fun i u hu=>?_) (fun id o an=>⟨o,an,.same o⟩)
  simp only[aO.put,List.getElem?_set]at hu⊢
  split at hu
  ·rename_i e
   rw[if_pos e]
   split at hu
   ·rename_i bI
    cases hu;rw[if_pos bI];exact⟨_,rfl,h⟩
   ·cases hu
  ·rename_i e
   rw[if_neg e];exact⟨u,hu,Sub.refl _⟩
theorem RZ{s:aO}{h':Heap}{dst:Option Nat}{v:aC}(bd: ∀id o,aD h' id=some o→∃cy,aD s.heap id=some cy∧uz cy o):cl (s.put dst v) (aO.put {s with heap:=h'} dst v):=by
 cases dst with
 |none=>exact cl.of rfl (Nat.le_refl _) rfl (fun i u hu=>⟨u,hu,Sub.refl _⟩) bd
 |some d=>exact cl.of rfl (Nat.le_refl _) rfl (fun i u hu=>⟨u,hu,Sub.refl _⟩) bd
theorem Kn: ∀{l m:List a1},fU (l.map .au) (m.map .au)→fZ l m
 |[],[],_=>.nil
 |[],_::_,h=>by cases h
 |_::_,[],h=>by cases h
 |x::l,y::m,h=>by
  cases h with
  |cons aa ae=>
   refine .cons (fun w ro c hc=>?_) (Kn ae)
   have:=aa w ro [] (fun _=>undef) 0 c (.au x c hc)
   cases this with
   |au _ _ h=>exact h
theorem fZ.refl: ∀(l:List a1),fZ l l
 |[]=>.nil
 |x::r=>.cons (lq.refl x) (fZ.refl r)
theorem fZ.append{a b c d:List a1}(h:fZ a b)(k:fZ c d):fZ (a++c) (b++d):=by
 induction h with
 |nil=>exact k
 |cons h _ aZ=>exact .cons h aZ
end
section
variable {P:Program} {G:a8} {s:aO}
theorem zd7{o:Oper}(t:TypeId)(len:Nat)(parts:Array (Nat × Operand))(an:o.op= .buildSlice t len parts){e n:Nat}(hu:P.underlying t=some (.slice e))(bQ:(P.info? e).map (·.size)=some n)
 {zs:List Value}(aV:zeroCells P e=some zs)(r5:zs.all Value.oneCell'=true)(l1:zs.length=n)(hlen:0<len*n∧len*n≤16777216)
 {ps:List (Nat × aC)}(qT:parts.toList.map (fun p=>(p.1,aI G s p.2))=ps)(dZ:ps.all (fun p=>(cP p.2).all (eB s.heap))=true)
 {ds:List aC}(hf:jX (fun i=>some (i*n,n)) ((List.replicate len (zs.map fun z=>aC.au (.v z))).flatten) ps=some ds)(ad:s.base≤s.next):
 dO P G o s ({s with heap:=(s.next,.box e ds)::s.heap,next:=s.next+1}.put o.dst (.dx s.next len)):=by
 have mF:ds.length=len*n:=by
  have: ∀(ps:List (Nat × aC)) (cs ds:List aC),jX (fun i=>some (i*n,n)) cs ps=some ds→ds.length=cs.length:=by
   intro ps
   induction ps with
   |nil=>intro cs ds h;simp[jX]at h;rw[h]
   |cons p r aZ=>
    intro cs ds h;obtain⟨i,v⟩:=p;simp only[jX]at h
    split at h
    ·rename_i hc
     rw[aZ _ _ h,pL _ _ _ (by omega)]
    ·cases h
  rw[this ps _ _ hf,jS (n:=n) (fun e he=>by rw[List.mem_replicate]at he;rw[he.2];simpa using l1)]
  simp
 intro E a w ⟨β,ro,ag⟩ K Q hK
 obtain⟨aa,ae⟩:=I0 ag qT dZ
 obtain⟨z,jV,ou,_⟩:=yG aV w
 have eV:(List.replicate len (zs.map fun z=>aC.au (.v z))).flatten.length=len*n:=by
  rw[jS (n:=n) (fun e he=>by rw[List.mem_replicate]at he;rw[he.2];simpa using l1)];simp
 have zb4:zs.toArray.size=n:=by simpa using l1
 have qU:0<n:=by
  rcases Nat.eq_zero_or_pos n with h|h
  ·rw[h]at hlen;simp at hlen
  ·exact h
 obtain⟨ys,g1,g2,g3⟩:=Cj (place':=fun i=>some (i*n,n)) (fun _ _ h=>h) ag.heap hf aa ae (xs:=(Array.range (len*n)).map fun x=>zs.toArray[x%zs.toArray.size]!) (by rw[eV];simp) (fun j x af=>by
  have cJ:j<len*n:=by rw[←eV];exact(List.getElem?_eq_some_iff.1 af).1
  have hm:j=(j/ n)*n+j%n:=by rw[Nat.mul_comm];exact(Nat.div_add_mod j n).symm
  have nq:j%n<n:=Nat.mod_lt _ qU
  have nr:j/ n<len:=by rw[Nat.div_lt_iff_lt_mul qU];exact cJ
  rw[hm,qF (n:=n) (fun e he=>by rw[List.mem_replicate]at he;rw[he.2];simpa using l1) (i:=j/ n) (e:=zs.map fun z=>aC.au (.v z)) (by simp[nr]) (j%n) nq]at af
  have:=IZ (w:=w) (ro:=ro) (σ:=s.heap) (β:=β) (N:=s.next) r5 (j%n) x af
  have aA:(Array.map (fun x=>zs.toArray[x%zs.toArray.size]!) (Array.range (len*n))).getD j undef=zs.toArray.getD (j%n) undef:=by
   have av:j%n<zs.length:=by omega
   simp[cJ,l1,List.getElem?_eq_getElem av]
  rw[aA]
  exact this)
 have cn:(execOp a.eval o).run P w= .ok (.value (.slice (some ⟨w.heap.size,0,none⟩) len len)) (w.alloc (.cells ys e)):=by
  have yU:(sizeOf e).run P w= .ok n w:=by
   cases hi:P.info? e with
   |none=>simp[hi]at bQ
   |some i=>simp[hi]at bQ;simp[sizeOf,typeInfo,hi,bQ]
  have b7: ¬len*n>2^24:=by omega
  have jh: ¬len*n=0:=by omega
  simp only[execOp,an,Sem.run_bind,Instr.buildSlice,run_underlying hu,Result.andThen_ok,yU,if_neg b7,if_neg jh,jV,Sem.run_pure,ou]
  erw [g1]
  simp[newRow]
 have jc:aD s.heap s.next=none:=by
  cases ah:aD s.heap s.next with
  |none=>rfl
  |some p=>have:=ag.trans.new _ _ ah;omega
 have up: ∀(x:aC) (c:Value),bp w ro s.heap β s.next x c→bp (w.alloc (.cells ys e)) ro ((s.next,.box e ds)::s.heap) (gN β s.next (.pointer (some ⟨w.heap.size,0,none⟩))) (s.next+1) x c:=fun x c hx=>
  hx.move (fun b ad=>(Go.RowKit.Below.heap_alloc w _ b (ag.heap.lt b ad))) (fun _ h=>h) (Nat.le_succ _) fun id o bI ah=>by
   have b7: ¬s.next=id:=by omega
   simp only[aD,if_neg b7]at ah;refine⟨c0 _ _ (fun bd=>b7 bd.symm),o,ah,?_⟩
   cases o with
   |box=>trivial
   |row=>rfl
   |bK=>trivial
 have fb:=ag.new (w':=w.alloc (.cells ys e)) s.next jc ad (Nat.le_refl _) (.box e ds) (.pointer (some ⟨w.heap.size,0,none⟩)) rfl rfl rfl (by simp) (fun b ad=>Go.RowKit.Below.heap_alloc w _ b ad) (fun b ad=>by simp[b5]at ad;omega) rfl
  (.box e ds w.heap.size ys (by rw[dP]) (heap_alloc_new w _) g2 fun j x af=>up _ _ (g3 j x af))
 unfold Oper.wp
 rw[cn]
 exact hK _ _ ⟨_,ro,fb.put o.dst (.dx s.next len) (.slice (some ⟨w.heap.size,0,none⟩) len len) (.dx _ _ _ (Nat.lt_succ_self _) fun t cs _=>⟨_,dP _ _ _,rfl⟩)⟩
end
def ab.zD:ab→Bool
 | .aT _ _=>true
 | .fd _ _ _ _=>true
 | .cs _=>true
 | .ip _ _ _=>true
 |_=>false
theorem Dl{G:a8}{e:Env}: ∀{l:List ab},l.all ab.zD=true→∃vs,iE (ab.bO G e l)=some vs∧ab.bO G e l=vs.map .au
 |[],_=>⟨[],rfl,rfl⟩
 |x::r,h=>by
  simp only[List.all_cons,Bool.and_eq_true]at h;obtain⟨vs,aa,ae⟩:=Dl (G:=G) (e:=e) h.2
  have: ∃y,x.den G e= .au y:=by
   cases x<;>first|exact⟨_,rfl⟩|(simp[ab.zD]at h)
  obtain⟨y,ax⟩:=this;refine⟨y::vs,?_,?_⟩
  ·simp only[ab.bO,ax,iE,aa]
  ·simp only[ab.bO,ax,ae,List.map_cons]
mutual
def ab.kill(id:Nat):ab→ab
 | .ch l=>.ch (ab.ed id l)
 | .tp l=>.tp (ab.ed id l)
 | .eb k o=>match decide (k=id)with
  |true=>.top
  |false=>.eb k o
 | .gJ k x o=>match decide (k=id)with
  |true=>.top
  |false=>.gJ k x o
 | .gO k o x n=>match decide (k=id)with
  |true=>.top
  |false=>.gO k o x n
 | .aM k=>match decide (k=id)with
  |true=>.top
  |false=>.aM k
 | .cM k n=>match decide (k=id)with
  |true=>.top
  |false=>.cM k n
 | .fg g (some k) o=>match decide (k=id)with
  |true=>.fg g none o
  |false=>.fg g (some k) o
 | .fn f a b=>.fn f (ab.ed id a) (ab.ed id b)
 | .gR k=>match decide (k=id)with
  |true=>.top
  |false=>.gR k
 | .fH g b x=>.fH g b (ab.kill id x)
 |x=>x
def ab.ed(id:Nat):List ab→List ab
 |[]=>[]
 |x::r=>ab.kill id x::ab.ed id r
end
def ba.map{α:Type}(f:α→α):ba α→ba α
 | .emp=>.emp
 | .n v l r=>.n (match v with|some x=>some (f x)|none=>none) (l.map f) (r.map f)
theorem ba.get_map{α:Type}(f:α→α): ∀(t:ba α) (k:Nat),(t.map f).get k=(t.get k).map f
 | .emp,_=>rfl
 | .n v l r,k=>by
  simp only[ba.map,ba.get]
  split
  ·cases v<;>rfl
  ·split
   ·exact ba.get_map f l _
   ·exact ba.get_map f r _
structure db where
 xs:List bJ
 ns:List fc
 Qq:Option Nat
 h:List (Nat × bB)
 n:Nat
 v:ab
def db.l(r:db)(l:ba ab):ba ab:=
 match r.Qq with
 |none=>l
 |some id=>l.map (ab.kill id)
def db.st(r:db)(S:aq)(dst:Option Nat):aq:=({S with l:=r.l S.l,h:=r.h,n:=r.n}:aq).put dst r.v
def mc(P:Program)(G:a8)(N B:Nat)(M:List aR)(o:Oper)(S:aq)(r:db):Prop:=
 ∀e,(∀c∈S.g,c.ok e)→(∀(j:Nat) (x:bJ),r.xs[j]? =some x→Env.at e (S.k+j)=x.den M e)→(∀n∈r.ns,n.ok M e)→dO P G o (S.den G N B e) ((r.st S o.dst).den G N B e)
def Ko(P:Program)(B:Nat)(S:aq)(t:TypeId):Option db:=
 match zeroCells P t with
 |some zs=>match zs.all Value.oneCell'&&Nat.ble B S.n with
  |true=>some ⟨[],[],none,(S.n,.dm t (zs.map .cs))::S.h,S.n+1,.eb S.n 0⟩
  |false=>none
 |none=>none
def Kp(B:Nat)(S:aq)(t:TypeId)(x:ab):Option db:=
 match x.cells.all (kr S.h)&&Nat.ble B S.n with
 |true=>some ⟨[],[],none,(S.n,.dm t x.cells)::S.h,S.n+1,.eb S.n 0⟩
 |false=>none
def Kq(P:Program)(S:aq)(t:TypeId)(p x:ab):Option db:=
 match p with
 | .eb id off=>match da S.h id,(P.info? t).map (·.size)with
  |some (.dm bt l),some n=>match x.cells.all (kr S.h)&&(Nat.beq n x.cells.length&&Nat.ble (off+n) l.length)with
   |true=>some ⟨[],[],none,jl S.h id (.dm bt (eh l off x.cells)),S.n,.top⟩
   |false=>none
  |_,_=>none
 | .gJ id i off=>match da S.h id,(P.info? t).map (·.size),i.rt with
  |some (.rw bt c y),some n,some (.int k)=>match x.cells.all ab.zD&&((x.cells.all (kr S.h)&&y.er (.li c))&&(Nat.beq n x.cells.length&&(Nat.ble (off+n) (bZ c)&&hk (eM c) (eh (iI c S.k 0 (eM c)) off x.cells))))with
   |true=>some ⟨[.f2 (.j1 c k) y i,.up c y i (.ch (eh (iI c S.k 0 (eM c)) off x.cells))],oR S.g (.iJ c) (.j1 c k) y i,
    none,jl S.h id (.rw bt c (.aT (.li c) (S.k+1))),S.n,.top⟩
   |false=>none
  |_,_,_=>none
 |_=>none
section
variable {P:Program} {G:a8} {o:Oper} {N B:Nat} {S:aq} {M:List aR}
theorem zd8{t:TypeId}{r:db}(an:o.op= .alloc t)(h:Ko P B S t=some r):mc P G N B M o S r:=fun e hf hx hn=>by
 unfold Ko at h
 split at h
 ·rename_i zs aV
  split at h
  ·rename_i ad
   cases h;simp only[Bool.and_eq_true]at ad
   have:=PI (G:=G) (s:=S.den G N B e) t an (Nat.le_of_ble_eq_true ad.2) aV ad.1
   rw[db.st,e9];simp only[aq.den,cw,bB.den,ab.den,db.l]at this⊢;rw[e5,List.map_map];exact this
  ·cases h
 ·cases h
theorem zd9{t:TypeId}{x:Operand}{r:db}(an:o.op= .box t x)(h:Kp B S t (S.aY N x)=some r):mc P G N B M o S r:=fun e hf hx hn=>by
 unfold Kp at h
 split at h
 ·rename_i ad
  cases h;simp only[Bool.and_eq_true]at ad
  have aw:=uk (G:=G) (e:=e) ad.1
  have:=PG (P:=P) (G:=G) (s:=S.den G N B e) t x an (Nat.le_of_ble_eq_true ad.2) (by rw[bC hf,aw];exact wM ad.1)
  rw[bC hf,aw]at this;rw[db.st,e9];exact this
 ·cases h
theorem zea{c:bF}{l:List (fO c)}{j:Nat}{iQ aA:fO c}{vs:List a1}(aP:l[j]? =some iQ)(ai:fZ vs (b9 c aA)):fZ ((l.map (b9 c)).set j vs).flatten ((l.set j aA).map (b9 c)).flatten:=by
 induction l generalizing j with
 |nil=>simp at aP
 |cons x l aZ=>
  cases j with
  |zero=>
   simp only[List.map_cons,List.set_cons_zero,List.flatten_cons];exact ai.append (fZ.refl _)
  |succ j=>
   simp only[List.map_cons,List.set_cons_succ,List.flatten_cons];exact(fZ.refl _).append (aZ (by simpa using aP))
theorem zeb{t:TypeId}{p x:Operand}{r:db}(an:o.op= .store t p x)(h:Kq P S t (S.aY N p) (S.aY N x)=some r):mc P G N B M o S r:=fun e hf hx hn=>by
 unfold Kq at h
 split at h
 ·rename_i id off ak
  split at h
  ·rename_i bt l n ah bQ
   split at h
   ·rename_i ad
    cases h;simp only[Bool.and_eq_true]at ad
    have aw:=uk (G:=G) (e:=e) ad.1
    have hlen:=Nat.eq_of_beq_eq_true ad.2.1
    have lj:cP (aI G (S.den G N B e) x)=ab.bO G e (S.aY N x).cells:=by rw[bC hf,aw]
    have:=PK (P:=P) (G:=G) (s:=S.den G N B e) t p x an (id:=id) (off:=off) (by rw[bC hf,ak];rfl) (bt:=bt) (cs:=ab.bO G e l) (by simp only[aq.den,ef,ah,Option.map_some,bB.den])
     (vs:=ab.bO G e (S.aY N x).cells) lj (wM ad.1) (by rw[lR,bQ,hlen]) (by rw[lR,lR,←hlen];exact Nat.le_of_ble_eq_true ad.2.2)
    rw[db.st,e9];simp only[aq.den,sr,bB.den,ab.den,db.l]at this⊢;rw[e5,C1,←e5,←e5];exact this
   ·cases h
  ·cases h
 ·rename_i id i off ak
  split at h
  ·rename_i bt c y n k ah bQ hi
   split at h
   ·rename_i ad
    cases h;simp only[Bool.and_eq_true]at ad;obtain⟨gP,⟨jf,hL⟩,sB,wU,zE⟩:=ad
    have hlen:=Nat.eq_of_beq_eq_true sB
    obtain⟨g1,g2⟩:=wK hf hi hn;obtain⟨vs,v1,v2⟩:=Dl (G:=G) (e:=e) gP
    have fB:vs.length=n:=by
     have:=congrArg List.length v2
     rw[lR,List.length_map]at this;omega
    have lj:cP (aI G (S.den G N B e) x)=ab.bO G e (S.aY N x).cells:=by rw[bC hf,uk jf]
    have aP:Env.at e S.k=⟨.st c,List.getD (y.az e (.li c)) (Int.toNat (i.az e (.int k))) (aE c)⟩:=hx 0 _ rfl
    have aa:Env.at e (S.k+1)=_:=hx 1 _ rfl
    have eH:=RK g1 g2
    have dB:=PM (P:=P) (G:=G) (s:=S.den G N B e) t p x an (id:=id) (i:=(ck (i.dyn e)).toNat) (off:=off) (by rw[bC hf,ak];rfl) (bt:=bt) (n:=bZ c) (es:=List.map (b9 c) (y.az e (.li c))) (by simp only[aq.den,ef,ah,Option.map_some,bB.den])
     (e:=b9 c (List.getD (y.az e (.li c)) (Int.toNat (i.az e (.int k))) (aE c))) (by rw[List.getElem?_map,lv hi,eH];rfl) (by rw[lj];exact v1) (by rw[bQ,fB]) (by rw[fB];exact Nat.le_of_ble_eq_true wU)
    refine dB.wT ?_
    rw[db.st,e9]
    have kO:fZ (eh (b9 c (List.getD (y.az e (.li c)) (Int.toNat (i.az e (.int k))) (aE c))) off vs) (b9 c (oG c (fV e (eM c) (eh (iI c S.k 0 (eM c)) off (S.aY N x).cells)))):=by
     have:=zi (G:=G) (e:=e) zE
     rw[e5,C1,←e5,←e5,sk,aP,cz,v2,←C1]at this;exact Kn this
    have fb:(ab.aT (.li c) (S.k+1)).az e (.li c)=List.set (y.az e (.li c)) (ck (i.dyn e)).toNat (oG c (fV e (eM c) (eh (iI c S.k 0 (eM c)) off (S.aY N x).cells))):=by
     simp only[ab.az,ab.fo,ab.dyn,cz,aa,bJ.den,ab.get,ab.cells]
    refine RZ (s:={S.den G N B e with heap:=eL (S.den G N B e).heap id _}) (h':=cw G e (jl S.h id (.rw bt c (.aT (.li c) (S.k+1))))) fun gp h4 zF=>?_
    rw[sr,vL]at zF;simp only[vL]
    by_cases bb:id=gp
    ·rw[if_pos bb]at zF⊢
     cases zF;refine⟨_,rfl,?_⟩
     simp only[bB.den];rw[fb];refine .row bt (bZ c) (by simp) (fun q aJ=>?_) (zea (by rw[lv hi];exact eH) kO)
     obtain⟨z,_,rfl⟩:=List.mem_map.1 aJ;exact Cx c z
    ·rw[if_neg bb]at zF⊢
     exact⟨h4,zF,.same h4⟩
   ·cases h
  ·cases h
 ·cases h
end
end Go.aK
namespace Go.aK
open Go Go.Lib
section
variable {P:Program}
theorem Kr{w:World}(t u ty e:TypeId){i:TypeInfo}(aH:P.underlying t=some (.slice e))(hu:P.underlying u=some .string)(hi:P.info? e=some i)(aV:i.zero=some (.int .u8 0))(ik:i.size=1)(ji:i.bytes=1)
 {v:Value}{n:Nat}{xs:List Value}(cZ:h2 w e 1 v n xs)(s:ByteArray)(r6:n+s.size≤maxLen)(yV:n+s.size≤140737488355328):
 ∃bg w',(Builtin.append_ #[t,u] ty #[v,.string s]).run P w= .ok bg w'∧h2 w' e 1 bg (n+s.size) (xs++strCells s)∧w.grownBy w' (b5 v)∧(∀k,b5 bg=some k→b5 v=some k∨w.heap.size≤k):=by
 have zio:n+s.size≤9223372036854775807:=by simp only[maxLen]at r6;omega
 have jB:xs.length=n:=by simpa using cZ.1
 have hlen:(xs++strCells s).length=(n+s.size)*1:=by rw[List.length_append,jB,strCells_length,Nat.mul_one]
 have grown: ∀(dJ:Nat),dJ<n+s.size→∀(row:Option Nat),
  h2 (w.drew.alloc (.cells (xs.toArray++(strCells s).toArray++Builtin.zeroCells (Value.int .u8 0).cells (grownCap w (n+s.size) dJ e-(n+s.size))) e)) e 1
   (.slice (some ⟨w.heap.size,0,none⟩) (n+s.size) (grownCap w (n+s.size) dJ e)) (n+s.size) (xs++strCells s)∧
  w.grownBy (w.drew.alloc (.cells (xs.toArray++(strCells s).toArray++Builtin.zeroCells (Value.int .u8 0).cells (grownCap w (n+s.size) dJ e-(n+s.size))) e)) row:=by
  intro dJ an row
  have h0:=grownCap_ge w (n+s.size) dJ e
  have h5:grownCap w (n+s.size) dJ e≤maxLen:=grownCap_le_maxLen w (n+s.size) dJ e r6
  refine⟨⟨hlen,.inr ⟨w.heap.size,_,_,rfl,by omega,heap_alloc_new w.drew _,h0,h5,?_,?_⟩⟩,⟨rfl,rfl,rfl,by simp,fun k aj _=>Go.RowKit.Below.heap_alloc w.drew _ k aj⟩⟩
  ·have iu:(Value.int IntKind.u8 0).cells.size=1:=rfl
   simp only[Array.size_append,List.size_toArray,size_zeroCells,iu,jB,strCells_length];omega
  ·simp only[Array.toList_append,List.append_assoc]
   rw[←List.append_assoc,←hlen];exact List.take_left
 have Ks: ∀(m c k:Nat),b5 (.slice (some ⟨w.heap.size,0,none⟩) m c)=some k→b5 v=some k∨w.heap.size≤k:=fun m c k aj=>by
  simp only[b5]at aj
  split at aj
  ·cases aj
  ·simp at aj;exact .inr (by omega)
 rcases cZ.2 with⟨⟨c,rfl,tI⟩,jh⟩|⟨g,cap,cur,rfl,yW,ah,zG,h5,dH,ld⟩
 ·subst jh
  have hx:xs=[]:=List.eq_nil_of_length_eq_zero jB
  subst hx
  by_cases hm:s.size=0
  ·have qV:strCells s=[]:=List.eq_nil_of_length_eq_zero (by rw[strCells_length];exact hm)
   have hf:=run_firstCells_string (P:=P) w 1 s
   rw[hm]at hf;refine⟨.slice c 0 0,w,?_,by rw[hm,qV];exact⟨rfl,.inl ⟨⟨c,rfl,tI⟩,rfl⟩⟩,World.grownBy.refl w _,fun k aj=>.inl aj⟩
   cases c<;>simp[Builtin.append_,run_underlying aH,run_underlying hu,sizeOf,typeInfo,hi,ik,Builtin.lenOf,hm,hf,qV,storeCells]
  ·have cQ:=grown 0 (by omega) (b5 (.slice c 0 0))
   cases c with
   |none=>
    have ag:=run_append_nil_string (P:=P) w t u ty e i (.int .u8 0) aH hu hi aV s (by omega) (by omega) (by rw[ji];omega)
    simp only[Nat.zero_add,List.nil_append,Array.empty_append]at cQ⊢
    have aA:(s.data.map fun b=>Value.int .u8 b.toNat)=(strCells s).toArray:=by
     apply Array.ext';simp[strCells]
    rw[aA]at ag;exact⟨_,_,ag,cQ.1,cQ.2,Ks _ _⟩
   |some a=>
    have ag:=run_append_grow_string (P:=P) w t u ty e i (.int .u8 0) aH hu hi aV a 0 0 [] (by simp) (by simp) s (by omega) (by omega) (by rw[ji];exact growslice_fits (by omega) (by omega))
    exact⟨_,_,ag,cQ.1,cQ.2,Ks _ _⟩
 ·by_cases wV:n+s.size≤cap
  ·have ag:=run_append_room_string (P:=P) w t u ty e i aH hu hi ik g n cap cur ah s wV (by omega)
   refine⟨_,_,ag,⟨hlen,.inr ⟨g,cap,_,rfl,yW,setRow_heap w g cur _ e _ ah,wV,h5,?_,?_⟩⟩,⟨rfl,rfl,rfl,by simp,fun k _ aj=>setRow_other w g k _ (fun e=>aj (by simp[b5,e,Nat.ne_of_gt yW]))⟩,fun k aj=>.inl ?_⟩
   ·simp only[List.size_toArray,List.length_append,List.length_take,List.length_drop,Array.length_toList,strCells_length]
    omega
   ·have cD:cur.toList.take n=xs:=by simpa using ld
    rw[cD,←hlen];exact List.take_left
   ·simpa[b5,Nat.ne_of_gt yW]using aj
  ·have holds: ∀j u,xs[j]? =some u→w.cell? ((⟨g,0,none⟩:Addr).add j)=some u:=by
    have hs:w.ownsRow 0 e 1 (.slice (some ⟨g,0,none⟩) n cap) n xs:=⟨cZ.1,.inr ⟨g,cap,cur,rfl,Nat.zero_le _,ah,zG,h5,dH,ld⟩⟩
    exact hs.cells (g:=g) rfl
   have ag:=run_append_grow_string (P:=P) w t u ty e i (.int .u8 0) aH hu hi aV ⟨g,0,none⟩ n cap xs (by rw[ik];simpa using jB) holds s (by omega) (by omega) (by rw[ji];exact growslice_fits (by omega) (by omega))
   have cQ:=grown cap (by omega) (b5 (.slice (some ⟨g,0,none⟩) n cap))
   exact⟨_,_,ag,cQ.1,cQ.2,Ks _ _⟩
def ez(b:ByteArray):List Int:=b.data.toList.map fun u=>(u.toNat:Int)
theorem Kt{w:World}{ro:Nat→Prop}(b:ByteArray):((ez b).map fun z=>[a1.v (.int .u8 z)]).length=b.size∧∀(j:Nat) (x:a1),((ez b).map fun z=>[a1.v (.int .u8 z)]).flatten[j]? =some x→cN w ro x ((strCells b).getD j undef):=by
 refine⟨by rw[List.length_map];unfold ez;rw[List.length_map,Array.length_toList];rfl,fun j x af=>?_⟩
 have lU:((ez b).map fun z=>[a1.v (.int .u8 z)]).flatten=(ez b).map fun z=>a1.v (.int .u8 z):=by
  generalize ez b=l
  induction l with
  |nil=>rfl
  |cons y r aZ=>simp only[List.map_cons,List.flatten_cons,aZ,List.singleton_append]
 rw[lU]at af
 unfold ez at af
 simp only[List.map_map,List.getElem?_map]at af
 obtain⟨u,hu,rfl⟩:=Option.map_eq_some_iff.1 af
 have:(strCells b).getD j undef= .int .u8 (u.toNat:Int):=by
  unfold strCells;simp[List.getD,hu]
 rw[this]
 exact .v _ rfl
variable {G:a8} {s:aO} {o:Oper}
def wW(P:Program)(t u:TypeId):Option TypeId:=
 match P.underlying t,P.underlying u with
 |some (.slice e),some .string=>match P.info? e with
  |some i=>match i.zero with
   |some (.int .u8 0)=>match Nat.beq i.size 1&&Nat.beq i.bytes 1 with
    |true=>some e
    |false=>none
   |_=>none
  |none=>none
 |_,_=>none
theorem Ku{t u e:TypeId}(h:wW P t u=some e): ∃i,P.underlying t=some (.slice e)∧P.underlying u=some .string∧P.info? e=some i∧i.zero=some (.int .u8 0)∧i.size=1∧i.bytes=1:=by
 unfold wW at h
 split at h
 ·rename_i ay hu ai
  split at h
  ·rename_i i hi
   split at h
   ·rename_i aV
    split at h
    ·rename_i hc
     cases h;simp only[Bool.and_eq_true]at hc;exact⟨i,hu,ai,hi,aV,Nat.eq_of_beq_eq_true hc.1,Nat.eq_of_beq_eq_true hc.2⟩
    ·cases h
   ·cases h
  ·cases h
 ·cases h
theorem zec(x y:Operand)(t u:TypeId)(an:o.op= .call {callee:=.builtin .append,args:=#[x,y],argTypes:=#[t,u]}){e:TypeId}(aH:wW P t u=some e)
 {id:Nat}(hx:aI G s x= .aM id){es:List (List a1)}(bb:aD s.heap id=some (.row false e 1 es))(ad:s.base≤id)(bI:id<s.next)
 {b:ByteArray}(ax:aI G s y= .au (.v (.string b)))(bQ:es.length+b.size≤maxLen∧es.length+b.size≤140737488355328):
 dO P G o s (aO.put ⟨ed id s.cO,(id,.row false e 1 (es++(ez b).map fun z=>[a1.v (.int .u8 z)]))::du id s.heap,s.next,s.base⟩ o.dst (.aM id)):=by
 intro E a w ⟨β,ro,ag⟩ K Q hK
 obtain⟨i,hu,ai,hi,aV,ik,ji⟩:=Ku aH
 have dj:=ag.heap.c6 id _ bb
 cases dj with
 |row _ _ _ xs cZ b7 eV=>
  have lj:a.eval x=β id:=by
   have h:=ag.eval x
   rw[hx]at h;generalize a.eval x=c at h
   cases h with
   |aM _ _ _ ak=>exact ak _ _ _ _ bb
  obtain⟨bg,w',cn,kn,cQ,bf⟩:=Kr (P:=P) t u o.type e hu ai hi aV ik ji cZ b bQ.1 bQ.2;obtain⟨c1,di⟩:=Kt (w:=w) (ro:=ro) b;unfold Oper.wp;simp only[execOp,an,resolve,invoke,builtin,Sem.run_bind,Sem.run_pure,Result.andThen_ok,List.map_toArray,List.map_cons,List.map_nil,lj,ag.ec ax,cn]
  have jd: ∀k,k<w.heap.size→b5 (β id)≠some k→w'.heap[k]? =w.heap[k]? :=fun k aj b7=>cQ.block k aj (fun e=>b7 e.symm)
  have cc: ∀k,ro k→w'.heap[k]? =w.heap[k]? :=fun k aj=>jd k (ag.heap.lt k aj) fun bf=>ag.heap.fe k aj ⟨id,_,bb,rfl,bf⟩
  refine hK _ _ ⟨gN β id bg,ro,c3.put (ag.renew (w':=w') id ad bI bb (.row false e 1 (es++(ez b).map fun z=>[a1.v (.int .u8 z)])) bg cQ.os cQ.tape cQ.output cQ.size jd bf rfl ?_) o.dst _ _ ?_⟩
  ·refine .row e 1 _ _ (by rw[dP,List.length_append,c1];exact kn) (fun ay jT=>?_) (fun j x af=>?_)
   ·rw[List.mem_append]at jT
    rcases jT with h|h
    ·exact b7 _ h
    ·obtain⟨z,_,rfl⟩:=List.mem_map.1 h
     rfl
   ·exact(vX b7 cZ.1 eV di j x af).keep cc fun _ h=>h
  ·exact .aM _ _ bI fun z bz cH dN _=>(dP _ _ _).symm
theorem zed(x y:Operand)(t u:TypeId)(an:o.op= .call {callee:=.builtin .append,args:=#[x,y],argTypes:=#[t,u]}){e:TypeId}(aH:wW P t u=some e)
 (hx:aI G s x= .au (.v (.slice none 0 0)))(ad:s.base≤s.next){b:ByteArray}(ax:aI G s y= .au (.v (.string b)))(bQ:b.size≤maxLen∧b.size≤140737488355328):
 dO P G o s ({s with heap:=(s.next,.row false e 1 ((ez b).map fun z=>[a1.v (.int .u8 z)]))::s.heap,next:=s.next+1}.put o.dst (.aM s.next)):=by
 intro E a w ⟨β,ro,ag⟩ K Q hK
 obtain⟨i,hu,ai,hi,aV,ik,ji⟩:=Ku aH
 obtain⟨bg,w',cn,kn,cQ,bf⟩:=Kr (P:=P) (w:=w) t u o.type e hu ai hi aV ik ji (v:=.slice none 0 0) (n:=0) (xs:=[]) ⟨by simp,.inl ⟨⟨none,rfl,fun _ h=>(by cases h)⟩,rfl⟩⟩ b (by omega) (by omega)
 obtain⟨c1,di⟩:=Kt (w:=w) (ro:=ro) b
 unfold Oper.wp
 simp only[execOp,an,resolve,invoke,builtin,Sem.run_bind,Sem.run_pure,Result.andThen_ok,List.map_toArray,List.map_cons,List.map_nil,ag.ec hx,ag.ec ax,cn]
 have jc:aD s.heap s.next=none:=by
  cases ah:aD s.heap s.next with
  |none=>rfl
  |some p=>have:=ag.trans.new _ _ ah;omega
 have hw: ∀b,b<w.heap.size→w'.heap[b]? =w.heap[b]? :=fun b ad=>cQ.block b ad (by simp[b5])
 have cc: ∀b,ro b→w'.heap[b]? =w.heap[b]? :=fun b ad=>hw b (ag.heap.lt b ad)
 refine hK _ _ ⟨gN β s.next bg,ro,c3.put (ag.new (w':=w') s.next jc ad (Nat.le_refl _) (.row false e 1 ((ez b).map fun z=>[a1.v (.int .u8 z)])) bg cQ.os cQ.tape cQ.output cQ.size hw (fun b ad=>?_) rfl ?_) o.dst _ _ ?_⟩
 ·rcases bf b ad with h|h
  ·simp[b5]at h
  ·exact h
 ·refine .row e 1 _ _ (by rw[dP,c1];simpa using kn) (fun ay jT=>?_) (fun j x af=>(di j x af).keep cc fun _ h=>h)
  obtain⟨z,_,rfl⟩:=List.mem_map.1 jT;rfl
 ·exact .aM _ _ (Nat.lt_succ_self _) fun z bz cH dN _=>(dP _ _ _).symm
end
end Go.aK
namespace Go.aK
open Go Go.Lib
section
variable {P:Program} {G:a8} {s:aO} {E:Entry} {a:Act} {w w':World} {β:Nat→Value} {ro:Nat→Prop}
theorem c3.Kv(h:c3 E G s a w β ro)(id:Nat)(ad:s.base≤s.next){t0:TypeId}{n0:Nat}{yS:List (List a1)}(bb:aD s.heap id=some (.row false t0 n0 yS))(o:eg)(val:Value)
 (oo:w'.os=w.os)(oq:w'.tape=w.tape)(kk:w'.output=w.output)(bQ:w.heap.size≤w'.heap.size)(hw: ∀b,b<w.heap.size→b5 (β id)≠some b→w'.heap[b]? =w.heap[b]?)
 (gF: ∀b,b5 val=some b→b5 (β id)=some b∨w.heap.size≤b)(_hlive:o.live=true)
 (dj:kN w' ro ((s.next,o)::du id s.heap) (gN β s.next val) (s.next+1) s.next o):
 c3 E G ⟨ed id s.cO,(s.next,o)::du id s.heap,s.next+1,s.base⟩ a w' (gN β s.next val) ro:=by
 have cc: ∀b,ro b→w'.heap[b]? =w.heap[b]? :=fun b ag=>hw b (h.heap.lt b ag) fun ad=>h.heap.fe b ag ⟨id,_,bb,rfl,ad⟩
 have ah: ∀k,k≠s.next→k≠id→aD ((s.next,o)::du id s.heap) k=(aD s.heap k).map (ep id):=fun k aj ey=>by simp[aD,Ne.symm aj,pR,ey]
 have tF:aD ((s.next,o)::du id s.heap) s.next=some o:=by simp[aD]
 have ziq:id<s.next:=h.trans.new _ _ bb
 have key: ∀x c,bp w ro s.heap β s.next x c→bp w' ro ((s.next,o)::du id s.heap) (gN β s.next val) (s.next+1) (dW id x) c:=by
  intro x c hx
  induction hx with
  |au x c hx=>exact .au x c (hx.keep cc fun _ h=>h)
  |agg cs c ai _ aZ=>
   refine .agg _ c (by rw[hW];exact ai) fun j x af=>?_
   obtain⟨y,ax,rfl⟩:=hH id af;exact aZ j y ax
  |tuple cs c ai _ aZ=>
   refine .tuple _ c (by rw[hW];exact ai) fun j x af=>?_
   obtain⟨y,ax,rfl⟩:=hH id af;exact aZ j y ax
  |ptr k off c ar ak=>
   simp only[dW]
   split
   ·exact .top _
   ·rename_i aj
    refine .ptr k off c (by omega) fun t cs bm=>?_
    rw[c0 _ _ (show k≠s.next by omega)]
    rw[ah k (by omega) aj]at bm
    cases ai:aD s.heap k with
    |none=>simp[ai]at bm
    |some p=>
     cases p with
     |box bz cs'=>exact ak bz cs' ai
     |row=>simp[ai,ep]at bm
     |bK=>simp[ai,ep]at bm
  |dx k off c ar ak=>
   simp only[dW]
   split
   ·exact .top _
   ·rename_i aj
    refine .dx k off c (by omega) fun t cs bm=>?_
    rw[c0 _ _ (show k≠s.next by omega)]
    rw[ah k (by omega) aj]at bm
    cases ai:aD s.heap k with
    |none=>simp[ai]at bm
    |some p=>
     cases p with
     |box bz cs'=>exact ak bz cs' ai
     |row=>simp[ai,ep]at bm
     |bK=>simp[ai,ep]at bm
  |cV k i off c ar ak=>
   simp only[dW]
   split
   ·exact .top _
   ·rename_i aj
    refine .cV k i off c (by omega) fun z t n es bm=>?_
    rw[c0 _ _ (show k≠s.next by omega)]
    rw[ah k (by omega) aj]at bm
    cases ai:aD s.heap k with
    |none=>simp[ai]at bm
    |some p=>
     cases p with
     |box bz cs'=>simp[ai,ep]at bm
     |bK=>simp[ai,ep]at bm
     |row ij bz cH dN=>
      simp only[ai,Option.map_some,ep,Option.some.injEq,eg.row.injEq]at bm;obtain⟨rfl,rfl,rfl,rfl⟩:=bm;exact ak _ _ _ _ ai
  |aM k c ar ak=>
   simp only[dW]
   split
   ·exact .top _
   ·rename_i aj
    refine .aM k c (by omega) fun z t n es bm=>?_
    rw[c0 _ _ (show k≠s.next by omega)]
    rw[ah k (by omega) aj]at bm
    cases ai:aD s.heap k with
    |none=>simp[ai]at bm
    |some p=>
     cases p with
     |box bz cs'=>simp[ai,ep]at bm
     |bK=>simp[ai,ep]at bm
     |row ij bz cH dN=>exact ak _ _ _ _ ai
  |fn f p q c d aa ae _ _ gZ ha=>
   refine .fn f _ _ c d (by rw[hW];exact aa) (by rw[hW];exact ae) (fun j x af=>?_) (fun j x af=>?_)
   ·obtain⟨y,ax,rfl⟩:=hH id af
    exact gZ j y ax
   ·obtain⟨y,ax,rfl⟩:=hH id af
    exact ha j y ax
  |ref k c ar ak=>
   simp only[dW]
   split
   ·exact .top _
   ·rename_i aj
    refine .ref k c (by omega) fun bM bm=>?_
    rw[c0 _ _ (show k≠s.next by omega)]
    rw[ah k (by omega) aj]at bm
    cases ai:aD s.heap k with
    |none=>simp[ai]at bm
    |some p=>
     cases p with
     |box=>simp[ai,ep]at bm
     |row=>simp[ai,ep]at bm
     |bK lb=>exact ak lb ai
  |top c=>exact .top c
 have dJ: ∀k p,k≠s.next→aD ((s.next,o)::du id s.heap) k=some p→k≠id∧∃q,aD s.heap k=some q∧p=ep id q:=by
  intro k p aj bm
  have br:k≠id:=fun h=>by
   subst h;simp[aD,Ne.symm aj,pR]at bm
  refine⟨br,?_⟩
  rw[ah k aj br]at bm
  cases ai:aD s.heap k with
  |none=>simp[ai]at bm
  |some q=>simp[ai]at bm;exact⟨q,rfl,bm.symm⟩
 refine⟨h.defers,by simpa[hW]using h.size,fun i x hx=>?_,⟨fun k p aj=>?_,fun k bk p fW b aj ey ak gG bf en=>?_,fun b ag=>?_,fun b ag=>Nat.lt_of_lt_of_le (h.heap.lt b ag) bQ⟩,
  h.h3.keep cc fun _ h=>h,?_,h.base⟩
 ·obtain⟨y,ax,rfl⟩:=hH id hx
  exact key _ _ (h.slot i y ax)
 ·by_cases br:k=s.next
  ·subst k
   rw[tF]at aj;simp only[Option.some.injEq]at aj;subst aj;exact dj
  ·obtain⟨gM,q,aJ,rfl⟩:=dJ k p br aj
   have gH:=h.heap.c6 k q aJ
   have b7:q.live=true→∀b,b5 (β k)=some b→w'.heap[b]? =w.heap[b]? :=fun ar b bf=>
    hw b (gH.hB ar bf) fun jD=>gM (h.heap.inj k id q _ b aJ bb ar rfl bf jD)
   cases gH with
   |box t cs b arr aa ae av aQ=>
    refine .box t _ b arr (by rw[c0 _ _ br];exact aa) ((b7 rfl b (by rw[aa];rfl)).trans ae) (by rw[hW];exact av) fun j x af=>?_
    obtain⟨y,ax,rfl⟩:=hH id af;exact key _ _ (aQ j y ax)
   |row t n es xs aa ae av=>exact .row t n es xs (by rw[c0 _ _ br];exact aa.keep (fun b ad=>b7 rfl b ad) bQ) ae fun j x af=>(av j x af).keep cc fun _ h=>h
   |gb t n es aa=>exact .gb t n es (by rw[c0 _ _ br];exact aa.keep cc fun _ h=>h)
   |bK bM b o aa ae av=>exact .bK bM b o (by rw[c0 _ _ br];exact aa) ((b7 rfl b aa).trans ae) (by rw[c0 _ _ br];exact bM.mono _ _ _ _ (fun x c h=>h.keep cc fun _ h=>h) av)
 ·by_cases br:k=s.next
  ·by_cases gI:bk=s.next
   ·rw[br,gI]
   ·subst k
    rw[dP]at bf;rw[c0 _ _ gI]at en;obtain⟨gM,q,aJ,rfl⟩:=dJ bk fW gI ey;rw[jg]at gG
    have ae:=(h.heap.c6 bk q aJ).hB gG en
    rcases gF b bf with aa|aa
    ·exact absurd (h.heap.inj bk id q _ b aJ bb gG rfl en aa) gM
    ·omega
  ·obtain⟨gM,q,aJ,rfl⟩:=dJ k p br aj
   rw[jg]at ak;rw[c0 _ _ br]at bf
   by_cases gI:bk=s.next
   ·subst bk
    rw[dP]at en
    have ae:=(h.heap.c6 k q aJ).hB ak bf
    rcases gF b en with aa|aa
    ·exact absurd (h.heap.inj k id q _ b aJ bb ak rfl bf aa) gM
    ·omega
   ·obtain⟨zee,q',tG,rfl⟩:=dJ bk fW gI ey
    rw[jg]at gG;rw[c0 _ _ gI]at en;exact h.heap.inj k bk q q' b aJ tG ak gG bf en
 ·rintro⟨k,p,aj,ak,bf⟩
  by_cases br:k=s.next
  ·subst k
   rw[dP]at bf
   rcases gF b bf with aa|aa
   ·exact h.heap.fe b ag ⟨id,_,bb,rfl,aa⟩
   ·have:=h.heap.lt b ag;omega
  ·obtain⟨gM,q,aJ,rfl⟩:=dJ k p br aj
   rw[jg]at ak;rw[c0 _ _ br]at bf;exact h.heap.fe b ag ⟨k,q,aJ,ak,bf⟩
 ·have t:=h.trans
  refine⟨oo.trans t.os,oq.trans t.tape,kk.trans t.output,Nat.le_trans t.size bQ,fun b hC gf=>?_,t.jb,t.jR,?_,fun k aj p bm=>?_,fun k p bm=>?_,Nat.le_succ_of_le t.le⟩
  ·by_cases jD:b5 (β id)=some b
   ·rcases t.gY b ⟨id,_,bb,rfl,jD⟩with hc|hc
    ·exact absurd hc gf
    ·omega
   ·rw[hw b (Nat.lt_of_lt_of_le hC t.size) jD]
    exact t.frame b hC gf
  ·rintro b ⟨k,p,aj,ak,bf⟩
   by_cases br:k=s.next
   ·subst k
    rw[dP]at bf
    rcases gF b bf with aa|aa
    ·exact t.gY b ⟨id,_,bb,rfl,aa⟩
    ·exact .inr (Nat.le_trans t.size aa)
   ·obtain⟨gM,q,aJ,rfl⟩:=dJ k p br aj
    rw[jg]at ak;rw[c0 _ _ br]at bf;exact t.gY b ⟨k,q,aJ,ak,bf⟩
  ·have br:k≠s.next:=by have:=h.base;omega
   obtain⟨gM,q,aJ,rfl⟩:=dJ k p br bm;rw[c0 _ _ br];exact t.dJ k aj q aJ
  ·by_cases br:k=s.next
   ·subst k;exact Nat.lt_succ_self _
   ·obtain⟨gM,q,aJ,rfl⟩:=dJ k p br bm
    exact Nat.lt_succ_of_lt (t.new k q aJ)
theorem c3.R0(h:c3 E G s a w β ro)(id aX:Nat)(ad:s.base≤aX)(bI:aX<s.next){t0:TypeId}{n0:Nat}{yS:List (List a1)}(bb:aD s.heap id=some (.row false t0 n0 yS))(o:eg)(val:Value)
 (oo:w'.os=w.os)(oq:w'.tape=w.tape)(kk:w'.output=w.output)(bQ:w.heap.size≤w'.heap.size)(hw: ∀b,b<w.heap.size→b5 (β id)≠some b→w'.heap[b]? =w.heap[b]?)
 (gF: ∀b,b5 val=some b→b5 (β id)=some b∨w.heap.size≤b)(_hlive:o.live=true)
 (dj:kN w' ro ((aX,o)::du aX (du id s.heap)) (gN β aX val) s.next aX o):
 c3 E G ⟨ed aX (ed id s.cO),(aX,o)::du aX (du id s.heap),s.next,s.base⟩ a w' (gN β aX val) ro:=by
 have cc: ∀b,ro b→w'.heap[b]? =w.heap[b]? :=fun b ag=>hw b (h.heap.lt b ag) fun ad=>h.heap.fe b ag ⟨id,_,bb,rfl,ad⟩
 have ah: ∀k,k≠aX→k≠id→aD ((aX,o)::du aX (du id s.heap)) k=((aD s.heap k).map (ep id)).map (ep aX):=fun k aj ey=>by simp[aD,Ne.symm aj,pR,aj,ey]
 have tF:aD ((aX,o)::du aX (du id s.heap)) aX=some o:=by simp[aD]
 have key: ∀x c,bp w ro s.heap β s.next x c→bp w' ro ((aX,o)::du aX (du id s.heap)) (gN β aX val) s.next (dW aX (dW id x)) c:=by
  intro x c hx
  induction hx with
  |au x c hx=>exact .au x c (hx.keep cc fun _ h=>h)
  |agg cs c ai _ aZ=>
   refine .agg _ c (by rw[hW,hW];exact ai) fun j x af=>?_
   obtain⟨z,aV,rfl⟩:=hH aX af;obtain⟨y,ax,rfl⟩:=hH id aV;exact aZ j y ax
  |tuple cs c ai _ aZ=>
   refine .tuple _ c (by rw[hW,hW];exact ai) fun j x af=>?_
   obtain⟨z,aV,rfl⟩:=hH aX af;obtain⟨y,ax,rfl⟩:=hH id aV;exact aZ j y ax
  |ptr k off c ar ak=>
   by_cases aj:k=id
   ·simp only[dW,aj,if_true]
    exact .top _
   by_cases gi:k=aX
   ·simp only[dW,if_neg aj,if_neg (gi ▸ aj),gi,if_true]
    exact .top _
   ·simp only[dW,if_neg aj,if_neg gi]
    refine .ptr k off c ar fun t cs bm=>?_
    rw[c0 _ _ gi];rw[ah k gi aj]at bm
    cases ai:aD s.heap k with
    |none=>simp[ai]at bm
    |some p=>
     cases p with
     |box bz cs'=>exact ak bz cs' ai
     |row=>simp[ai,ep]at bm
     |bK=>simp[ai,ep]at bm
  |dx k off c ar ak=>
   by_cases aj:k=id
   ·simp only[dW,aj,if_true]
    exact .top _
   by_cases gi:k=aX
   ·simp only[dW,if_neg aj,if_neg (gi ▸ aj),gi,if_true]
    exact .top _
   ·simp only[dW,if_neg aj,if_neg gi]
    refine .dx k off c ar fun t cs bm=>?_
    rw[c0 _ _ gi];rw[ah k gi aj]at bm
    cases ai:aD s.heap k with
    |none=>simp[ai]at bm
    |some p=>
     cases p with
     |box bz cs'=>exact ak bz cs' ai
     |row=>simp[ai,ep]at bm
     |bK=>simp[ai,ep]at bm
  |cV k i off c ar ak=>
   by_cases aj:k=id
   ·simp only[dW,aj,if_true]
    exact .top _
   by_cases gi:k=aX
   ·simp only[dW,if_neg aj,if_neg (gi ▸ aj),gi,if_true]
    exact .top _
   ·simp only[dW,if_neg aj,if_neg gi]
    refine .cV k i off c ar fun z t n es bm=>?_
    rw[c0 _ _ gi];rw[ah k gi aj]at bm
    cases ai:aD s.heap k with
    |none=>simp[ai]at bm
    |some p=>
     cases p with
     |box bz cs'=>simp[ai,ep]at bm
     |bK=>simp[ai,ep]at bm
     |row ij bz cH dN=>
      simp only[ai,Option.map_some,ep,Option.some.injEq,eg.row.injEq]at bm;obtain⟨rfl,rfl,rfl,rfl⟩:=bm;exact ak _ _ _ _ ai
  |aM k c ar ak=>
   by_cases aj:k=id
   ·simp only[dW,aj,if_true]
    exact .top _
   by_cases gi:k=aX
   ·simp only[dW,if_neg aj,if_neg (gi ▸ aj),gi,if_true]
    exact .top _
   ·simp only[dW,if_neg aj,if_neg gi]
    refine .aM k c ar fun z t n es bm=>?_
    rw[c0 _ _ gi];rw[ah k gi aj]at bm
    cases ai:aD s.heap k with
    |none=>simp[ai]at bm
    |some p=>
     cases p with
     |box bz cs'=>simp[ai,ep]at bm
     |bK=>simp[ai,ep]at bm
     |row ij bz cH dN=>exact ak _ _ _ _ ai
  |fn f p q c d aa ae _ _ gZ ha=>
   refine .fn f _ _ c d (by rw[hW,hW];exact aa) (by rw[hW,hW];exact ae) (fun j x af=>?_) (fun j x af=>?_)
   ·obtain⟨z,aV,rfl⟩:=hH aX af
    obtain⟨y,ax,rfl⟩:=hH id aV;exact gZ j y ax
   ·obtain⟨z,aV,rfl⟩:=hH aX af
    obtain⟨y,ax,rfl⟩:=hH id aV;exact ha j y ax
  |ref k c ar ak=>
   by_cases aj:k=id
   ·simp only[dW,aj,if_true]
    exact .top _
   by_cases gi:k=aX
   ·simp only[dW,if_neg aj,if_neg (gi ▸ aj),gi,if_true]
    exact .top _
   ·simp only[dW,if_neg aj,if_neg gi]
    refine .ref k c ar fun bM bm=>?_
    rw[c0 _ _ gi];rw[ah k gi aj]at bm
    cases ai:aD s.heap k with
    |none=>simp[ai]at bm
    |some p=>
     cases p with
     |box=>simp[ai,ep]at bm
     |row=>simp[ai,ep]at bm
     |bK lb=>exact ak lb ai
  |top c=>exact .top c
 have dJ: ∀k p,k≠aX→aD ((aX,o)::du aX (du id s.heap)) k=some p→k≠id∧∃q,aD s.heap k=some q∧p=ep aX (ep id q):=by
  intro k p aj bm
  have br:k≠id:=fun h=>by
   subst h;simp[aD,Ne.symm aj,pR,aj]at bm
  refine⟨br,?_⟩
  rw[ah k aj br]at bm
  cases ai:aD s.heap k with
  |none=>simp[ai]at bm
  |some q=>simp[ai]at bm;exact⟨q,rfl,bm.symm⟩
 refine⟨h.defers,by simpa[hW]using h.size,fun i x hx=>?_,⟨fun k p aj=>?_,fun k bk p fW b aj ey ak gG bf en=>?_,fun b ag=>?_,fun b ag=>Nat.lt_of_lt_of_le (h.heap.lt b ag) bQ⟩,
  h.h3.keep cc fun _ h=>h,?_,h.base⟩
 ·obtain⟨z,aV,rfl⟩:=hH aX hx
  obtain⟨y,ax,rfl⟩:=hH id aV;exact key _ _ (h.slot i y ax)
 ·by_cases br:k=aX
  ·subst k
   rw[tF]at aj;simp only[Option.some.injEq]at aj;subst aj;exact dj
  ·obtain⟨gM,q,aJ,rfl⟩:=dJ k p br aj
   have gH:=h.heap.c6 k q aJ
   have b7:q.live=true→∀b,b5 (β k)=some b→w'.heap[b]? =w.heap[b]? :=fun ar b bf=>
    hw b (gH.hB ar bf) fun jD=>gM (h.heap.inj k id q _ b aJ bb ar rfl bf jD)
   cases gH with
   |box t cs b arr aa ae av aQ=>
    refine .box t _ b arr (by rw[c0 _ _ br];exact aa) ((b7 rfl b (by rw[aa];rfl)).trans ae) (by rw[hW,hW];exact av) fun j x af=>?_
    obtain⟨z,aV,rfl⟩:=hH aX af;obtain⟨y,ax,rfl⟩:=hH id aV;exact key _ _ (aQ j y ax)
   |row t n es xs aa ae av=>exact .row t n es xs (by rw[c0 _ _ br];exact aa.keep (fun b ad=>b7 rfl b ad) bQ) ae fun j x af=>(av j x af).keep cc fun _ h=>h
   |gb t n es aa=>exact .gb t n es (by rw[c0 _ _ br];exact aa.keep cc fun _ h=>h)
   |bK bM b o aa ae av=>exact .bK bM b o (by rw[c0 _ _ br];exact aa) ((b7 rfl b aa).trans ae) (by rw[c0 _ _ br];exact bM.mono _ _ _ _ (fun x c h=>h.keep cc fun _ h=>h) av)
 ·by_cases br:k=aX
  ·by_cases gI:bk=aX
   ·rw[br,gI]
   ·subst k
    rw[dP]at bf;rw[c0 _ _ gI]at en;obtain⟨gM,q,aJ,rfl⟩:=dJ bk fW gI ey;rw[jg,jg]at gG
    have ae:=(h.heap.c6 bk q aJ).hB gG en
    rcases gF b bf with aa|aa
    ·exact absurd (h.heap.inj bk id q _ b aJ bb gG rfl en aa) gM
    ·omega
  ·obtain⟨gM,q,aJ,rfl⟩:=dJ k p br aj
   rw[jg,jg]at ak;rw[c0 _ _ br]at bf
   by_cases gI:bk=aX
   ·subst bk
    rw[dP]at en
    have ae:=(h.heap.c6 k q aJ).hB ak bf
    rcases gF b en with aa|aa
    ·exact absurd (h.heap.inj k id q _ b aJ bb ak rfl bf aa) gM
    ·omega
   ·obtain⟨zee,q',tG,rfl⟩:=dJ bk fW gI ey
    rw[jg,jg]at gG;rw[c0 _ _ gI]at en;exact h.heap.inj k bk q q' b aJ tG ak gG bf en
 ·rintro⟨k,p,aj,ak,bf⟩
  by_cases br:k=aX
  ·subst k
   rw[dP]at bf
   rcases gF b bf with aa|aa
   ·exact h.heap.fe b ag ⟨id,_,bb,rfl,aa⟩
   ·have:=h.heap.lt b ag;omega
  ·obtain⟨gM,q,aJ,rfl⟩:=dJ k p br aj
   rw[jg,jg]at ak;rw[c0 _ _ br]at bf;exact h.heap.fe b ag ⟨k,q,aJ,ak,bf⟩
 ·have t:=h.trans
  refine⟨oo.trans t.os,oq.trans t.tape,kk.trans t.output,Nat.le_trans t.size bQ,fun b hC gf=>?_,t.jb,t.jR,?_,fun k aj p bm=>?_,fun k p bm=>?_,t.le⟩
  ·by_cases jD:b5 (β id)=some b
   ·rcases t.gY b ⟨id,_,bb,rfl,jD⟩with hc|hc
    ·exact absurd hc gf
    ·omega
   ·rw[hw b (Nat.lt_of_lt_of_le hC t.size) jD]
    exact t.frame b hC gf
  ·rintro b ⟨k,p,aj,ak,bf⟩
   by_cases br:k=aX
   ·subst k
    rw[dP]at bf
    rcases gF b bf with aa|aa
    ·exact t.gY b ⟨id,_,bb,rfl,aa⟩
    ·exact .inr (Nat.le_trans t.size aa)
   ·obtain⟨gM,q,aJ,rfl⟩:=dJ k p br aj
    rw[jg,jg]at ak;rw[c0 _ _ br]at bf;exact t.gY b ⟨k,q,aJ,ak,bf⟩
  ·have br:k≠aX:=by have:=h.base;omega
   obtain⟨gM,q,aJ,rfl⟩:=dJ k p br bm;rw[c0 _ _ br];exact t.dJ k aj q aJ
  ·by_cases br:k=aX
   ·subst k;exact bI
   ·obtain⟨gM,q,aJ,rfl⟩:=dJ k p br bm
    exact t.new k q aJ
end
section
variable {P:Program} {G:a8} {o:Oper} {s:aO}
theorem zef(x y:Operand)(t:TypeId)(an:o.op= .call {callee:=.builtin .append,args:=#[x,y],argTypes:=#[t,t]}){e n bytes:Nat}(aH:pS P t=some (e,n,bytes))
 {id:Nat}(hx:aI G s x= .aM id){es:List (List a1)}(bb:aD s.heap id=some (.row false e n es))(ad:s.base≤s.next)
 {fs:List (List a1)}(ax:ft s.heap n (aI G s y)=some fs)(bQ:es.length+fs.length≤maxLen∧(es.length+fs.length)*bytes≤140737488355328):
 dO P G o s (aO.put ⟨ed id s.cO,(s.next,.row false e n (es++fs))::du id s.heap,s.next+1,s.base⟩ o.dst (.aM s.next)):=by
 intro E a w ⟨β,ro,ag⟩ K Q hK
 obtain⟨i,z,hu,hi,aV,ik,ji,e8,hn⟩:=pF aH
 obtain⟨b,cap,hc,l2,oA,f,hX,oB⟩:=vW ag.heap (ag.eval y) ax
 have dj:=ag.heap.c6 id _ bb
 cases dj with
 |row _ _ _ xs cZ b7 eV=>
  have lj:a.eval x=β id:=by
   have h:=ag.eval x
   rw[hx]at h;generalize a.eval x=c at h
   cases h with
   |aM _ _ _ ak=>exact ak _ _ _ _ bb
  obtain⟨nt,oC,qW⟩:=yX l2 oB
  obtain⟨bg,w',cn,kn,cQ,bf⟩:=Cm (P:=P) t o.type e hu hi aV ik ji e8 hn cZ (b:=b) (m:=fs.length) (cap:=cap) nt (fun ad=>by rw[oA ad];rfl)
   (fun bc a6 j u af=>by
    have cJ:=(List.getElem?_eq_some_iff.1 af).1
    rw[nt]at cJ
    have aa:=hX bc a6 j cJ
    simp[cJ]at af
    rw[aa,af]) oC bQ.1 bQ.2
  unfold Oper.wp;simp only[execOp,an,resolve,invoke,builtin,Sem.run_bind,Sem.run_pure,Result.andThen_ok,List.map_toArray,List.map_cons,List.map_nil,lj,hc,cn]
  have jd: ∀k,k<w.heap.size→b5 (β id)≠some k→w'.heap[k]? =w.heap[k]? :=fun k aj b7=>cQ.block k aj (fun e=>b7 e.symm)
  have cc: ∀k,ro k→w'.heap[k]? =w.heap[k]? :=fun k aj=>jd k (ag.heap.lt k aj) fun bf=>ag.heap.fe k aj ⟨id,_,bb,rfl,bf⟩
  refine hK _ _ ⟨gN β s.next bg,ro,c3.put (ag.Kv (w':=w') id ad bb (.row false e n (es++fs)) bg cQ.os cQ.tape cQ.output cQ.size jd bf rfl ?_) o.dst _ _ ?_⟩
  ·refine .row e n _ _ (by rw[dP,List.length_append];exact kn) (fun ay jT=>?_) (fun j x af=>?_)
   ·rw[List.mem_append]at jT
    rcases jT with h|h
    ·exact b7 _ h
    ·exact l2 _ h
   ·exact(vX b7 cZ.1 eV qW j x af).keep cc fun _ h=>h
  ·exact .aM _ _ (Nat.lt_succ_self _) fun z bz cH dN _=>(dP _ _ _).symm
theorem zeg(x y:Operand)(t u:TypeId)(an:o.op= .call {callee:=.builtin .append,args:=#[x,y],argTypes:=#[t,u]}){e:TypeId}(aH:wW P t u=some e)
 {id:Nat}(hx:aI G s x= .aM id){es:List (List a1)}(bb:aD s.heap id=some (.row false e 1 es))(ad:s.base≤s.next)
 {b:ByteArray}(ax:aI G s y= .au (.v (.string b)))(bQ:es.length+b.size≤maxLen∧es.length+b.size≤140737488355328):
 dO P G o s (aO.put ⟨ed id s.cO,(s.next,.row false e 1 (es++(ez b).map fun z=>[a1.v (.int .u8 z)]))::du id s.heap,s.next+1,s.base⟩ o.dst (.aM s.next)):=by
 intro E a w ⟨β,ro,ag⟩ K Q hK
 obtain⟨i,hu,ai,hi,aV,ik,ji⟩:=Ku aH
 have dj:=ag.heap.c6 id _ bb
 cases dj with
 |row _ _ _ xs cZ b7 eV=>
  have lj:a.eval x=β id:=by
   have h:=ag.eval x
   rw[hx]at h;generalize a.eval x=c at h
   cases h with
   |aM _ _ _ ak=>exact ak _ _ _ _ bb
  obtain⟨bg,w',cn,kn,cQ,bf⟩:=Kr (P:=P) t u o.type e hu ai hi aV ik ji cZ b bQ.1 bQ.2;obtain⟨c1,di⟩:=Kt (w:=w) (ro:=ro) b;unfold Oper.wp;simp only[execOp,an,resolve,invoke,builtin,Sem.run_bind,Sem.run_pure,Result.andThen_ok,List.map_toArray,List.map_cons,List.map_nil,lj,ag.ec ax,cn]
  have jd: ∀k,k<w.heap.size→b5 (β id)≠some k→w'.heap[k]? =w.heap[k]? :=fun k aj b7=>cQ.block k aj (fun e=>b7 e.symm)
  have cc: ∀k,ro k→w'.heap[k]? =w.heap[k]? :=fun k aj=>jd k (ag.heap.lt k aj) fun bf=>ag.heap.fe k aj ⟨id,_,bb,rfl,bf⟩
  refine hK _ _ ⟨gN β s.next bg,ro,c3.put (ag.Kv (w':=w') id ad bb (.row false e 1 (es++(ez b).map fun z=>[a1.v (.int .u8 z)])) bg cQ.os cQ.tape cQ.output cQ.size jd bf rfl ?_) o.dst _ _ ?_⟩
  ·refine .row e 1 _ _ (by rw[dP,List.length_append,c1];exact kn) (fun ay jT=>?_) (fun j x af=>?_)
   ·rw[List.mem_append]at jT
    rcases jT with h|h
    ·exact b7 _ h
    ·obtain⟨z,_,rfl⟩:=List.mem_map.1 h
     rfl
   ·exact(vX b7 cZ.1 eV di j x af).keep cc fun _ h=>h
  ·exact .aM _ _ (Nat.lt_succ_self _) fun z bz cH dN _=>(dP _ _ _).symm
end
section
theorem cl.zeh{s bn:aO}(id off m k gK n:Nat){t:TypeId}{cs:List aC}{es:List (List a1)}(bb:aD s.heap id=some (.box t cs))(hm:aD s.heap m=some (.row false gK n es))(hc:cs[off]? =some (.aM m))(ad:s.base≤k)(bI:k<s.next)(uA:id≠k)
 (h:(⟨ed k (ed m s.cO),eL ((k,.row false gK n es)::du k (du m s.heap)) id (.box t ((ed k (ed m cs)).set off (.aM k))),s.next,s.base⟩:aO)=bn):cl s bn:=by
 subst h
 intro E G a w ⟨β,ro,ag⟩
 have zei:id≠m:=fun h=>by rw[h,hm]at bb;cases bb
 have Kw:=ag.heap.c6 m _ hm
 have fb:=ag.R0 (w':=w) m k ad bI hm (.row false gK n es) (β m) rfl rfl rfl (Nat.le_refl _) (fun _ _ _=>rfl) (fun _ ad=>.inl ad) rfl (by
  cases Kw with
  |row _ _ _ xs aa ae av=>exact .row gK n es xs (by rw[dP];exact aa) ae av)
 have ub:aD ((k,.row false gK n es)::du k (du m s.heap)) id=some (.box t (ed k (ed m cs))):=by
  simp only[aD,if_neg (Ne.symm uA),pR,if_neg uA,if_neg zei,bb,Option.map_some,ep]
 have dj:=fb.heap.c6 id _ ub
 have zej:=ag.heap.c6 id _ bb
 cases zej with
 |box _ _ nF Kx g1 g2 g3 g4=>
  cases dj with
  |box _ _ b arr aa ae av aQ=>
   have r9:=aa
   rw[c0 _ _ uA,g1]at r9
   have zek:nF=b:=by simpa using r9
   subst zek
   have re:Kx=arr:=by
    have:=g2.symm.trans ae
    simpa using this
   subst re;refine⟨_,ro,fb.write id _ _ ub rfl rfl (.inl ⟨_,_,_,rfl,rfl⟩) rfl rfl rfl (Nat.le_refl _) (fun _ _ _=>rfl) (.box t _ nF Kx aa ae (by rw[av,List.length_set]) fun j x af=>?_)⟩
   rw[List.getElem?_set]at af
   split at af
   ·rename_i aA
    subst aA
    split at af
    ·simp only[Option.some.injEq]at af
     subst af
     have aw:=g4 off _ hc
     generalize Kx.getD off undef=bP at aw⊢
     cases aw with
     |aM _ _ _ ak=>
      refine .aM _ _ bI fun z bz cH dN _=>?_
      rw[ak _ _ _ _ hm];exact(dP _ _ _).symm
    ·cases af
   ·exact IB ub (aQ j x af) fun _ _=>rfl
end
end Go.aK
