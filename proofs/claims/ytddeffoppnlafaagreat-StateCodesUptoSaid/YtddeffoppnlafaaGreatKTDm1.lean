/- TD, part K: calls that see all own blocks. Conditions: none. -/
import Derived.Test.YtddeffoppnlafaaGreatKTDj
import Derived.Test.YtddeffoppnlafaaGreatKSMz
import Derived.Test.YtddeffoppnlafaaGreatKTDa
import Derived.Lib.AppendStr
namespace Go.aK
open Go
def GN:ec→ec→Prop
 | .box _ _,.box _ _=>True
 | .row _ _ n _,.row _ _ m _=>n=m
 | .bI _,.bI _=>True
 |_,_=>False
section
variable {w w':World} {ro ro':Nat→Prop} {σ cU:Heap} {β cK:Nat→Value} {N mN:Nat}
theorem bA.move{x:aC}{c:Value}(h:bA w ro σ β N x c)(hw: ∀b,ro b→w'.heap[b]? =w.heap[b]?)(cr: ∀b,ro b→ro' b)(me:N≤mN)
 (an: ∀id o,id<N→aE cU id=some o→cK id=β id∧∃cb,aE σ id=some cb∧GN cb o):bA w' ro' cU cK mN x c:=by
 induction h with
 |ad x c hx=>exact .ad x c (hx.keep hw cr)
 |agg cs c ao _ aY=>exact .agg cs c ao aY
 |tuple cs c ao _ aY=>exact .tuple cs c ao aY
 |ptr id off c av ar=>
  refine .ptr id off c (by omega) fun t cs ai=>?_
  obtain⟨ag,cb,dQ,ao⟩:=an id _ av ai
  cases cb with
  |box bh cs'=>
   obtain⟨b,ab,ae⟩:=ar bh cs' dQ;exact⟨b,ag.trans ab,ae⟩
  |_=>exact ao.elim
 |dN id off c av ar=>
  refine .dN id off c (by omega) fun t cs ai=>?_
  obtain⟨ag,cb,dQ,ao⟩:=an id _ av ai
  cases cb with
  |box bh cs'=>
   obtain⟨b,ab,ae⟩:=ar bh cs' dQ;exact⟨b,ag.trans ab,ae⟩
  |_=>exact ao.elim
 |dg id i off c av ar=>
  refine .dg id i off c (by omega) fun z t n es ai=>?_
  obtain⟨ag,cb,dQ,ao⟩:=an id _ av ai
  cases cb with
  |row hs bh bL eD=>
   have ao:bL=n:=ao
   subst ao;obtain⟨b,l,ht,ab,ae⟩:=ar hs bh bL eD dQ;exact⟨b,l,ht,ag.trans ab,ae⟩
  |_=>exact ao.elim
 |aq id c av ar=>
  refine .aq id c (by omega) fun z t n es ai=>?_
  obtain⟨ag,cb,dQ,ao⟩:=an id _ av ai
  cases cb with
  |row hs bh bL eD=>rw[ag];exact ar hs bh bL eD dQ
  |_=>exact ao.elim
 |fn f p q c d ab ae _ _ hv hy=>exact .fn f p q c d ab ae hv hy
 |ref id c av ar=>
  refine .ref id c (by omega) fun bH ai=>?_
  obtain⟨ag,cb,dQ,ao⟩:=an id _ av ai
  cases cb with
  |bI km=>rw[ag];exact ar km dQ
  |_=>exact ao.elim
 |top c=>exact .top c
end
section
variable {P:Program} {G:aR} {s:aQ} {E:Entry} {a:Act} {w w':World} {β:Nat→Value} {ro:Nat→Prop}
variable {o:Oper}
theorem II{x:Operand}{xs:Array Operand}{f:Fn}{p q:List aC}{c d:Array Value}(h:dn E G s a w β ro)(ab:c.size=p.length)(ae:d.size=q.length)(kn: ∀(j:Nat) (x:aC),p[j]? =some x→bA w ro s.heap β s.next x (c.getD j undef))(sB: ∀(j:Nat) (x:aC),q[j]? =some x→bA w ro s.heap β s.next x (d.getD j undef)):
 ∀(i:Nat) (y:aC),(p++xs.toList.map (aP G s)++q)[i]? =some y→bA w ro s.heap β s.next y ((c++xs.map a.eval++d).getD i undef):=fun i y aA=>by
 rw[Array.getD_eq_getD_getElem?]
 rcases Nat.lt_or_ge i (p.length+xs.size)with hi|hi
 ·rw[List.getElem?_append_left (by simpa using hi)]at aA
  rw[Array.getElem?_append_left (by simpa[ab]using hi)]
  rcases Nat.lt_or_ge i p.length with o8|o8
  ·rw[List.getElem?_append_left o8]at aA
   rw[Array.getElem?_append_left (by omega),←Array.getD_eq_getD_getElem?]
   exact kn i y aA
  ·rw[List.getElem?_append_right o8,List.getElem?_map]at aA
   rw[Array.getElem?_append_right (by omega),ab]
   cases aT:xs.toList[i-p.length]? with
   |none=>simp[aT]at aA
   |some z=>
    simp only[aT,Option.map_some,Option.some.injEq]at aA;subst aA
    have lP:xs[i-p.length]? =some z:=by simpa using aT
    simp only[Array.getElem?_map,lP,Option.map_some,Option.getD_some]
    exact h.eval z
 ·rw[List.getElem?_append_right (by simpa using hi)]at aA
  rw[Array.getElem?_append_right (by simpa[ab]using hi),←Array.getD_eq_getD_getElem?]
  have:=sB _ y aA
  simpa[ab]using this
def p2(P:Program)(G:aR)(o:Oper)(s:aQ)(f:FuncId)(p q:List aC)(xs:Array Operand):Prop:=
 ∀E a w β ro,dn E G s a w β ro→∃c d:Array Value,c.size=p.length∧d.size=q.length∧(∀(j:Nat) (x:aC),p[j]? =some x→bA w ro s.heap β s.next x (c.getD j undef))∧(∀(j:Nat) (x:aC),q[j]? =some x→bA w ro s.heap β s.next x (d.getD j undef))∧
  ∀br,(execOp a.eval o).run P br=(callFunc f (c++xs.map a.eval++d)).run P br
theorem p2.value{x:Operand}{xs:Array Operand}{ts:Array TypeId}(au:o.op= .call {callee:=.value x,args:=xs,argTypes:=ts}){f:FuncId}{p q:List aC}(hx:aP G s x= .fn (.func f) p q):p2 P G o s f p q xs:=by
 intro E a w β ro h
 have qB:=h.eval x
 rw[hx]at qB
 generalize he:a.eval x=Eh at qB
 cases qB with
 |fn _ _ _ c d ab ae kn sB=>
  refine⟨c,d,ab,ae,kn,sB,fun br=>?_⟩
  simp only[execOp,au,resolve,he,Deferred.ofValue,Sem.run_bind,Sem.run_pure,Result.andThen_ok,invoke]
def methodOf(P:Program)(t:TypeId)(name:String):Option Nat:=
 match P.info? t,P.underlying t with
 |some i,some d=>match i.methods.find? (·.name==name),(match d with
  | .pointer _=>false
  |_=>true)with
  |some m,true=>match m.path.isEmpty,m.func with
   |true,some (f,false)=>some f
   |_,_=>none
  |_,_=>none
 |_,_=>none
theorem ze2{t:TypeId}{name:String}{f:Nat}(h:methodOf P t name=some f)(v:Value)(n:Nat)(w:World):(method (n+1) t v name).run P w= .ok (f,v) w:=by
 unfold methodOf at h
 split at h
 ·rename_i i d hi hd
  split at h
  ·rename_i m hm ar
   split at h
   ·rename_i g s3 o5
    cases h
    have s7:m.path.toList=[]:=by
     have:=Array.isEmpty_iff.1 s3
     rw[this]
    unfold method;simp only[Sem.run_bind,typeInfo,hi,Sem.run_pure,Result.andThen_ok,hm,s7,follow,o5]
    cases d<;>first|(cases ar;done)|simp[receiverAt,run_underlying hd,Place.get,Result.andThen,typeInfo,hi,hm,s7,follow,o5]
   ·cases h
  ·cases h
 ·cases h
theorem p2.invoke{y:aC}{x:Operand}{xs:Array Operand}{ts:Array TypeId}{name:String}(au:o.op= .call {callee:=.invoke x name,args:=xs,argTypes:=ts}){t:TypeId}{f:Nat}(hm:methodOf P t name=some f)
 (az: ∀E a w β ro,dn E G s a w β ro→∃v,a.eval x= .iface t v∧bA w ro s.heap β s.next y v):p2 P G o s f [y] [] xs:=by
 intro E a w β ro h
 obtain⟨v,he,ah⟩:=az E a w β ro h
 refine⟨#[v],#[],rfl,rfl,fun j z aj=>?_,fun j z aj=>by simp at aj,fun br=>?_⟩
 ·cases j with
  |zero=>simp at aj;subst aj;exact ah
  |succ j=>simp at aj
 ·have hex:(#[Value.iface t v]++xs.map a.eval).extract 1 (#[Value.iface t v]++xs.map a.eval).size=xs.map a.eval:=by
   apply Array.ext';simp only[Array.toList_extract,Array.toList_append,Array.size_append];simp[List.extract];exact List.take_of_length_le (by simp)
  have ze3:=fun n=>ze2 (P:=P) hm v n br
  have hd:P.types.size+Made.depth=(P.types.size+99)+1:=rfl
  simp only[execOp,au,resolve,he,Sem.run_bind,Sem.run_pure,Result.andThen_ok,Go.invoke]
  have aS:(#[Value.iface t v]++xs.map a.eval)[0]? =some (.iface t v):=by rw[Array.getElem?_append_left (by show 0<1;decide)];rfl
  rw[hex,aS]
  have ar: ∀k:Program→Sem Next,((program >>= k):Sem Next).run P br=(k P).run P br:=fun k=>rfl
  show((program >>= fun Ck=>method (Ck.types.size+Made.depth) t v name >>= fun x=>callFunc x.1 (#[x.2]++xs.map a.eval)):Sem Next).run P br=_;rw[ar,Sem.run_bind,hd,ze3,Result.andThen_ok,Array.append_empty]
theorem Up{xs:Array Operand}{f:FuncId}{p q:List aC}(oa:p2 P G o s f p q xs)(hJ:nr P f=true)
 {R:aC→Heap→Prop}(hc:eJ P G f (p++xs.toList.map (aP G s)++q) s.heap s.next R){s':aQ→Prop}
 (ib: ∀r cc,R r cc→∃m,s.next≤m∧iq m r=true∧kU m cc=true∧(∀id o,id<s.next→aE cc id=some o→∃cb,aE s.heap id=some cb∧GN cb o)∧s' (aQ.put ⟨s.db,cc,m,s.base⟩ o.dst r)):
 ∀(E:Entry) (a:Act) (w:World),Rel E G s a w→∀(K:Act→World→Prop) (Q:Exit→Act→World→Prop),(∀t,s' t→∀bb w',Rel E G t bb w'→K bb w')→o.wp P a w K Q:=by
 intro E a w ⟨β,ro,h⟩ K Q hK
 obtain⟨c,d,ab,ae,kn,sB,cy⟩:=oa E a w β ro h
 ·unfold Oper.wp
  rw[cy w,AI hJ]
  have gY:=hc w β ro (c++xs.map a.eval++d) (by simp[ab,ae,Nat.add_assoc]) (II (x:=.const undef) (f:=.func f) h ab ae kn sB) h.heap h.hL h.trans.new
  refine Calls.mono gY fun e w' aG=>?_
  obtain⟨v,r,cc,cK,ro',bL,rfl,ah,dE,gf,cI⟩:=aG;obtain⟨m,hm,ze4,Uq,BZ,fK⟩:=ib r cc ah
  have hw: ∀b,ro b→w'.heap[b]? =w.heap[b]? :=fun b ag=>cI.frame b (h.heap.lt b ag) (h.heap.e8 b ag)
  have cr: ∀b,ro b→ro' b:=cI.gA
  have an: ∀id o,id<s.next→aE cc id=some o→cK id=β id∧∃cb,aE s.heap id=some cb∧GN cb o:=fun id o bE ai=>⟨(cI.ea id bE o ai).2,BZ id o bE ai⟩
  have gh:dn E G ⟨s.db,cc,m,s.base⟩ a w' cK ro':=by
   refine⟨h.defers,h.size,fun i x hx=>(h.slot i x hx).move hw cr hm an,⟨fun id o ai=>?_,gf.inj,gf.e8,gf.lt⟩,h.hL.keep hw cr,?_,h.base⟩
   ·obtain⟨_,v7⟩:=qc Uq ai
    cases gf.dq id o ai with
    |box t cs b arr aD bg cM dU=>exact .box t cs b arr aD bg cM fun j x aj=>(dU j x aj).lower (ru (v7 t cs rfl) aj)
    |row t n es xs aD bg cM=>exact .row t n es xs aD bg cM
    |fW t n es aD=>exact .fW t n es aD
    |bI bH b o aD bg cM=>exact .bI bH b o aD bg cM
   ·have t:=h.trans
    refine⟨cI.os.trans t.os,cI.tape.trans t.tape,cI.output.trans t.output,Nat.le_trans t.size cI.size,fun b ag hn=>?_,fun b ag=>?_,fun b ag=>cr b (t.gA b ag),fun b ag=>?_,fun id bE o ai=>?_,fun id o ai=>(qc Uq ai).1,Nat.le_trans t.le hm⟩
    ·rw[←t.frame b ag hn]
     refine cI.frame b (Nat.lt_of_lt_of_le ag t.size) fun h6=>?_
     rcases t.fU b h6 with q|q
     ·exact hn q
     ·omega
    ·rcases cI.hz b ag with q|q|q
     ·exact t.hz b q
     ·rcases t.fU b q with q|q
      ·exact .inr (.inl q)
      ·exact .inr (.inr q)
     ·exact .inr (.inr (Nat.le_trans t.size q))
    ·rcases cI.fU b ag with q|q
     ·exact t.fU b q
     ·exact .inr (Nat.le_trans t.size q)
    ·have vQ:id<s.next:=Nat.lt_of_lt_of_le bE t.le
     obtain⟨ab,ae⟩:=an id o vQ ai;obtain⟨cb,aw,_⟩:=ae;obtain⟨dp,di⟩:=t.ea id bE cb aw;exact⟨dp,ab.trans di⟩
  exact hK _ fK _ _ ⟨cK,ro',gh.put o.dst r v (dE.lower ze4)⟩
end
end Go.aK
namespace Go.aK
open Go
inductive xa:ec→ec→Prop where
 |same (o:ec):xa o o
 |box (t:TypeId) {cs ds:List aC}:gu cs ds→xa (.box t cs) (.box t ds)
 |row (t:TypeId) (n:Nat) {es fs:List (List aU)}:es.length=fs.length→(∀e∈fs,e.length=n)→hD es.flatten fs.flatten→xa (.row false t n es) (.row false t n fs)
def r4(s t:aQ):Prop:=∀E (G:aR) a w β ro,dn E G s a w β ro→dn E G t a w β ro
theorem r4.le{s t:aQ}(h:r4 s t):bV s t:=fun E G a w ⟨β,ro,ah⟩=>⟨β,ro,h E G a w β ro ah⟩
theorem r4.of{s t:aQ}(ag:t.base=s.base)(hn:s.next≤t.next)(av:t.db.length=s.db.length)(ao: ∀(i:Nat) (v:aC),t.db[i]? =some v→∃u,s.db[i]? =some u∧Sub u v)
 (aV: ∀(id:Nat) (o:ec),aE t.heap id=some o→∃cb,aE s.heap id=some cb∧xa cb o):r4 s t:=by
 intro E G a w β ro h
 have mO: ∀id ty cs,aE t.heap id=some (.box ty cs)→β id=β id∧∃ty cs,aE s.heap id=some (.box ty cs):=fun id ty cs ai=>by
  obtain⟨cb,ab,ae⟩:=aV id _ ai
  cases ae with
  |same=>exact⟨rfl,ty,cs,ab⟩
  |box _ h=>exact⟨rfl,_,_,ab⟩
 have dM: ∀id z ty n es,aE t.heap id=some (.row z ty n es)→β id=β id∧∃z ty es,aE s.heap id=some (.row z ty n es):=fun id z ty n es ai=>by
  obtain⟨cb,ab,ae⟩:=aV id _ ai
  cases ae with
  |same=>exact⟨rfl,z,ty,es,ab⟩
  |row _ _=>exact⟨rfl,_,_,_,ab⟩
 have nq: ∀id bH,aE t.heap id=some (.bI bH)→β id=β id∧∃bH,aE s.heap id=some (.bI bH):=fun id bH ai=>by
  obtain⟨cb,ab,ae⟩:=aV id _ ai
  cases ae with
  |same=>exact⟨rfl,bH,ab⟩
 have hex: ∀id o,aE t.heap id=some o→∃cb,aE s.heap id=some cb∧cb.live=o.live:=fun id o ai=>by
  obtain⟨cb,ab,ae⟩:=aV id o ai
  cases ae<;>exact⟨_,ab,rfl⟩
 have own: ∀b,Own t.heap β b→Own s.heap β b:=fun b ⟨id,o,ai,L2,bc⟩=>by
  obtain⟨cb,ab,ae⟩:=hex id o ai;exact⟨id,cb,ab,by rw[ae];exact L2,bc⟩
 refine⟨h.defers,by rw[av];exact h.size,fun i x hx=>?_,⟨fun id o ai=>?_,fun id iw o cb b ab ae aw aM bn cl=>?_,fun b ag au=>h.heap.e8 b ag (own b au),h.heap.lt⟩,h.hL,?_,by rw[ag];exact h.base⟩
 ·obtain⟨u,hu,fC⟩:=ao i x hx
  exact(fC _ _ _ _ _ _ (h.slot i u hu)).keep (fun _ _=>rfl) (fun _ h=>h) hn mO dM nq
 ·obtain⟨cb,ab,ze5⟩:=aV id o ai
  have dS:=(h.heap.dq id cb ab).keep (fun _ _=>rfl) (fun _ h=>h) hn (Nat.le_refl _) rfl (fun _ _ _=>rfl) mO dM nq
  cases ze5 with
  |same=>exact dS
  |box ty fC=>
   cases dS with
   |box _ _ b arr aD bg cM dU=>
    refine .box ty _ b arr aD bg (by rw[cM,fC.at.1]) fun j x aj=>?_
    obtain⟨u,hu,M6⟩:=fC.at.2 j x aj;exact M6 _ _ _ _ _ _ (dU j u hu)
  |row ty n av hn fC=>
   cases dS with
   |row _ _ _ xs aD bg cM=>
    refine .row ty n _ xs (by rw[←av];exact aD) hn fun j x aj=>?_
    obtain⟨u,hu,M6⟩:=fC.at.2 j x aj;exact M6 _ _ _ (cM j u hu)
 ·obtain⟨p,g1,g2⟩:=hex id o ab
  obtain⟨gW,g3,g4⟩:=hex iw cb ae;exact h.heap.inj id iw p gW b g1 g3 (by rw[g2];exact aw) (by rw[g4];exact aM) bn cl
 ·have qV:=h.trans
  refine⟨qV.os,qV.tape,qV.output,qV.size,qV.frame,qV.hz,qV.gA,fun b ag=>qV.fU b (own b ag),fun id hi o ai=>?_,fun id o ai=>?_,Nat.le_trans qV.le hn⟩
  ·obtain⟨p,g1,_⟩:=hex id o ai
   exact qV.ea id hi p g1
  ·obtain⟨p,g1,_⟩:=hex id o ai
   exact Nat.lt_of_lt_of_le (qV.new id p g1) hn
theorem bV.of{s t:aQ}(ag:t.base=s.base)(hn:s.next≤t.next)(av:t.db.length=s.db.length)(ao: ∀(i:Nat) (v:aC),t.db[i]? =some v→∃u,s.db[i]? =some u∧Sub u v)
 (aV: ∀(id:Nat) (o:ec),aE t.heap id=some o→∃cb,aE s.heap id=some cb∧xa cb o):bV s t:=(r4.of ag hn av ao aV).le
theorem r4.put{s t:aQ}{i:Nat}{x:aU}(h:r4 s t)(ao:s.db[i]? =some (.ad x)):r4 s (t.put (some i) (.ad x)):=by
 intro E G a w β ro ah
 have aJ:=h E G a w β ro ah
 refine⟨aJ.defers,by simp only[aQ.put,List.length_set];exact aJ.size,fun j y aA=>?_,aJ.heap,aJ.hL,aJ.trans,aJ.base⟩
 simp only[aQ.put,List.getElem?_set]at aA
 split at aA
 ·rename_i e
  subst e
  split at aA
  ·cases aA
   cases ah.slot i (.ad x) ao with
   |ad _ _ az=>exact .ad _ _ az
  ·cases aA
 ·exact aJ.slot j y aA
section
variable {P:Program} {G:aR}
theorem ep.zx{o:Oper}{s t bh:aQ}(h:ep P G o s t)(av:bV t bh):ep P G o s bh:=
 fun E a w ah K Q hK=>h E a w ah K Q fun bb w' dF=>hK bb w' (av E G bb w' dF)
theorem Ur{s:aQ}{dst:Option Nat}{v bu:aC}(h:Sub v bu):bV (s.put dst v) (s.put dst bu):=by
 cases dst with
 |none=>exact bV.refl _
 |some d=>
  refine bV.of rfl (Nat.le_refl _) (by simp[aQ.put]) (fun i u hu=>?_) (fun id o au=>⟨o,au,.same o⟩)
  simp only[aQ.put,List.getElem?_set]at hu⊢
  split at hu
  ·rename_i e
   rw[if_pos e]
   split at hu
   ·rename_i bE
    cases hu;rw[if_pos bE];exact⟨_,rfl,h⟩
   ·cases hu
  ·rename_i e
   rw[if_neg e];exact⟨u,hu,Sub.refl _⟩
theorem Us{s:aQ}{h':Heap}{dst:Option Nat}{v:aC}(aV: ∀id o,aE h' id=some o→∃cb,aE s.heap id=some cb∧xa cb o):bV (s.put dst v) (aQ.put {s with heap:=h'} dst v):=by
 cases dst with
 |none=>exact bV.of rfl (Nat.le_refl _) rfl (fun i u hu=>⟨u,hu,Sub.refl _⟩) aV
 |some d=>exact bV.of rfl (Nat.le_refl _) rfl (fun i u hu=>⟨u,hu,Sub.refl _⟩) aV
theorem M7: ∀{l m:List aU},gu (l.map .ad) (m.map .ad)→hD l m
 |[],[],_=>.nil
 |[],_::_,h=>by cases h
 |_::_,[],h=>by cases h
 |x::l,y::m,h=>by
  cases h with
  |cons ab ae=>
   refine .cons (fun w ro c hc=>?_) (M7 ae)
   have:=ab w ro [] (fun _=>undef) 0 c (.ad x c hc)
   cases this with
   |ad _ _ h=>exact h
theorem hD.refl: ∀(l:List aU),hD l l
 |[]=>.nil
 |x::r=>.cons (m8.refl x) (hD.refl r)
theorem hD.append{a b c d:List aU}(h:hD a b)(k:hD c d):hD (a++c) (b++d):=by
 induction h with
 |nil=>exact k
 |cons h _ aY=>exact .cons h aY
end
section
variable {P:Program} {G:aR} {s:aQ}
theorem ze6{o:Oper}(t:TypeId)(len:Nat)(parts:Array (Nat × Operand))(au:o.op= .buildSlice t len parts){e n:Nat}(hu:P.underlying t=some (.slice e))(bT:(P.info? e).map (·.size)=some n)
 {zs:List Value}(aT:zeroCells P e=some zs)(qC:zs.all Value.oneCell'=true)(k4:zs.length=n)(hlen:0<len*n∧len*n≤16777216)
 {ps:List (Nat × aC)}(s8:parts.toList.map (fun p=>(p.1,aP G s p.2))=ps)(fi:ps.all (fun p=>(c1 p.2).all (eZ s.heap))=true)
 {ds:List aC}(hf:kk (fun i=>some (i*n,n)) ((List.replicate len (zs.map fun z=>aC.ad (.v z))).flatten) ps=some ds)(ag:s.base≤s.next):
 ep P G o s ({s with heap:=(s.next,.box e ds)::s.heap,next:=s.next+1}.put o.dst (.dN s.next len)):=by
 have oG:ds.length=len*n:=by
  have: ∀(ps:List (Nat × aC)) (cs ds:List aC),kk (fun i=>some (i*n,n)) cs ps=some ds→ds.length=cs.length:=by
   intro ps
   induction ps with
   |nil=>intro cs ds h;simp[kk]at h;rw[h]
   |cons p r aY=>
    intro cs ds h;obtain⟨i,v⟩:=p;simp only[kk]at h
    split at h
    ·rename_i hc
     rw[aY _ _ h,po _ _ _ (by omega)]
    ·cases h
  rw[this ps _ _ hf,jh (n:=n) (fun e he=>by rw[List.mem_replicate]at he;rw[he.2];simpa using k4)]
  simp
 intro E a w ⟨β,ro,ah⟩ K Q hK
 obtain⟨ab,ae⟩:=LO ah s8 fi
 obtain⟨z,nJ,oC,_⟩:=yM aT w
 have fx:(List.replicate len (zs.map fun z=>aC.ad (.v z))).flatten.length=len*n:=by
  rw[jh (n:=n) (fun e he=>by rw[List.mem_replicate]at he;rw[he.2];simpa using k4)];simp
 have zc4:zs.toArray.size=n:=by simpa using k4
 have px:0<n:=by
  rcases Nat.eq_zero_or_pos n with h|h
  ·rw[h]at hlen;simp at hlen
  ·exact h
 obtain⟨ys,g1,g2,g3⟩:=F2 (place':=fun i=>some (i*n,n)) (fun _ _ h=>h) ah.heap hf ab ae (xs:=(Array.range (len*n)).map fun x=>zs.toArray[x%zs.toArray.size]!) (by rw[fx];simp) (fun j x aj=>by
  have dj:j<len*n:=by rw[←fx];exact(List.getElem?_eq_some_iff.1 aj).1
  have hm:j=(j/ n)*n+j%n:=by rw[Nat.mul_comm];exact(Nat.div_add_mod j n).symm
  have lX:j%n<n:=Nat.mod_lt _ px
  have lY:j/ n<len:=by rw[Nat.div_lt_iff_lt_mul px];exact dj
  rw[hm,pk (n:=n) (fun e he=>by rw[List.mem_replicate]at he;rw[he.2];simpa using k4) (i:=j/ n) (e:=zs.map fun z=>aC.ad (.v z)) (by simp[lY]) (j%n) lX]at aj
  have:=LN (w:=w) (ro:=ro) (σ:=s.heap) (β:=β) (N:=s.next) qC (j%n) x aj
  have aD:(Array.map (fun x=>zs.toArray[x%zs.toArray.size]!) (Array.range (len*n))).getD j undef=zs.toArray.getD (j%n) undef:=by
   have aw:j%n<zs.length:=by omega
   simp[dj,k4,List.getElem?_eq_getElem aw]
  rw[aD]
  exact this)
 have cy:(execOp a.eval o).run P w= .ok (.value (.slice (some ⟨w.heap.size,0,none⟩) len len)) (w.alloc (.cells ys e)):=by
  have vW:(sizeOf e).run P w= .ok n w:=by
   cases hi:P.info? e with
   |none=>simp[hi]at bT
   |some i=>simp[hi]at bT;simp[sizeOf,typeInfo,hi,bT]
  have bW: ¬len*n>2^24:=by omega
  have kD: ¬len*n=0:=by omega
  simp only[execOp,au,Sem.run_bind,Instr.buildSlice,run_underlying hu,Result.andThen_ok,vW,if_neg bW,if_neg kD,nJ,Sem.run_pure,oC]
  erw [g1]
  simp[newRow]
 have kr:aE s.heap s.next=none:=by
  cases ai:aE s.heap s.next with
  |none=>rfl
  |some p=>have:=ah.trans.new _ _ ai;omega
 have up: ∀(x:aC) (c:Value),bA w ro s.heap β s.next x c→bA (w.alloc (.cells ys e)) ro ((s.next,.box e ds)::s.heap) (iH β s.next (.pointer (some ⟨w.heap.size,0,none⟩))) (s.next+1) x c:=fun x c hx=>
  hx.move (fun b ag=>(Go.RowKit.Below.heap_alloc w _ b (ah.heap.lt b ag))) (fun _ h=>h) (Nat.le_succ _) fun id o bE ai=>by
   have bW: ¬s.next=id:=by omega
   simp only[aE,if_neg bW]at ai;refine⟨dB _ _ (fun aV=>bW aV.symm),o,ai,?_⟩
   cases o with
   |box=>trivial
   |row=>rfl
   |bI=>trivial
 have gh:=ah.new (w':=w.alloc (.cells ys e)) s.next kr ag (Nat.le_refl _) (.box e ds) (.pointer (some ⟨w.heap.size,0,none⟩)) rfl rfl rfl (by simp) (fun b ag=>Go.RowKit.Below.heap_alloc w _ b ag) (fun b ag=>by simp[cz]at ag;omega) rfl
  (.box e ds w.heap.size ys (by rw[eT]) (heap_alloc_new w _) g2 fun j x aj=>up _ _ (g3 j x aj))
 unfold Oper.wp
 rw[cy]
 exact hK _ _ ⟨_,ro,gh.put o.dst (.dN s.next len) (.slice (some ⟨w.heap.size,0,none⟩) len len) (.dN _ _ _ (Nat.lt_succ_self _) fun t cs _=>⟨_,eT _ _ _,rfl⟩)⟩
end
def af.CQ:af→Bool
 | .bs _ _=>true
 | .fd _ _ _ _=>true
 | .cs _=>true
 | .ip _ _ _=>true
 |_=>false
theorem GO{G:aR}{e:Env}: ∀{l:List af},l.all af.CQ=true→∃vs,jb (af.b0 G e l)=some vs∧af.b0 G e l=vs.map .ad
 |[],_=>⟨[],rfl,rfl⟩
 |x::r,h=>by
  simp only[List.all_cons,Bool.and_eq_true]at h;obtain⟨vs,ab,ae⟩:=GO (G:=G) (e:=e) h.2
  have: ∃y,x.den G e= .ad y:=by
   cases x<;>first|exact⟨_,rfl⟩|(simp[af.CQ]at h)
  obtain⟨y,aA⟩:=this;refine⟨y::vs,?_,?_⟩
  ·simp only[af.b0,aA,jb,ab]
  ·simp only[af.b0,aA,ae,List.map_cons]
mutual
def af.kill(id:Nat):af→af
 | .cA l=>.cA (af.eM id l)
 | .tp l=>.tp (af.eM id l)
 | .eV k o=>match decide (k=id)with
  |true=>.top
  |false=>.eV k o
 | .hW k x o=>match decide (k=id)with
  |true=>.top
  |false=>.hW k x o
 | .ia k o x n=>match decide (k=id)with
  |true=>.top
  |false=>.ia k o x n
 | .aq k=>match decide (k=id)with
  |true=>.top
  |false=>.aq k
 | .cE k n=>match decide (k=id)with
  |true=>.top
  |false=>.cE k n
 | .fQ g (some k) o=>match decide (k=id)with
  |true=>.fQ g none o
  |false=>.fQ g (some k) o
 | .fn f a b=>.fn f (af.eM id a) (af.eM id b)
 | .ie k=>match decide (k=id)with
  |true=>.top
  |false=>.ie k
 | .gv g b x=>.gv g b (af.kill id x)
 |x=>x
def af.eM(id:Nat):List af→List af
 |[]=>[]
 |x::r=>af.kill id x::af.eM id r
end
def bd.map{α:Type}(f:α→α):bd α→bd α
 | .emp=>.emp
 | .n v l r=>.n (match v with|some x=>some (f x)|none=>none) (l.map f) (r.map f)
theorem bd.get_map{α:Type}(f:α→α): ∀(t:bd α) (k:Nat),(t.map f).get k=(t.get k).map f
 | .emp,_=>rfl
 | .n v l r,k=>by
  simp only[bd.map,bd.get]
  split
  ·cases v<;>rfl
  ·split
   ·exact bd.get_map f l _
   ·exact bd.get_map f r _
structure dL where
 xs:List b1
 ns:List gE
 Te:Option Nat
 h:List (Nat × bQ)
 n:Nat
 v:af
def dL.l(r:dL)(l:bd af):bd af:=
 match r.Te with
 |none=>l
 |some id=>l.map (af.kill id)
def dL.st(r:dL)(S:ay)(dst:Option Nat):ay:=({S with l:=r.l S.l,h:=r.h,n:=r.n}:ay).put dst r.v
def nU(P:Program)(G:aR)(N B:Nat)(M:List bo)(o:Oper)(S:ay)(r:dL):Prop:=
 ∀e,(∀c∈S.g,c.ok e)→(∀(j:Nat) (x:b1),r.xs[j]? =some x→Env.at e (S.k+j)=x.den M e)→(∀n∈r.ns,n.ok M e)→ep P G o (S.den G N B e) ((r.st S o.dst).den G N B e)
def M8(P:Program)(B:Nat)(S:ay)(t:TypeId):Option dL:=
 match zeroCells P t with
 |some zs=>match zs.all Value.oneCell'&&Nat.ble B S.n with
  |true=>some ⟨[],[],none,(S.n,.dY t (zs.map .cs))::S.h,S.n+1,.eV S.n 0⟩
  |false=>none
 |none=>none
def M9(B:Nat)(S:ay)(t:TypeId)(x:af):Option dL:=
 match x.cells.all (l5 S.h)&&Nat.ble B S.n with
 |true=>some ⟨[],[],none,(S.n,.dY t x.cells)::S.h,S.n+1,.eV S.n 0⟩
 |false=>none
def Na(P:Program)(S:ay)(t:TypeId)(p x:af):Option dL:=
 match p with
 | .eV id off=>match dK S.h id,(P.info? t).map (·.size)with
  |some (.dY bt l),some n=>match x.cells.all (l5 S.h)&&(Nat.beq n x.cells.length&&Nat.ble (off+n) l.length)with
   |true=>some ⟨[],[],none,kG S.h id (.dY bt (en l off x.cells)),S.n,.top⟩
   |false=>none
  |_,_=>none
 | .hW id i off=>match dK S.h id,(P.info? t).map (·.size),i.rt with
  |some (.rw bt c y),some n,some (.int k)=>match x.cells.all af.CQ&&((x.cells.all (l5 S.h)&&y.fr (.li c))&&(Nat.beq n x.cells.length&&(Nat.ble (off+n) (du c)&&iA (ft c) (en (kc c S.k 0 (ft c)) off x.cells))))with
   |true=>some ⟨[.f2 (.lz c k) y i,.up c y i (.cA (en (kc c S.k 0 (ft c)) off x.cells))],qS S.g (.kd c) (.lz c k) y i,
    none,kG S.h id (.rw bt c (.bs (.li c) (S.k+1))),S.n,.top⟩
   |false=>none
  |_,_,_=>none
 |_=>none
section
variable {P:Program} {G:aR} {o:Oper} {N B:Nat} {S:ay} {M:List bo}
theorem ze7{t:TypeId}{r:dL}(au:o.op= .alloc t)(h:M8 P B S t=some r):nU P G N B M o S r:=fun e hf hx hn=>by
 unfold M8 at h
 split at h
 ·rename_i zs aT
  split at h
  ·rename_i ag
   cases h;simp only[Bool.and_eq_true]at ag
   have:=Jj (G:=G) (s:=S.den G N B e) t au (Nat.le_of_ble_eq_true ag.2) aT ag.1
   rw[dL.st,fL];simp only[ay.den,c6,bQ.den,af.den,dL.l]at this⊢;rw[fE,List.map_map];exact this
  ·cases h
 ·cases h
theorem ze8{t:TypeId}{x:Operand}{r:dL}(au:o.op= .box t x)(h:M9 B S t (S.a1 N x)=some r):nU P G N B M o S r:=fun e hf hx hn=>by
 unfold M9 at h
 split at h
 ·rename_i ag
  cases h;simp only[Bool.and_eq_true]at ag
  have az:=w3 (G:=G) (e:=e) ag.1
  have:=Jk (P:=P) (G:=G) (s:=S.den G N B e) t x au (Nat.le_of_ble_eq_true ag.2) (by rw[bR hf,az];exact zp ag.1)
  rw[bR hf,az]at this;rw[dL.st,fL];exact this
 ·cases h
theorem ze9{c:bX}{l:List (hg c)}{j:Nat}{h4 aD:hg c}{vs:List aU}(aS:l[j]? =some h4)(ao:hD vs (df c aD)):hD ((l.map (df c)).set j vs).flatten ((l.set j aD).map (df c)).flatten:=by
 induction l generalizing j with
 |nil=>simp at aS
 |cons x l aY=>
  cases j with
  |zero=>
   simp only[List.map_cons,List.set_cons_zero,List.flatten_cons];exact ao.append (hD.refl _)
  |succ j=>
   simp only[List.map_cons,List.set_cons_succ,List.flatten_cons];exact(hD.refl _).append (aY (by simpa using aS))
theorem zfa{t:TypeId}{p x:Operand}{r:dL}(au:o.op= .store t p x)(h:Na P S t (S.a1 N p) (S.a1 N x)=some r):nU P G N B M o S r:=fun e hf hx hn=>by
 unfold Na at h
 split at h
 ·rename_i id off ar
  split at h
  ·rename_i bt l n ai bT
   split at h
   ·rename_i ag
    cases h;simp only[Bool.and_eq_true]at ag
    have az:=w3 (G:=G) (e:=e) ag.1
    have hlen:=Nat.eq_of_beq_eq_true ag.2.1
    have lr:c1 (aP G (S.den G N B e) x)=af.b0 G e (S.a1 N x).cells:=by rw[bR hf,az]
    have:=Jg (P:=P) (G:=G) (s:=S.den G N B e) t p x au (id:=id) (off:=off) (by rw[bR hf,ar];rfl) (bt:=bt) (cs:=af.b0 G e l) (by simp only[ay.den,e7,ai,Option.map_some,bQ.den])
     (vs:=af.b0 G e (S.a1 N x).cells) lr (zp ag.1) (by rw[oP,bT,hlen]) (by rw[oP,oP,←hlen];exact Nat.le_of_ble_eq_true ag.2.2)
    rw[dL.st,fL];simp only[ay.den,u4,bQ.den,af.den,dL.l]at this⊢;rw[fE,Gz,←fE,←fE];exact this
   ·cases h
  ·cases h
 ·rename_i id i off ar
  split at h
  ·rename_i bt c y n k ai bT hi
   split at h
   ·rename_i ag
    cases h;simp only[Bool.and_eq_true]at ag;obtain⟨fV,⟨h3,iB⟩,vb,zy,CR⟩:=ag
    have hlen:=Nat.eq_of_beq_eq_true vb
    obtain⟨g1,g2⟩:=zn hf hi hn;obtain⟨vs,v1,v2⟩:=GO (G:=G) (e:=e) fV
    have qW:vs.length=n:=by
     have:=congrArg List.length v2
     rw[oP,List.length_map]at this;omega
    have lr:c1 (aP G (S.den G N B e) x)=af.b0 G e (S.a1 N x).cells:=by rw[bR hf,w3 h3]
    have aS:Env.at e S.k=⟨.st c,List.getD (y.aN e (.li c)) (Int.toNat (i.aN e (.int k))) (bj c)⟩:=hx 0 _ rfl
    have ab:Env.at e (S.k+1)=_:=hx 1 _ rfl
    have fq:=Uj g1 g2
    have eC:=Jh (P:=P) (G:=G) (s:=S.den G N B e) t p x au (id:=id) (i:=(cN (i.dyn e)).toNat) (off:=off) (by rw[bR hf,ar];rfl) (bt:=bt) (n:=du c) (es:=List.map (df c) (y.aN e (.li c))) (by simp only[ay.den,e7,ai,Option.map_some,bQ.den])
     (e:=df c (List.getD (y.aN e (.li c)) (Int.toNat (i.aN e (.int k))) (bj c))) (by rw[List.getElem?_map,nT hi,fq];rfl) (by rw[lr];exact v1) (by rw[bT,qW]) (by rw[qW];exact Nat.le_of_ble_eq_true zy)
    refine eC.zx ?_
    rw[dL.st,fL]
    have jO:hD (en (df c (List.getD (y.aN e (.li c)) (Int.toNat (i.aN e (.int k))) (bj c))) off vs) (df c (qG c (gO e (ft c) (en (kc c S.k 0 (ft c)) off (S.a1 N x).cells)))):=by
     have:=Cs (G:=G) (e:=e) CR
     rw[fE,Gz,←fE,←fE,uX,aS,c3,v2,←Gz]at this;exact M7 this
    have gh:(af.bs (.li c) (S.k+1)).aN e (.li c)=List.set (y.aN e (.li c)) (cN (i.dyn e)).toNat (qG c (gO e (ft c) (en (kc c S.k 0 (ft c)) off (S.a1 N x).cells))):=by
     simp only[af.aN,af.gw,af.dyn,c3,ab,b1.den,af.get,af.cells]
    refine Us (s:={S.den G N B e with heap:=eA (S.den G N B e).heap id _}) (h':=c6 G e (kG S.h id (.rw bt c (.bs (.li c) (S.k+1))))) fun iw jy CS=>?_
    rw[u4,ur]at CS;simp only[ur]
    by_cases bf:id=iw
    ·rw[if_pos bf]at CS⊢
     cases CS;refine⟨_,rfl,?_⟩
     simp only[bQ.den];rw[gh];refine .row bt (du c) (by simp) (fun q aG=>?_) (ze9 (by rw[nT hi];exact fq) jO)
     obtain⟨z,_,rfl⟩:=List.mem_map.1 aG;exact Gc c z
    ·rw[if_neg bf]at CS⊢
     exact⟨jy,CS,.same jy⟩
   ·cases h
  ·cases h
 ·cases h
end
end Go.aK
namespace Go.aK
open Go Go.Lib
section
variable {P:Program}
theorem Nb{w:World}(t u ty e:TypeId){i:TypeInfo}(aJ:P.underlying t=some (.slice e))(hu:P.underlying u=some .string)(hi:P.info? e=some i)(aT:i.zero=some (.int .u8 0))(hR:i.size=1)(jQ:i.bytes=1)
 {v:Value}{n:Nat}{xs:List Value}(dM:kV w e 1 v n xs)(s:ByteArray)(uQ:n+s.size≤maxLen)(F3:n+s.size≤140737488355328):
 ∃bu w',(Builtin.append_ #[t,u] ty #[v,.string s]).run P w= .ok bu w'∧kV w' e 1 bu (n+s.size) (xs++strCells s)∧w.grownBy w' (cz v)∧(∀k,cz bu=some k→cz v=some k∨w.heap.size≤k):=by
 have zkd:n+s.size≤9223372036854775807:=by simp only[maxLen]at uQ;omega
 have m6:xs.length=n:=by simpa using dM.1
 have hlen:(xs++strCells s).length=(n+s.size)*1:=by rw[List.length_append,m6,strCells_length,Nat.mul_one]
 have grown: ∀(ea:Nat),ea<n+s.size→∀(row:Option Nat),
  kV (w.drew.alloc (.cells (xs.toArray++(strCells s).toArray++Builtin.zeroCells (Value.int .u8 0).cells (grownCap w (n+s.size) ea e-(n+s.size))) e)) e 1
   (.slice (some ⟨w.heap.size,0,none⟩) (n+s.size) (grownCap w (n+s.size) ea e)) (n+s.size) (xs++strCells s)∧
  w.grownBy (w.drew.alloc (.cells (xs.toArray++(strCells s).toArray++Builtin.zeroCells (Value.int .u8 0).cells (grownCap w (n+s.size) ea e-(n+s.size))) e)) row:=by
  intro ea au row
  have jP:=grownCap_ge w (n+s.size) ea e
  have jN:grownCap w (n+s.size) ea e≤maxLen:=grownCap_le_maxLen w (n+s.size) ea e uQ
  refine⟨⟨hlen,.inr ⟨w.heap.size,_,_,rfl,by omega,heap_alloc_new w.drew _,jP,jN,?_,?_⟩⟩,⟨rfl,rfl,rfl,by simp,fun k an _=>Go.RowKit.Below.heap_alloc w.drew _ k an⟩⟩
  ·have Bd:(Value.int IntKind.u8 0).cells.size=1:=rfl
   simp only[Array.size_append,List.size_toArray,size_zeroCells,Bd,m6,strCells_length];omega
  ·simp only[Array.toList_append,List.append_assoc]
   rw[←List.append_assoc,←hlen];exact List.take_left
 have Nc: ∀(m c k:Nat),cz (.slice (some ⟨w.heap.size,0,none⟩) m c)=some k→cz v=some k∨w.heap.size≤k:=fun m c k an=>by
  simp only[cz]at an
  split at an
  ·cases an
  ·simp at an;exact .inr (by omega)
 rcases dM.2 with⟨⟨c,rfl,wM⟩,kD⟩|⟨g,cap,cur,rfl,Cb,ai,Ut,jN,fj,lU⟩
 ·subst kD
  have hx:xs=[]:=List.eq_nil_of_length_eq_zero m6
  subst hx
  by_cases hm:s.size=0
  ·have s9:strCells s=[]:=List.eq_nil_of_length_eq_zero (by rw[strCells_length];exact hm)
   have hf:=run_firstCells_string (P:=P) w 1 s
   rw[hm]at hf;refine⟨.slice c 0 0,w,?_,by rw[hm,s9];exact⟨rfl,.inl ⟨⟨c,rfl,wM⟩,rfl⟩⟩,World.grownBy.refl w _,fun k an=>.inl an⟩
   cases c<;>simp[Builtin.append_,run_underlying aJ,run_underlying hu,sizeOf,typeInfo,hi,hR,Builtin.lenOf,hm,hf,s9,storeCells]
  ·have dG:=grown 0 (by omega) (cz (.slice c 0 0))
   cases c with
   |none=>
    have ah:=run_append_nil_string (P:=P) w t u ty e i (.int .u8 0) aJ hu hi aT s (by omega) (by omega) (by rw[jQ];omega)
    simp only[Nat.zero_add,List.nil_append,Array.empty_append]at dG⊢
    have aD:(s.data.map fun b=>Value.int .u8 b.toNat)=(strCells s).toArray:=by
     apply Array.ext';simp[strCells]
    rw[aD]at ah;exact⟨_,_,ah,dG.1,dG.2,Nc _ _⟩
   |some a=>
    have ah:=run_append_grow_string (P:=P) w t u ty e i (.int .u8 0) aJ hu hi aT a 0 0 [] (by simp) (by simp) s (by omega) (by omega) (by rw[jQ];exact growslice_fits (by omega) (by omega))
    exact⟨_,_,ah,dG.1,dG.2,Nc _ _⟩
 ·by_cases Uu:n+s.size≤cap
  ·have ah:=run_append_room_string (P:=P) w t u ty e i aJ hu hi hR g n cap cur ai s Uu (by omega)
   refine⟨_,_,ah,⟨hlen,.inr ⟨g,cap,_,rfl,Cb,setRow_heap w g cur _ e _ ai,Uu,jN,?_,?_⟩⟩,⟨rfl,rfl,rfl,by simp,fun k _ an=>setRow_other w g k _ (fun e=>an (by simp[cz,e,Nat.ne_of_gt Cb]))⟩,fun k an=>.inl ?_⟩
   ·simp only[List.size_toArray,List.length_append,List.length_take,List.length_drop,Array.length_toList,strCells_length]
    omega
   ·have cI:cur.toList.take n=xs:=by simpa using lU
    rw[cI,←hlen];exact List.take_left
   ·simpa[cz,Nat.ne_of_gt Cb]using an
  ·have holds: ∀j u,xs[j]? =some u→w.cell? ((⟨g,0,none⟩:Addr).add j)=some u:=by
    have h6:w.ownsRow 0 e 1 (.slice (some ⟨g,0,none⟩) n cap) n xs:=⟨dM.1,.inr ⟨g,cap,cur,rfl,Nat.zero_le _,ai,Ut,jN,fj,lU⟩⟩
    exact h6.cells (g:=g) rfl
   have ah:=run_append_grow_string (P:=P) w t u ty e i (.int .u8 0) aJ hu hi aT ⟨g,0,none⟩ n cap xs (by rw[hR];simpa using m6) holds s (by omega) (by omega) (by rw[jQ];exact growslice_fits (by omega) (by omega))
   have dG:=grown cap (by omega) (cz (.slice (some ⟨g,0,none⟩) n cap))
   exact⟨_,_,ah,dG.1,dG.2,Nc _ _⟩
def ff(b:ByteArray):List Int:=b.data.toList.map fun u=>(u.toNat:Int)
theorem Nd{w:World}{ro:Nat→Prop}(b:ByteArray):((ff b).map fun z=>[aU.v (.int .u8 z)]).length=b.size∧∀(j:Nat) (x:aU),((ff b).map fun z=>[aU.v (.int .u8 z)]).flatten[j]? =some x→de w ro x ((strCells b).getD j undef):=by
 refine⟨by rw[List.length_map];unfold ff;rw[List.length_map,Array.length_toList];rfl,fun j x aj=>?_⟩
 have qu:((ff b).map fun z=>[aU.v (.int .u8 z)]).flatten=(ff b).map fun z=>aU.v (.int .u8 z):=by
  generalize ff b=l
  induction l with
  |nil=>rfl
  |cons y r aY=>simp only[List.map_cons,List.flatten_cons,aY,List.singleton_append]
 rw[qu]at aj
 unfold ff at aj
 simp only[List.map_map,List.getElem?_map]at aj
 obtain⟨u,hu,rfl⟩:=Option.map_eq_some_iff.1 aj
 have:(strCells b).getD j undef= .int .u8 (u.toNat:Int):=by
  unfold strCells;simp[List.getD,hu]
 rw[this]
 exact .v _ rfl
variable {G:aR} {s:aQ} {o:Oper}
def vX(P:Program)(t u:TypeId):Option TypeId:=
 match P.underlying t,P.underlying u with
 |some (.slice e),some .string=>match P.info? e with
  |some i=>match i.zero with
   |some (.int .u8 0)=>match Nat.beq i.size 1&&Nat.beq i.bytes 1 with
    |true=>some e
    |false=>none
   |_=>none
  |none=>none
 |_,_=>none
theorem Nf{t u e:TypeId}(h:vX P t u=some e): ∃i,P.underlying t=some (.slice e)∧P.underlying u=some .string∧P.info? e=some i∧i.zero=some (.int .u8 0)∧i.size=1∧i.bytes=1:=by
 unfold vX at h
 split at h
 ·rename_i aF hu ao
  split at h
  ·rename_i i hi
   split at h
   ·rename_i aT
    split at h
    ·rename_i hc
     cases h;simp only[Bool.and_eq_true]at hc;exact⟨i,hu,ao,hi,aT,Nat.eq_of_beq_eq_true hc.1,Nat.eq_of_beq_eq_true hc.2⟩
    ·cases h
   ·cases h
  ·cases h
 ·cases h
theorem zfb(x y:Operand)(t u:TypeId)(au:o.op= .call {callee:=.builtin .append,args:=#[x,y],argTypes:=#[t,u]}){e:TypeId}(aJ:vX P t u=some e)
 {id:Nat}(hx:aP G s x= .aq id){es:List (List aU)}(bf:aE s.heap id=some (.row false e 1 es))(ag:s.base≤id)(bE:id<s.next)
 {b:ByteArray}(aA:aP G s y= .ad (.v (.string b)))(bT:es.length+b.size≤maxLen∧es.length+b.size≤140737488355328):
 ep P G o s (aQ.put ⟨eM id s.db,(id,.row false e 1 (es++(ff b).map fun z=>[aU.v (.int .u8 z)]))::ef id s.heap,s.next,s.base⟩ o.dst (.aq id)):=by
 intro E a w ⟨β,ro,ah⟩ K Q hK
 obtain⟨i,hu,ao,hi,aT,hR,jQ⟩:=Nf aJ
 have dS:=ah.heap.dq id _ bf
 cases dS with
 |row _ _ _ xs dM bW fx=>
  have lr:a.eval x=β id:=by
   have h:=ah.eval x
   rw[hx]at h;generalize a.eval x=c at h
   cases h with
   |aq _ _ _ ar=>exact ar _ _ _ _ bf
  obtain⟨bu,w',cy,qD,dG,bc⟩:=Nb (P:=P) t u o.type e hu ao hi aT hR jQ dM b bT.1 bT.2;obtain⟨dp,di⟩:=Nd (w:=w) (ro:=ro) b;unfold Oper.wp;simp only[execOp,au,resolve,invoke,builtin,Sem.run_bind,Sem.run_pure,Result.andThen_ok,List.map_toArray,List.map_cons,List.map_nil,lr,ah.dR aA,cy]
  have kB: ∀k,k<w.heap.size→cz (β id)≠some k→w'.heap[k]? =w.heap[k]? :=fun k an bW=>dG.block k an (fun e=>bW e.symm)
  have cr: ∀k,ro k→w'.heap[k]? =w.heap[k]? :=fun k an=>kB k (ah.heap.lt k an) fun bc=>ah.heap.e8 k an ⟨id,_,bf,rfl,bc⟩
  refine hK _ _ ⟨iH β id bu,ro,dn.put (ah.renew (w':=w') id ag bE bf (.row false e 1 (es++(ff b).map fun z=>[aU.v (.int .u8 z)])) bu dG.os dG.tape dG.output dG.size kB bc rfl ?_) o.dst _ _ ?_⟩
  ·refine .row e 1 _ _ (by rw[eT,List.length_append,dp];exact qD) (fun aF jz=>?_) (fun j x aj=>?_)
   ·rw[List.mem_append]at jz
    rcases jz with h|h
    ·exact bW _ h
    ·obtain⟨z,_,rfl⟩:=List.mem_map.1 h
     rfl
   ·exact(F5 bW dM.1 fx di j x aj).keep cr fun _ h=>h
  ·exact .aq _ _ bE fun z bh bL eD _=>(eT _ _ _).symm
theorem Q6(x y:Operand)(t u:TypeId)(au:o.op= .call {callee:=.builtin .append,args:=#[x,y],argTypes:=#[t,u]}){e:TypeId}(aJ:vX P t u=some e)
 (hx:aP G s x= .ad (.v (.slice none 0 0)))(ag:s.base≤s.next){b:ByteArray}(aA:aP G s y= .ad (.v (.string b)))(bT:b.size≤maxLen∧b.size≤140737488355328):
 ep P G o s ({s with heap:=(s.next,.row false e 1 ((ff b).map fun z=>[aU.v (.int .u8 z)]))::s.heap,next:=s.next+1}.put o.dst (.aq s.next)):=by
 intro E a w ⟨β,ro,ah⟩ K Q hK
 obtain⟨i,hu,ao,hi,aT,hR,jQ⟩:=Nf aJ
 obtain⟨bu,w',cy,qD,dG,bc⟩:=Nb (P:=P) (w:=w) t u o.type e hu ao hi aT hR jQ (v:=.slice none 0 0) (n:=0) (xs:=[]) ⟨by simp,.inl ⟨⟨none,rfl,fun _ h=>(by cases h)⟩,rfl⟩⟩ b (by omega) (by omega)
 obtain⟨dp,di⟩:=Nd (w:=w) (ro:=ro) b
 unfold Oper.wp
 simp only[execOp,au,resolve,invoke,builtin,Sem.run_bind,Sem.run_pure,Result.andThen_ok,List.map_toArray,List.map_cons,List.map_nil,ah.dR hx,ah.dR aA,cy]
 have kr:aE s.heap s.next=none:=by
  cases ai:aE s.heap s.next with
  |none=>rfl
  |some p=>have:=ah.trans.new _ _ ai;omega
 have hw: ∀b,b<w.heap.size→w'.heap[b]? =w.heap[b]? :=fun b ag=>dG.block b ag (by simp[cz])
 have cr: ∀b,ro b→w'.heap[b]? =w.heap[b]? :=fun b ag=>hw b (ah.heap.lt b ag)
 refine hK _ _ ⟨iH β s.next bu,ro,dn.put (ah.new (w':=w') s.next kr ag (Nat.le_refl _) (.row false e 1 ((ff b).map fun z=>[aU.v (.int .u8 z)])) bu dG.os dG.tape dG.output dG.size hw (fun b ag=>?_) rfl ?_) o.dst _ _ ?_⟩
 ·rcases bc b ag with h|h
  ·simp[cz]at h
  ·exact h
 ·refine .row e 1 _ _ (by rw[eT,dp];simpa using qD) (fun aF jz=>?_) (fun j x aj=>(di j x aj).keep cr fun _ h=>h)
  obtain⟨z,_,rfl⟩:=List.mem_map.1 jz;rfl
 ·exact .aq _ _ (Nat.lt_succ_self _) fun z bh bL eD _=>(eT _ _ _).symm
end
end Go.aK
namespace Go.aK
open Go Go.Lib
section
variable {P:Program} {G:aR} {s:aQ} {E:Entry} {a:Act} {w w':World} {β:Nat→Value} {ro:Nat→Prop}
theorem dn.Uv(h:dn E G s a w β ro)(id:Nat)(ag:s.base≤s.next){t0:TypeId}{n0:Nat}{B9:List (List aU)}(bf:aE s.heap id=some (.row false t0 n0 B9))(o:ec)(val:Value)
 (qv:w'.os=w.os)(qw:w'.tape=w.tape)(iI:w'.output=w.output)(bT:w.heap.size≤w'.heap.size)(hw: ∀b,b<w.heap.size→cz (β id)≠some b→w'.heap[b]? =w.heap[b]?)
 (ix: ∀b,cz val=some b→cz (β id)=some b∨w.heap.size≤b)(_hlive:o.live=true)
 (dS:m4 w' ro ((s.next,o)::ef id s.heap) (iH β s.next val) (s.next+1) s.next o):
 dn E G ⟨eM id s.db,(s.next,o)::ef id s.heap,s.next+1,s.base⟩ a w' (iH β s.next val) ro:=by
 have cr: ∀b,ro b→w'.heap[b]? =w.heap[b]? :=fun b ah=>hw b (h.heap.lt b ah) fun ag=>h.heap.e8 b ah ⟨id,_,bf,rfl,ag⟩
 have ai: ∀k,k≠s.next→k≠id→aE ((s.next,o)::ef id s.heap) k=(aE s.heap k).map (e0 id):=fun k an fk=>by simp[aE,Ne.symm an,rN,fk]
 have wJ:aE ((s.next,o)::ef id s.heap) s.next=some o:=by simp[aE]
 have zke:id<s.next:=h.trans.new _ _ bf
 have key: ∀x c,bA w ro s.heap β s.next x c→bA w' ro ((s.next,o)::ef id s.heap) (iH β s.next val) (s.next+1) (ey id x) c:=by
  intro x c hx
  induction hx with
  |ad x c hx=>exact .ad x c (hx.keep cr fun _ h=>h)
  |agg cs c ao _ aY=>
   refine .agg _ c (by rw[ji];exact ao) fun j x aj=>?_
   obtain⟨y,aA,rfl⟩:=iV id aj;exact aY j y aA
  |tuple cs c ao _ aY=>
   refine .tuple _ c (by rw[ji];exact ao) fun j x aj=>?_
   obtain⟨y,aA,rfl⟩:=iV id aj;exact aY j y aA
  |ptr k off c av ar=>
   simp only[ey]
   split
   ·exact .top _
   ·rename_i an
    refine .ptr k off c (by omega) fun t cs bz=>?_
    rw[dB _ _ (show k≠s.next by omega)]
    rw[ai k (by omega) an]at bz
    cases ao:aE s.heap k with
    |none=>simp[ao]at bz
    |some p=>
     cases p with
     |box bh cs'=>exact ar bh cs' ao
     |row=>simp[ao,e0]at bz
     |bI=>simp[ao,e0]at bz
  |dN k off c av ar=>
   simp only[ey]
   split
   ·exact .top _
   ·rename_i an
    refine .dN k off c (by omega) fun t cs bz=>?_
    rw[dB _ _ (show k≠s.next by omega)]
    rw[ai k (by omega) an]at bz
    cases ao:aE s.heap k with
    |none=>simp[ao]at bz
    |some p=>
     cases p with
     |box bh cs'=>exact ar bh cs' ao
     |row=>simp[ao,e0]at bz
     |bI=>simp[ao,e0]at bz
  |dg k i off c av ar=>
   simp only[ey]
   split
   ·exact .top _
   ·rename_i an
    refine .dg k i off c (by omega) fun z t n es bz=>?_
    rw[dB _ _ (show k≠s.next by omega)]
    rw[ai k (by omega) an]at bz
    cases ao:aE s.heap k with
    |none=>simp[ao]at bz
    |some p=>
     cases p with
     |box bh cs'=>simp[ao,e0]at bz
     |bI=>simp[ao,e0]at bz
     |row hs bh bL eD=>
      simp only[ao,Option.map_some,e0,Option.some.injEq,ec.row.injEq]at bz;obtain⟨rfl,rfl,rfl,rfl⟩:=bz;exact ar _ _ _ _ ao
  |aq k c av ar=>
   simp only[ey]
   split
   ·exact .top _
   ·rename_i an
    refine .aq k c (by omega) fun z t n es bz=>?_
    rw[dB _ _ (show k≠s.next by omega)]
    rw[ai k (by omega) an]at bz
    cases ao:aE s.heap k with
    |none=>simp[ao]at bz
    |some p=>
     cases p with
     |box bh cs'=>simp[ao,e0]at bz
     |bI=>simp[ao,e0]at bz
     |row hs bh bL eD=>exact ar _ _ _ _ ao
  |fn f p q c d ab ae _ _ hv hy=>
   refine .fn f _ _ c d (by rw[ji];exact ab) (by rw[ji];exact ae) (fun j x aj=>?_) (fun j x aj=>?_)
   ·obtain⟨y,aA,rfl⟩:=iV id aj
    exact hv j y aA
   ·obtain⟨y,aA,rfl⟩:=iV id aj
    exact hy j y aA
  |ref k c av ar=>
   simp only[ey]
   split
   ·exact .top _
   ·rename_i an
    refine .ref k c (by omega) fun bH bz=>?_
    rw[dB _ _ (show k≠s.next by omega)]
    rw[ai k (by omega) an]at bz
    cases ao:aE s.heap k with
    |none=>simp[ao]at bz
    |some p=>
     cases p with
     |box=>simp[ao,e0]at bz
     |row=>simp[ao,e0]at bz
     |bI km=>exact ar km ao
  |top c=>exact .top c
 have ea: ∀k p,k≠s.next→aE ((s.next,o)::ef id s.heap) k=some p→k≠id∧∃q,aE s.heap k=some q∧p=e0 id q:=by
  intro k p an bz
  have bF:k≠id:=fun h=>by
   subst h;simp[aE,Ne.symm an,rN]at bz
  refine⟨bF,?_⟩
  rw[ai k an bF]at bz
  cases ao:aE s.heap k with
  |none=>simp[ao]at bz
  |some q=>simp[ao]at bz;exact⟨q,rfl,bz.symm⟩
 refine⟨h.defers,by simpa[ji]using h.size,fun i x hx=>?_,⟨fun k p an=>?_,fun k a8 p gW b an fk ar hU bc eH=>?_,fun b ah=>?_,fun b ah=>Nat.lt_of_lt_of_le (h.heap.lt b ah) bT⟩,
  h.hL.keep cr fun _ h=>h,?_,h.base⟩
 ·obtain⟨y,aA,rfl⟩:=iV id hx
  exact key _ _ (h.slot i y aA)
 ·by_cases bF:k=s.next
  ·subst k
   rw[wJ]at an;simp only[Option.some.injEq]at an;subst an;exact dS
  ·obtain⟨iX,q,aG,rfl⟩:=ea k p bF an
   have fM:=h.heap.dq k q aG
   have bW:q.live=true→∀b,cz (β k)=some b→w'.heap[b]? =w.heap[b]? :=fun av b bc=>
    hw b (fM.iG av bc) fun k2=>iX (h.heap.inj k id q _ b aG bf av rfl bc k2)
   cases fM with
   |box t cs b arr ab ae aw aM=>
    refine .box t _ b arr (by rw[dB _ _ bF];exact ab) ((bW rfl b (by rw[ab];rfl)).trans ae) (by rw[ji];exact aw) fun j x aj=>?_
    obtain⟨y,aA,rfl⟩:=iV id aj;exact key _ _ (aM j y aA)
   |row t n es xs ab ae aw=>exact .row t n es xs (by rw[dB _ _ bF];exact ab.keep (fun b ag=>bW rfl b ag) bT) ae fun j x aj=>(aw j x aj).keep cr fun _ h=>h
   |fW t n es ab=>exact .fW t n es (by rw[dB _ _ bF];exact ab.keep cr fun _ h=>h)
   |bI bH b o ab ae aw=>exact .bI bH b o (by rw[dB _ _ bF];exact ab) ((bW rfl b ab).trans ae) (by rw[dB _ _ bF];exact bH.mono _ _ _ _ (fun x c h=>h.keep cr fun _ h=>h) aw)
 ·by_cases bF:k=s.next
  ·by_cases hV:a8=s.next
   ·rw[bF,hV]
   ·subst k
    rw[eT]at bc;rw[dB _ _ hV]at eH;obtain⟨iX,q,aG,rfl⟩:=ea a8 gW hV fk;rw[kC]at hU
    have ae:=(h.heap.dq a8 q aG).iG hU eH
    rcases ix b bc with ab|ab
    ·exact absurd (h.heap.inj a8 id q _ b aG bf hU rfl eH ab) iX
    ·omega
  ·obtain⟨iX,q,aG,rfl⟩:=ea k p bF an
   rw[kC]at ar;rw[dB _ _ bF]at bc
   by_cases hV:a8=s.next
   ·subst a8
    rw[eT]at eH
    have ae:=(h.heap.dq k q aG).iG ar bc
    rcases ix b eH with ab|ab
    ·exact absurd (h.heap.inj k id q _ b aG bf ar rfl bc ab) iX
    ·omega
   ·obtain⟨zfc,iF,wK,rfl⟩:=ea a8 gW hV fk
    rw[kC]at hU;rw[dB _ _ hV]at eH;exact h.heap.inj k a8 q iF b aG wK ar hU bc eH
 ·rintro⟨k,p,an,ar,bc⟩
  by_cases bF:k=s.next
  ·subst k
   rw[eT]at bc
   rcases ix b bc with ab|ab
   ·exact h.heap.e8 b ah ⟨id,_,bf,rfl,ab⟩
   ·have:=h.heap.lt b ah;omega
  ·obtain⟨iX,q,aG,rfl⟩:=ea k p bF an
   rw[kC]at ar;rw[dB _ _ bF]at bc;exact h.heap.e8 b ah ⟨k,q,aG,ar,bc⟩
 ·have t:=h.trans
  refine⟨qv.trans t.os,qw.trans t.tape,iI.trans t.output,Nat.le_trans t.size bT,fun b j8 gQ=>?_,t.hz,t.gA,?_,fun k an p bz=>?_,fun k p bz=>?_,Nat.le_succ_of_le t.le⟩
  ·by_cases k2:cz (β id)=some b
   ·rcases t.fU b ⟨id,_,bf,rfl,k2⟩with hc|hc
    ·exact absurd hc gQ
    ·omega
   ·rw[hw b (Nat.lt_of_lt_of_le j8 t.size) k2]
    exact t.frame b j8 gQ
  ·rintro b ⟨k,p,an,ar,bc⟩
   by_cases bF:k=s.next
   ·subst k
    rw[eT]at bc
    rcases ix b bc with ab|ab
    ·exact t.fU b ⟨id,_,bf,rfl,ab⟩
    ·exact .inr (Nat.le_trans t.size ab)
   ·obtain⟨iX,q,aG,rfl⟩:=ea k p bF an
    rw[kC]at ar;rw[dB _ _ bF]at bc;exact t.fU b ⟨k,q,aG,ar,bc⟩
  ·have bF:k≠s.next:=by have:=h.base;omega
   obtain⟨iX,q,aG,rfl⟩:=ea k p bF bz;rw[dB _ _ bF];exact t.ea k an q aG
  ·by_cases bF:k=s.next
   ·subst k;exact Nat.lt_succ_self _
   ·obtain⟨iX,q,aG,rfl⟩:=ea k p bF bz
    exact Nat.lt_succ_of_lt (t.new k q aG)
theorem dn.Uw(h:dn E G s a w β ro)(id aW:Nat)(ag:s.base≤aW)(bE:aW<s.next){t0:TypeId}{n0:Nat}{B9:List (List aU)}(bf:aE s.heap id=some (.row false t0 n0 B9))(o:ec)(val:Value)
 (qv:w'.os=w.os)(qw:w'.tape=w.tape)(iI:w'.output=w.output)(bT:w.heap.size≤w'.heap.size)(hw: ∀b,b<w.heap.size→cz (β id)≠some b→w'.heap[b]? =w.heap[b]?)
 (ix: ∀b,cz val=some b→cz (β id)=some b∨w.heap.size≤b)(_hlive:o.live=true)
 (dS:m4 w' ro ((aW,o)::ef aW (ef id s.heap)) (iH β aW val) s.next aW o):
 dn E G ⟨eM aW (eM id s.db),(aW,o)::ef aW (ef id s.heap),s.next,s.base⟩ a w' (iH β aW val) ro:=by
 have cr: ∀b,ro b→w'.heap[b]? =w.heap[b]? :=fun b ah=>hw b (h.heap.lt b ah) fun ag=>h.heap.e8 b ah ⟨id,_,bf,rfl,ag⟩
 have ai: ∀k,k≠aW→k≠id→aE ((aW,o)::ef aW (ef id s.heap)) k=((aE s.heap k).map (e0 id)).map (e0 aW):=fun k an fk=>by simp[aE,Ne.symm an,rN,an,fk]
 have wJ:aE ((aW,o)::ef aW (ef id s.heap)) aW=some o:=by simp[aE]
 have key: ∀x c,bA w ro s.heap β s.next x c→bA w' ro ((aW,o)::ef aW (ef id s.heap)) (iH β aW val) s.next (ey aW (ey id x)) c:=by
  intro x c hx
  induction hx with
  |ad x c hx=>exact .ad x c (hx.keep cr fun _ h=>h)
  |agg cs c ao _ aY=>
   refine .agg _ c (by rw[ji,ji];exact ao) fun j x aj=>?_
   obtain⟨z,aT,rfl⟩:=iV aW aj;obtain⟨y,aA,rfl⟩:=iV id aT;exact aY j y aA
  |tuple cs c ao _ aY=>
   refine .tuple _ c (by rw[ji,ji];exact ao) fun j x aj=>?_
   obtain⟨z,aT,rfl⟩:=iV aW aj;obtain⟨y,aA,rfl⟩:=iV id aT;exact aY j y aA
  |ptr k off c av ar=>
   by_cases an:k=id
   ·simp only[ey,an,if_true]
    exact .top _
   by_cases gN:k=aW
   ·simp only[ey,if_neg an,if_neg (gN ▸ an),gN,if_true]
    exact .top _
   ·simp only[ey,if_neg an,if_neg gN]
    refine .ptr k off c av fun t cs bz=>?_
    rw[dB _ _ gN];rw[ai k gN an]at bz
    cases ao:aE s.heap k with
    |none=>simp[ao]at bz
    |some p=>
     cases p with
     |box bh cs'=>exact ar bh cs' ao
     |row=>simp[ao,e0]at bz
     |bI=>simp[ao,e0]at bz
  |dN k off c av ar=>
   by_cases an:k=id
   ·simp only[ey,an,if_true]
    exact .top _
   by_cases gN:k=aW
   ·simp only[ey,if_neg an,if_neg (gN ▸ an),gN,if_true]
    exact .top _
   ·simp only[ey,if_neg an,if_neg gN]
    refine .dN k off c av fun t cs bz=>?_
    rw[dB _ _ gN];rw[ai k gN an]at bz
    cases ao:aE s.heap k with
    |none=>simp[ao]at bz
    |some p=>
     cases p with
     |box bh cs'=>exact ar bh cs' ao
     |row=>simp[ao,e0]at bz
     |bI=>simp[ao,e0]at bz
  |dg k i off c av ar=>
   by_cases an:k=id
   ·simp only[ey,an,if_true]
    exact .top _
   by_cases gN:k=aW
   ·simp only[ey,if_neg an,if_neg (gN ▸ an),gN,if_true]
    exact .top _
   ·simp only[ey,if_neg an,if_neg gN]
    refine .dg k i off c av fun z t n es bz=>?_
    rw[dB _ _ gN];rw[ai k gN an]at bz
    cases ao:aE s.heap k with
    |none=>simp[ao]at bz
    |some p=>
     cases p with
     |box bh cs'=>simp[ao,e0]at bz
     |bI=>simp[ao,e0]at bz
     |row hs bh bL eD=>
      simp only[ao,Option.map_some,e0,Option.some.injEq,ec.row.injEq]at bz;obtain⟨rfl,rfl,rfl,rfl⟩:=bz;exact ar _ _ _ _ ao
  |aq k c av ar=>
   by_cases an:k=id
   ·simp only[ey,an,if_true]
    exact .top _
   by_cases gN:k=aW
   ·simp only[ey,if_neg an,if_neg (gN ▸ an),gN,if_true]
    exact .top _
   ·simp only[ey,if_neg an,if_neg gN]
    refine .aq k c av fun z t n es bz=>?_
    rw[dB _ _ gN];rw[ai k gN an]at bz
    cases ao:aE s.heap k with
    |none=>simp[ao]at bz
    |some p=>
     cases p with
     |box bh cs'=>simp[ao,e0]at bz
     |bI=>simp[ao,e0]at bz
     |row hs bh bL eD=>exact ar _ _ _ _ ao
  |fn f p q c d ab ae _ _ hv hy=>
   refine .fn f _ _ c d (by rw[ji,ji];exact ab) (by rw[ji,ji];exact ae) (fun j x aj=>?_) (fun j x aj=>?_)
   ·obtain⟨z,aT,rfl⟩:=iV aW aj
    obtain⟨y,aA,rfl⟩:=iV id aT;exact hv j y aA
   ·obtain⟨z,aT,rfl⟩:=iV aW aj
    obtain⟨y,aA,rfl⟩:=iV id aT;exact hy j y aA
  |ref k c av ar=>
   by_cases an:k=id
   ·simp only[ey,an,if_true]
    exact .top _
   by_cases gN:k=aW
   ·simp only[ey,if_neg an,if_neg (gN ▸ an),gN,if_true]
    exact .top _
   ·simp only[ey,if_neg an,if_neg gN]
    refine .ref k c av fun bH bz=>?_
    rw[dB _ _ gN];rw[ai k gN an]at bz
    cases ao:aE s.heap k with
    |none=>simp[ao]at bz
    |some p=>
     cases p with
     |box=>simp[ao,e0]at bz
     |row=>simp[ao,e0]at bz
     |bI km=>exact ar km ao
  |top c=>exact .top c
 have ea: ∀k p,k≠aW→aE ((aW,o)::ef aW (ef id s.heap)) k=some p→k≠id∧∃q,aE s.heap k=some q∧p=e0 aW (e0 id q):=by
  intro k p an bz
  have bF:k≠id:=fun h=>by
   subst h;simp[aE,Ne.symm an,rN,an]at bz
  refine⟨bF,?_⟩
  rw[ai k an bF]at bz
  cases ao:aE s.heap k with
  |none=>simp[ao]at bz
  |some q=>simp[ao]at bz;exact⟨q,rfl,bz.symm⟩
 refine⟨h.defers,by simpa[ji]using h.size,fun i x hx=>?_,⟨fun k p an=>?_,fun k a8 p gW b an fk ar hU bc eH=>?_,fun b ah=>?_,fun b ah=>Nat.lt_of_lt_of_le (h.heap.lt b ah) bT⟩,
  h.hL.keep cr fun _ h=>h,?_,h.base⟩
 ·obtain⟨z,aT,rfl⟩:=iV aW hx
  obtain⟨y,aA,rfl⟩:=iV id aT;exact key _ _ (h.slot i y aA)
 ·by_cases bF:k=aW
  ·subst k
   rw[wJ]at an;simp only[Option.some.injEq]at an;subst an;exact dS
  ·obtain⟨iX,q,aG,rfl⟩:=ea k p bF an
   have fM:=h.heap.dq k q aG
   have bW:q.live=true→∀b,cz (β k)=some b→w'.heap[b]? =w.heap[b]? :=fun av b bc=>
    hw b (fM.iG av bc) fun k2=>iX (h.heap.inj k id q _ b aG bf av rfl bc k2)
   cases fM with
   |box t cs b arr ab ae aw aM=>
    refine .box t _ b arr (by rw[dB _ _ bF];exact ab) ((bW rfl b (by rw[ab];rfl)).trans ae) (by rw[ji,ji];exact aw) fun j x aj=>?_
    obtain⟨z,aT,rfl⟩:=iV aW aj;obtain⟨y,aA,rfl⟩:=iV id aT;exact key _ _ (aM j y aA)
   |row t n es xs ab ae aw=>exact .row t n es xs (by rw[dB _ _ bF];exact ab.keep (fun b ag=>bW rfl b ag) bT) ae fun j x aj=>(aw j x aj).keep cr fun _ h=>h
   |fW t n es ab=>exact .fW t n es (by rw[dB _ _ bF];exact ab.keep cr fun _ h=>h)
   |bI bH b o ab ae aw=>exact .bI bH b o (by rw[dB _ _ bF];exact ab) ((bW rfl b ab).trans ae) (by rw[dB _ _ bF];exact bH.mono _ _ _ _ (fun x c h=>h.keep cr fun _ h=>h) aw)
 ·by_cases bF:k=aW
  ·by_cases hV:a8=aW
   ·rw[bF,hV]
   ·subst k
    rw[eT]at bc;rw[dB _ _ hV]at eH;obtain⟨iX,q,aG,rfl⟩:=ea a8 gW hV fk;rw[kC,kC]at hU
    have ae:=(h.heap.dq a8 q aG).iG hU eH
    rcases ix b bc with ab|ab
    ·exact absurd (h.heap.inj a8 id q _ b aG bf hU rfl eH ab) iX
    ·omega
  ·obtain⟨iX,q,aG,rfl⟩:=ea k p bF an
   rw[kC,kC]at ar;rw[dB _ _ bF]at bc
   by_cases hV:a8=aW
   ·subst a8
    rw[eT]at eH
    have ae:=(h.heap.dq k q aG).iG ar bc
    rcases ix b eH with ab|ab
    ·exact absurd (h.heap.inj k id q _ b aG bf ar rfl bc ab) iX
    ·omega
   ·obtain⟨zfc,iF,wK,rfl⟩:=ea a8 gW hV fk
    rw[kC,kC]at hU;rw[dB _ _ hV]at eH;exact h.heap.inj k a8 q iF b aG wK ar hU bc eH
 ·rintro⟨k,p,an,ar,bc⟩
  by_cases bF:k=aW
  ·subst k
   rw[eT]at bc
   rcases ix b bc with ab|ab
   ·exact h.heap.e8 b ah ⟨id,_,bf,rfl,ab⟩
   ·have:=h.heap.lt b ah;omega
  ·obtain⟨iX,q,aG,rfl⟩:=ea k p bF an
   rw[kC,kC]at ar;rw[dB _ _ bF]at bc;exact h.heap.e8 b ah ⟨k,q,aG,ar,bc⟩
 ·have t:=h.trans
  refine⟨qv.trans t.os,qw.trans t.tape,iI.trans t.output,Nat.le_trans t.size bT,fun b j8 gQ=>?_,t.hz,t.gA,?_,fun k an p bz=>?_,fun k p bz=>?_,t.le⟩
  ·by_cases k2:cz (β id)=some b
   ·rcases t.fU b ⟨id,_,bf,rfl,k2⟩with hc|hc
    ·exact absurd hc gQ
    ·omega
   ·rw[hw b (Nat.lt_of_lt_of_le j8 t.size) k2]
    exact t.frame b j8 gQ
  ·rintro b ⟨k,p,an,ar,bc⟩
   by_cases bF:k=aW
   ·subst k
    rw[eT]at bc
    rcases ix b bc with ab|ab
    ·exact t.fU b ⟨id,_,bf,rfl,ab⟩
    ·exact .inr (Nat.le_trans t.size ab)
   ·obtain⟨iX,q,aG,rfl⟩:=ea k p bF an
    rw[kC,kC]at ar;rw[dB _ _ bF]at bc;exact t.fU b ⟨k,q,aG,ar,bc⟩
  ·have bF:k≠aW:=by have:=h.base;omega
   obtain⟨iX,q,aG,rfl⟩:=ea k p bF bz;rw[dB _ _ bF];exact t.ea k an q aG
  ·by_cases bF:k=aW
   ·subst k;exact bE
   ·obtain⟨iX,q,aG,rfl⟩:=ea k p bF bz
    exact t.new k q aG
end
section
variable {P:Program} {G:aR} {o:Oper} {s:aQ}
theorem Q7(x y:Operand)(t:TypeId)(au:o.op= .call {callee:=.builtin .append,args:=#[x,y],argTypes:=#[t,t]}){e n bytes:Nat}(aJ:qa P t=some (e,n,bytes))
 {id:Nat}(hx:aP G s x= .aq id){es:List (List aU)}(bf:aE s.heap id=some (.row false e n es))(ag:s.base≤s.next)
 {fs:List (List aU)}(aA:h0 s.heap n (aP G s y)=some fs)(bT:es.length+fs.length≤maxLen∧(es.length+fs.length)*bytes≤140737488355328):
 ep P G o s (aQ.put ⟨eM id s.db,(s.next,.row false e n (es++fs))::ef id s.heap,s.next+1,s.base⟩ o.dst (.aq s.next)):=by
 intro E a w ⟨β,ro,ah⟩ K Q hK
 obtain⟨i,z,hu,hi,aT,hR,jQ,iu,hn⟩:=rD aJ
 obtain⟨b,cap,hc,mR,qd,f,jH,qe⟩:=x5 ah.heap (ah.eval y) aA
 have dS:=ah.heap.dq id _ bf
 cases dS with
 |row _ _ _ xs dM bW fx=>
  have lr:a.eval x=β id:=by
   have h:=ah.eval x
   rw[hx]at h;generalize a.eval x=c at h
   cases h with
   |aq _ _ _ ar=>exact ar _ _ _ _ bf
  obtain⟨o9,rv,ry⟩:=Be mR qe
  obtain⟨bu,w',cy,qD,dG,bc⟩:=LQ (P:=P) t o.type e hu hi aT hR jQ iu hn dM (b:=b) (m:=fs.length) (cap:=cap) o9 (fun ag=>by rw[qd ag];rfl)
   (fun bb a6 j u aj=>by
    have dj:=(List.getElem?_eq_some_iff.1 aj).1
    rw[o9]at dj
    have ab:=jH bb a6 j dj
    simp[dj]at aj
    rw[ab,aj]) rv bT.1 bT.2
  unfold Oper.wp;simp only[execOp,au,resolve,invoke,builtin,Sem.run_bind,Sem.run_pure,Result.andThen_ok,List.map_toArray,List.map_cons,List.map_nil,lr,hc,cy]
  have kB: ∀k,k<w.heap.size→cz (β id)≠some k→w'.heap[k]? =w.heap[k]? :=fun k an bW=>dG.block k an (fun e=>bW e.symm)
  have cr: ∀k,ro k→w'.heap[k]? =w.heap[k]? :=fun k an=>kB k (ah.heap.lt k an) fun bc=>ah.heap.e8 k an ⟨id,_,bf,rfl,bc⟩
  refine hK _ _ ⟨iH β s.next bu,ro,dn.put (ah.Uv (w':=w') id ag bf (.row false e n (es++fs)) bu dG.os dG.tape dG.output dG.size kB bc rfl ?_) o.dst _ _ ?_⟩
  ·refine .row e n _ _ (by rw[eT,List.length_append];exact qD) (fun aF jz=>?_) (fun j x aj=>?_)
   ·rw[List.mem_append]at jz
    rcases jz with h|h
    ·exact bW _ h
    ·exact mR _ h
   ·exact(F5 bW dM.1 fx ry j x aj).keep cr fun _ h=>h
  ·exact .aq _ _ (Nat.lt_succ_self _) fun z bh bL eD _=>(eT _ _ _).symm
theorem Q5(x y:Operand)(t u:TypeId)(au:o.op= .call {callee:=.builtin .append,args:=#[x,y],argTypes:=#[t,u]}){e:TypeId}(aJ:vX P t u=some e)
 {id:Nat}(hx:aP G s x= .aq id){es:List (List aU)}(bf:aE s.heap id=some (.row false e 1 es))(ag:s.base≤s.next)
 {b:ByteArray}(aA:aP G s y= .ad (.v (.string b)))(bT:es.length+b.size≤maxLen∧es.length+b.size≤140737488355328):
 ep P G o s (aQ.put ⟨eM id s.db,(s.next,.row false e 1 (es++(ff b).map fun z=>[aU.v (.int .u8 z)]))::ef id s.heap,s.next+1,s.base⟩ o.dst (.aq s.next)):=by
 intro E a w ⟨β,ro,ah⟩ K Q hK
 obtain⟨i,hu,ao,hi,aT,hR,jQ⟩:=Nf aJ
 have dS:=ah.heap.dq id _ bf
 cases dS with
 |row _ _ _ xs dM bW fx=>
  have lr:a.eval x=β id:=by
   have h:=ah.eval x
   rw[hx]at h;generalize a.eval x=c at h
   cases h with
   |aq _ _ _ ar=>exact ar _ _ _ _ bf
  obtain⟨bu,w',cy,qD,dG,bc⟩:=Nb (P:=P) t u o.type e hu ao hi aT hR jQ dM b bT.1 bT.2;obtain⟨dp,di⟩:=Nd (w:=w) (ro:=ro) b;unfold Oper.wp;simp only[execOp,au,resolve,invoke,builtin,Sem.run_bind,Sem.run_pure,Result.andThen_ok,List.map_toArray,List.map_cons,List.map_nil,lr,ah.dR aA,cy]
  have kB: ∀k,k<w.heap.size→cz (β id)≠some k→w'.heap[k]? =w.heap[k]? :=fun k an bW=>dG.block k an (fun e=>bW e.symm)
  have cr: ∀k,ro k→w'.heap[k]? =w.heap[k]? :=fun k an=>kB k (ah.heap.lt k an) fun bc=>ah.heap.e8 k an ⟨id,_,bf,rfl,bc⟩
  refine hK _ _ ⟨iH β s.next bu,ro,dn.put (ah.Uv (w':=w') id ag bf (.row false e 1 (es++(ff b).map fun z=>[aU.v (.int .u8 z)])) bu dG.os dG.tape dG.output dG.size kB bc rfl ?_) o.dst _ _ ?_⟩
  ·refine .row e 1 _ _ (by rw[eT,List.length_append,dp];exact qD) (fun aF jz=>?_) (fun j x aj=>?_)
   ·rw[List.mem_append]at jz
    rcases jz with h|h
    ·exact bW _ h
    ·obtain⟨z,_,rfl⟩:=List.mem_map.1 h
     rfl
   ·exact(F5 bW dM.1 fx di j x aj).keep cr fun _ h=>h
  ·exact .aq _ _ (Nat.lt_succ_self _) fun z bh bL eD _=>(eT _ _ _).symm
end
section
theorem bV.zfd{s s':aQ}(id off m k hX n:Nat){t:TypeId}{cs:List aC}{es:List (List aU)}(bf:aE s.heap id=some (.box t cs))(hm:aE s.heap m=some (.row false hX n es))(hc:cs[off]? =some (.aq m))(ag:s.base≤k)(bE:k<s.next)(Ng:id≠k)
 (h:(⟨eM k (eM m s.db),eA ((k,.row false hX n es)::ef k (ef m s.heap)) id (.box t ((eM k (eM m cs)).set off (.aq k))),s.next,s.base⟩:aQ)=s'):bV s s':=by
 subst h
 intro E G a w ⟨β,ro,ah⟩
 have zfe:id≠m:=fun h=>by rw[h,hm]at bf;cases bf
 have Nh:=ah.heap.dq m _ hm
 have gh:=ah.Uw (w':=w) m k ag bE hm (.row false hX n es) (β m) rfl rfl rfl (Nat.le_refl _) (fun _ _ _=>rfl) (fun _ ag=>.inl ag) rfl (by
  cases Nh with
  |row _ _ _ xs ab ae aw=>exact .row hX n es xs (by rw[eT];exact ab) ae aw)
 have wT:aE ((k,.row false hX n es)::ef k (ef m s.heap)) id=some (.box t (eM k (eM m cs))):=by
  simp only[aE,if_neg (Ne.symm Ng),rN,if_neg Ng,if_neg zfe,bf,Option.map_some,e0]
 have dS:=gh.heap.dq id _ wT
 have zff:=ah.heap.dq id _ bf
 cases zff with
 |box _ _ pH Ni g1 g2 g3 g4=>
  cases dS with
  |box _ _ b arr ab ae aw aM=>
   have sK:=ab
   rw[dB _ _ Ng,g1]at sK
   have zfg:pH=b:=by simpa using sK
   subst zfg
   have tr:Ni=arr:=by
    have:=g2.symm.trans ae
    simpa using this
   subst tr;refine⟨_,ro,gh.write id _ _ wT rfl rfl (.inl ⟨_,_,_,rfl,rfl⟩) rfl rfl rfl (Nat.le_refl _) (fun _ _ _=>rfl) (.box t _ pH Ni ab ae (by rw[aw,List.length_set]) fun j x aj=>?_)⟩
   rw[List.getElem?_set]at aj
   split at aj
   ·rename_i aD
    subst aD
    split at aj
    ·simp only[Option.some.injEq]at aj
     subst aj
     have az:=g4 off _ hc
     generalize Ni.getD off undef=aZ at az⊢
     cases az with
     |aq _ _ _ ar=>
      refine .aq _ _ bE fun z bh bL eD _=>?_
      rw[ar _ _ _ _ hm];exact(eT _ _ _).symm
    ·cases aj
   ·exact Ls wT (aM j x aj) fun _ _=>rfl
end
end Go.aK
