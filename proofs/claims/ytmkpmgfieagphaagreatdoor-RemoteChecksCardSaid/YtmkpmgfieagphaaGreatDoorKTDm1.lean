/- TD, part K: calls that see all own blocks. Conditions: none. -/
import Derived.Test.YtmkpmgfieagphaaGreatDoorKTDj
import Derived.Test.YtmkpmgfieagphaaGreatDoorKSMu
import Derived.Test.YtmkpmgfieagphaaGreatDoorKTDa
import Derived.Lib.AppendStr
namespace Go.aK
open Go
def Ez:ej→ej→Prop
 | .box _ _,.box _ _=>True
 | .row _ _ n _,.row _ _ m _=>n=m
 | .bL _,.bL _=>True
 |_,_=>False
section
variable {w w':World} {ro ro':Nat→Prop} {σ eU:Heap} {β dL:Nat→Value} {N oV:Nat}
theorem br.move{x:aD}{c:Value}(h:br w ro σ β N x c)(hw: ∀b,ro b→w'.heap[b]? =w.heap[b]?)(cb: ∀b,ro b→ro' b)(gT:N≤oV)
 (aj: ∀id o,id<N→aE eU id=some o→dL id=β id∧∃cz,aE σ id=some cz∧Ez cz o):br w' ro' eU dL oV x c:=by
 induction h with
 |av x c hx=>exact .av x c (hx.keep hw cb)
 |agg cs c ai _ aX=>exact .agg cs c ai aX
 |tuple cs c ai _ aX=>exact .tuple cs c ai aX
 |ptr id off c aq ak=>
  refine .ptr id off c (by omega) fun t cs ah=>?_
  obtain⟨ad,cz,dV,ai⟩:=aj id _ aq ah
  cases cz with
  |box bC cs'=>
   obtain⟨b,aa,ae⟩:=ak bC cs' dV;exact⟨b,ad.trans aa,ae⟩
  |_=>exact ai.elim
 |dz id off c aq ak=>
  refine .dz id off c (by omega) fun t cs ah=>?_
  obtain⟨ad,cz,dV,ai⟩:=aj id _ aq ah
  cases cz with
  |box bC cs'=>
   obtain⟨b,aa,ae⟩:=ak bC cs' dV;exact⟨b,ad.trans aa,ae⟩
  |_=>exact ai.elim
 |cV id i off c aq ak=>
  refine .cV id i off c (by omega) fun z t n es ah=>?_
  obtain⟨ad,cz,dV,ai⟩:=aj id _ aq ah
  cases cz with
  |row iv bC cI dP=>
   have ai:cI=n:=ai
   subst ai;obtain⟨b,l,h0,aa,ae⟩:=ak iv bC cI dP dV;exact⟨b,l,h0,ad.trans aa,ae⟩
  |_=>exact ai.elim
 |aN id c aq ak=>
  refine .aN id c (by omega) fun z t n es ah=>?_
  obtain⟨ad,cz,dV,ai⟩:=aj id _ aq ah
  cases cz with
  |row iv bC cI dP=>rw[ad];exact ak iv bC cI dP dV
  |_=>exact ai.elim
 |fn f p q c d aa ae _ _ hk hl=>exact .fn f p q c d aa ae hk hl
 |ref id c aq ak=>
  refine .ref id c (by omega) fun bO ah=>?_
  obtain⟨ad,cz,dV,ai⟩:=aj id _ aq ah
  cases cz with
  |bL lH=>rw[ad];exact ak lH dV
  |_=>exact ai.elim
 |top c=>exact .top c
end
section
variable {P:Program} {G:a7} {s:aO} {E:Entry} {a:Act} {w w':World} {β:Nat→Value} {ro:Nat→Prop}
variable {o:Oper}
theorem Tl{x:Operand}{xs:Array Operand}{f:Fn}{p q:List aD}{c d:Array Value}(h:c2 E G s a w β ro)(aa:c.size=p.length)(ae:d.size=q.length)(kf: ∀(j:Nat) (x:aD),p[j]? =some x→br w ro s.heap β s.next x (c.getD j undef))(vu: ∀(j:Nat) (x:aD),q[j]? =some x→br w ro s.heap β s.next x (d.getD j undef)):
 ∀(i:Nat) (y:aD),(p++xs.toList.map (aI G s)++q)[i]? =some y→br w ro s.heap β s.next y ((c++xs.map a.eval++d).getD i undef):=fun i y ax=>by
 rw[Array.getD_eq_getD_getElem?]
 rcases Nat.lt_or_ge i (p.length+xs.size)with hi|hi
 ·rw[List.getElem?_append_left (by simpa using hi)]at ax
  rw[Array.getElem?_append_left (by simpa[aa]using hi)]
  rcases Nat.lt_or_ge i p.length with mv|mv
  ·rw[List.getElem?_append_left mv]at ax
   rw[Array.getElem?_append_left (by omega),←Array.getD_eq_getD_getElem?]
   exact kf i y ax
  ·rw[List.getElem?_append_right mv,List.getElem?_map]at ax
   rw[Array.getElem?_append_right (by omega),aa]
   cases aR:xs.toList[i-p.length]? with
   |none=>simp[aR]at ax
   |some z=>
    simp only[aR,Option.map_some,Option.some.injEq]at ax;subst ax
    have pb:xs[i-p.length]? =some z:=by simpa using aR
    simp only[Array.getElem?_map,pb,Option.map_some,Option.getD_some]
    exact h.eval z
 ·rw[List.getElem?_append_right (by simpa using hi)]at ax
  rw[Array.getElem?_append_right (by simpa[aa]using hi),←Array.getD_eq_getD_getElem?]
  have:=vu _ y ax
  simpa[aa]using this
def vv(P:Program)(G:a7)(o:Oper)(s:aO)(f:FuncId)(p q:List aD)(xs:Array Operand):Prop:=
 ∀E a w β ro,c2 E G s a w β ro→∃c d:Array Value,c.size=p.length∧d.size=q.length∧(∀(j:Nat) (x:aD),p[j]? =some x→br w ro s.heap β s.next x (c.getD j undef))∧(∀(j:Nat) (x:aD),q[j]? =some x→br w ro s.heap β s.next x (d.getD j undef))∧
  ∀cJ,(execOp a.eval o).run P cJ=(callFunc f (c++xs.map a.eval++d)).run P cJ
theorem vv.value{x:Operand}{xs:Array Operand}{ts:Array TypeId}(an:o.op= .call {callee:=.value x,args:=xs,argTypes:=ts}){f:FuncId}{p q:List aD}(hx:aI G s x= .fn (.func f) p q):vv P G o s f p q xs:=by
 intro E a w β ro h
 have lK:=h.eval x
 rw[hx]at lK
 generalize he:a.eval x=Kf at lK
 cases lK with
 |fn _ _ _ c d aa ae kf vu=>
  refine⟨c,d,aa,ae,kf,vu,fun cJ=>?_⟩
  simp only[execOp,an,resolve,he,Deferred.ofValue,Sem.run_bind,Sem.run_pure,Result.andThen_ok,invoke]
def methodOf(P:Program)(t:TypeId)(name:String):Option Nat:=
 match P.info? t,P.underlying t with
 |some i,some d=>match i.methods.find? (·.name==name),(match d with
  | .pointer _=>false
  |_=>true)with
  |some m,true=>match m.path.isEmpty,m.func with
   |true,some (f,false)=>some f
   |_,_=>none
  |_,_=>none
 |_,_=>none
theorem zfC{t:TypeId}{name:String}{f:Nat}(h:methodOf P t name=some f)(v:Value)(n:Nat)(w:World):(method (n+1) t v name).run P w= .ok (f,v) w:=by
 unfold methodOf at h
 split at h
 ·rename_i i d hi hd
  split at h
  ·rename_i m hm ak
   split at h
   ·rename_i g ry mb
    cases h
    have rG:m.path.toList=[]:=by
     have:=Array.isEmpty_iff.1 ry
     rw[this]
    unfold method;simp only[Sem.run_bind,typeInfo,hi,Sem.run_pure,Result.andThen_ok,hm,rG,follow,mb]
    cases d<;>first|(cases ak;done)|simp[receiverAt,run_underlying hd,Place.get,Result.andThen,typeInfo,hi,hm,rG,follow,mb]
   ·cases h
  ·cases h
 ·cases h
theorem vv.invoke{y:aD}{x:Operand}{xs:Array Operand}{ts:Array TypeId}{name:String}(an:o.op= .call {callee:=.invoke x name,args:=xs,argTypes:=ts}){t:TypeId}{f:Nat}(hm:methodOf P t name=some f)
 (aw: ∀E a w β ro,c2 E G s a w β ro→∃v,a.eval x= .iface t v∧br w ro s.heap β s.next y v):vv P G o s f [y] [] xs:=by
 intro E a w β ro h
 obtain⟨v,he,ag⟩:=aw E a w β ro h
 refine⟨#[v],#[],rfl,rfl,fun j z af=>?_,fun j z af=>by simp at af,fun cJ=>?_⟩
 ·cases j with
  |zero=>simp at af;subst af;exact ag
  |succ j=>simp at af
 ·have hex:(#[Value.iface t v]++xs.map a.eval).extract 1 (#[Value.iface t v]++xs.map a.eval).size=xs.map a.eval:=by
   apply Array.ext';simp only[Array.toList_extract,Array.toList_append,Array.size_append];simp[List.extract];exact List.take_of_length_le (by simp)
  have zfD:=fun n=>zfC (P:=P) hm v n cJ
  have hd:P.types.size+Made.depth=(P.types.size+99)+1:=rfl
  simp only[execOp,an,resolve,he,Sem.run_bind,Sem.run_pure,Result.andThen_ok,Go.invoke]
  have aL:(#[Value.iface t v]++xs.map a.eval)[0]? =some (.iface t v):=by rw[Array.getElem?_append_left (by show 0<1;decide)];rfl
  rw[hex,aL]
  have ak: ∀k:Program→Sem Next,((program >>= k):Sem Next).run P cJ=(k P).run P cJ:=fun k=>rfl
  show((program >>= fun Ag=>method (Ag.types.size+Made.depth) t v name >>= fun x=>callFunc x.1 (#[x.2]++xs.map a.eval)):Sem Next).run P cJ=_;rw[ak,Sem.run_bind,hd,zfD,Result.andThen_ok,Array.append_empty]
theorem zfE{xs:Array Operand}{f:FuncId}{p q:List aD}(vw:vv P G o s f p q xs)(gB:m4 P f=true)
 {R:aD→Heap→Prop}(hc:dF P G f (p++xs.toList.map (aI G s)++q) s.heap s.next R){bo:aO→Prop}
 (fP: ∀r bU,R r bU→∃m,s.next≤m∧gA m r=true∧lb m bU=true∧(∀id o,id<s.next→aE bU id=some o→∃cz,aE s.heap id=some cz∧Ez cz o)∧bo (aO.put ⟨s.cR,bU,m,s.base⟩ o.dst r)):
 ∀(E:Entry) (a:Act) (w:World),Rel E G s a w→∀(K:Act→World→Prop) (Q:Exit→Act→World→Prop),(∀t,bo t→∀bb w',Rel E G t bb w'→K bb w')→o.wp P a w K Q:=by
 intro E a w ⟨β,ro,h⟩ K Q hK
 obtain⟨c,d,aa,ae,kf,vu,cq⟩:=vw E a w β ro h
 ·unfold Oper.wp
  rw[cq w,Ds gB]
  have ho:=hc w β ro (c++xs.map a.eval++d) (by simp[aa,ae,Nat.add_assoc]) (Tl (x:=.const undef) (f:=.func f) h aa ae kf vu) h.heap h.ib h.trans.new
  refine Calls.mono ho fun e w' aH=>?_
  obtain⟨v,r,bU,dL,ro',cI,rfl,ag,dA,hO,cD⟩:=aH;obtain⟨m,hm,zfF,Tm,zG,eW⟩:=fP r bU ag
  have hw: ∀b,ro b→w'.heap[b]? =w.heap[b]? :=fun b ad=>cD.frame b (h.heap.lt b ad) (h.heap.fg b ad)
  have cb: ∀b,ro b→ro' b:=cD.j1
  have aj: ∀id o,id<s.next→aE bU id=some o→dL id=β id∧∃cz,aE s.heap id=some cz∧Ez cz o:=fun id o bG ah=>⟨(cD.dK id bG o ah).2,zG id o bG ah⟩
  have fc:c2 E G ⟨s.cR,bU,m,s.base⟩ a w' dL ro':=by
   refine⟨h.defers,h.size,fun i x hx=>(h.slot i x hx).move hw cb hm aj,⟨fun id o ah=>?_,hO.inj,hO.fg,hO.lt⟩,h.ib.keep hw cb,?_,h.base⟩
   ·obtain⟨_,zS⟩:=rE Tm ah
    cases hO.c5 id o ah with
    |box t cs b arr aB bd cj eo=>exact .box t cs b arr aB bd cj fun j x af=>(eo j x af).lower (rD (zS t cs rfl) af)
    |row t n es xs aB bd cj=>exact .row t n es xs aB bd cj
    |ga t n es aB=>exact .ga t n es aB
    |bL bO b o aB bd cj=>exact .bL bO b o aB bd cj
   ·have t:=h.trans
    refine⟨cD.os.trans t.os,cD.tape.trans t.tape,cD.output.trans t.output,Nat.le_trans t.size cD.size,fun b ad hn=>?_,fun b ad=>?_,fun b ad=>cb b (t.j1 b ad),fun b ad=>?_,fun id bG o ah=>?_,fun id o ah=>(rE Tm ah).1,Nat.le_trans t.le hm⟩
    ·rw[←t.frame b ad hn]
     refine cD.frame b (Nat.lt_of_lt_of_le ad t.size) fun hA=>?_
     rcases t.hj b hA with q|q
     ·exact hn q
     ·omega
    ·rcases cD.jk b ad with q|q|q
     ·exact t.jk b q
     ·rcases t.hj b q with q|q
      ·exact .inr (.inl q)
      ·exact .inr (.inr q)
     ·exact .inr (.inr (Nat.le_trans t.size q))
    ·rcases cD.hj b ad with q|q
     ·exact t.hj b q
     ·exact .inr (Nat.le_trans t.size q)
    ·have Ka:id<s.next:=Nat.lt_of_lt_of_le bG t.le
     obtain⟨aa,ae⟩:=aj id o Ka ah;obtain⟨cz,au,_⟩:=ae;obtain⟨c0,df⟩:=t.dK id bG cz au;exact⟨c0,aa.trans df⟩
  exact hK _ eW _ _ ⟨dL,ro',fc.put o.dst r v (dA.lower zfF)⟩
end
end Go.aK
namespace Go.aK
open Go
inductive vx:ej→ej→Prop where
 |same (o:ej):vx o o
 |box (t:TypeId) {cs ds:List aD}:fT cs ds→vx (.box t cs) (.box t ds)
 |row (t:TypeId) (n:Nat) {es fs:List (List a1)}:es.length=fs.length→(∀e∈fs,e.length=n)→fZ es.flatten fs.flatten→vx (.row false t n es) (.row false t n fs)
def qJ(s t:aO):Prop:=∀E (G:a7) a w β ro,c2 E G s a w β ro→c2 E G t a w β ro
theorem qJ.le{s t:aO}(h:qJ s t):cm s t:=fun E G a w ⟨β,ro,ag⟩=>⟨β,ro,h E G a w β ro ag⟩
theorem qJ.of{s t:aO}(ad:t.base=s.base)(hn:s.next≤t.next)(aq:t.cR.length=s.cR.length)(ai: ∀(i:Nat) (v:aD),t.cR[i]? =some v→∃u,s.cR[i]? =some u∧Sub u v)
 (ba: ∀(id:Nat) (o:ej),aE t.heap id=some o→∃cz,aE s.heap id=some cz∧vx cz o):qJ s t:=by
 intro E G a w β ro h
 have nP: ∀id ty cs,aE t.heap id=some (.box ty cs)→β id=β id∧∃ty cs,aE s.heap id=some (.box ty cs):=fun id ty cs ah=>by
  obtain⟨cz,aa,ae⟩:=ba id _ ah
  cases ae with
  |same=>exact⟨rfl,ty,cs,aa⟩
  |box _ h=>exact⟨rfl,_,_,aa⟩
 have cY: ∀id z ty n es,aE t.heap id=some (.row z ty n es)→β id=β id∧∃z ty es,aE s.heap id=some (.row z ty n es):=fun id z ty n es ah=>by
  obtain⟨cz,aa,ae⟩:=ba id _ ah
  cases ae with
  |same=>exact⟨rfl,z,ty,es,aa⟩
  |row _ _=>exact⟨rfl,_,_,_,aa⟩
 have nQ: ∀id bO,aE t.heap id=some (.bL bO)→β id=β id∧∃bO,aE s.heap id=some (.bL bO):=fun id bO ah=>by
  obtain⟨cz,aa,ae⟩:=ba id _ ah
  cases ae with
  |same=>exact⟨rfl,bO,aa⟩
 have hex: ∀id o,aE t.heap id=some o→∃cz,aE s.heap id=some cz∧cz.live=o.live:=fun id o ah=>by
  obtain⟨cz,aa,ae⟩:=ba id o ah
  cases ae<;>exact⟨_,aa,rfl⟩
 have own: ∀b,Own t.heap β b→Own s.heap β b:=fun b ⟨id,o,ah,KD,bf⟩=>by
  obtain⟨cz,aa,ae⟩:=hex id o ah;exact⟨id,cz,aa,by rw[ae];exact KD,bf⟩
 refine⟨h.defers,by rw[aq];exact h.size,fun i x hx=>?_,⟨fun id o ah=>?_,fun id gk o cz b aa ae au aP bE cF=>?_,fun b ad an=>h.heap.fg b ad (own b an),h.heap.lt⟩,h.ib,?_,by rw[ad];exact h.base⟩
 ·obtain⟨u,hu,gz⟩:=ai i x hx
  exact(gz _ _ _ _ _ _ (h.slot i u hu)).keep (fun _ _=>rfl) (fun _ h=>h) hn nP cY nQ
 ·obtain⟨cz,aa,zfG⟩:=ba id o ah
  have dg:=(h.heap.c5 id cz aa).keep (fun _ _=>rfl) (fun _ h=>h) hn (Nat.le_refl _) rfl (fun _ _ _=>rfl) nP cY nQ
  cases zfG with
  |same=>exact dg
  |box ty gz=>
   cases dg with
   |box _ _ b arr aB bd cj eo=>
    refine .box ty _ b arr aB bd (by rw[cj,gz.at.1]) fun j x af=>?_
    obtain⟨u,hu,LN⟩:=gz.at.2 j x af;exact LN _ _ _ _ _ _ (eo j u hu)
  |row ty n aq hn gz=>
   cases dg with
   |row _ _ _ xs aB bd cj=>
    refine .row ty n _ xs (by rw[←aq];exact aB) hn fun j x af=>?_
    obtain⟨u,hu,LN⟩:=gz.at.2 j x af;exact LN _ _ _ (cj j u hu)
 ·obtain⟨p,g1,g2⟩:=hex id o aa
  obtain⟨fW,g3,g4⟩:=hex gk cz ae;exact h.heap.inj id gk p fW b g1 g3 (by rw[g2];exact au) (by rw[g4];exact aP) bE cF
 ·have pw:=h.trans
  refine⟨pw.os,pw.tape,pw.output,pw.size,pw.frame,pw.jk,pw.j1,fun b ad=>pw.hj b (own b ad),fun id hi o ah=>?_,fun id o ah=>?_,Nat.le_trans pw.le hn⟩
  ·obtain⟨p,g1,_⟩:=hex id o ah
   exact pw.dK id hi p g1
  ·obtain⟨p,g1,_⟩:=hex id o ah
   exact Nat.lt_of_lt_of_le (pw.new id p g1) hn
theorem cm.of{s t:aO}(ad:t.base=s.base)(hn:s.next≤t.next)(aq:t.cR.length=s.cR.length)(ai: ∀(i:Nat) (v:aD),t.cR[i]? =some v→∃u,s.cR[i]? =some u∧Sub u v)
 (ba: ∀(id:Nat) (o:ej),aE t.heap id=some o→∃cz,aE s.heap id=some cz∧vx cz o):cm s t:=(qJ.of ad hn aq ai ba).le
theorem qJ.put{s t:aO}{i:Nat}{x:a1}(h:qJ s t)(ai:s.cR[i]? =some (.av x)):qJ s (t.put (some i) (.av x)):=by
 intro E G a w β ro ag
 have aG:=h E G a w β ro ag
 refine⟨aG.defers,by simp only[aO.put,List.length_set];exact aG.size,fun j y ax=>?_,aG.heap,aG.ib,aG.trans,aG.base⟩
 simp only[aO.put,List.getElem?_set]at ax
 split at ax
 ·rename_i e
  subst e
  split at ax
  ·cases ax
   cases ag.slot i (.av x) ai with
   |av _ _ aw=>exact .av _ _ aw
  ·cases ax
 ·exact aG.slot j y ax
section
variable {P:Program} {G:a7}
theorem dQ.xI{o:Oper}{s t bC:aO}(h:dQ P G o s t)(aq:cm t bC):dQ P G o s bC:=
 fun E a w ag K Q hK=>h E a w ag K Q fun bb w' dW=>hK bb w' (aq E G bb w' dW)
theorem Tn{s:aO}{dst:Option Nat}{v bg:aD}(h:Sub v bg):cm (s.put dst v) (s.put dst bg):=by
 cases dst with
 |none=>exact cm.refl _
 |some d=>
  refine cm.of rfl (Nat.le_refl _) (by simp[aO.put]) (fun i u hu=>?_) (fun id o an=>⟨o,an,.same o⟩)
  simp only[aO.put,List.getElem?_set]at hu⊢
  split at hu
  ·rename_i e
   rw[if_pos e]
   split at hu
   ·rename_i bG
    cases hu;rw[if_pos bG];exact⟨_,rfl,h⟩
   ·cases hu
  ·rename_i e
   rw[if_neg e];exact⟨u,hu,Sub.refl _⟩
theorem To{s:aO}{h':Heap}{dst:Option Nat}{v:aD}(ba: ∀id o,aE h' id=some o→∃cz,aE s.heap id=some cz∧vx cz o):cm (s.put dst v) (aO.put {s with heap:=h'} dst v):=by
 cases dst with
 |none=>exact cm.of rfl (Nat.le_refl _) rfl (fun i u hu=>⟨u,hu,Sub.refl _⟩) ba
 |some d=>exact cm.of rfl (Nat.le_refl _) rfl (fun i u hu=>⟨u,hu,Sub.refl _⟩) ba
theorem LO: ∀{l m:List a1},fT (l.map .av) (m.map .av)→fZ l m
 |[],[],_=>.nil
 |[],_::_,h=>by cases h
 |_::_,[],h=>by cases h
 |x::l,y::m,h=>by
  cases h with
  |cons aa ae=>
   refine .cons (fun w ro c hc=>?_) (LO ae)
   have:=aa w ro [] (fun _=>undef) 0 c (.av x c hc)
   cases this with
   |av _ _ h=>exact h
theorem fZ.refl: ∀(l:List a1),fZ l l
 |[]=>.nil
 |x::r=>.cons (lP.refl x) (fZ.refl r)
theorem fZ.append{a b c d:List a1}(h:fZ a b)(k:fZ c d):fZ (a++c) (b++d):=by
 induction h with
 |nil=>exact k
 |cons h _ aX=>exact .cons h aX
end
section
variable {P:Program} {G:a7} {s:aO}
theorem zfH{o:Oper}(t:TypeId)(len:Nat)(parts:Array (Nat × Operand))(an:o.op= .buildSlice t len parts){e n:Nat}(hu:P.underlying t=some (.slice e))(bM:(P.info? e).map (·.size)=some n)
 {zs:List Value}(aR:zeroCells P e=some zs)(sT:zs.all Value.oneCell'=true)(mo:zs.length=n)(hlen:0<len*n∧len*n≤16777216)
 {ps:List (Nat × aD)}(rH:parts.toList.map (fun p=>(p.1,aI G s p.2))=ps)(eb:ps.all (fun p=>(cS p.2).all (eD s.heap))=true)
 {ds:List aD}(hf:j7 (fun i=>some (i*n,n)) ((List.replicate len (zs.map fun z=>aD.av (.v z))).flatten) ps=some ds)(ad:s.base≤s.next):
 dQ P G o s ({s with heap:=(s.next,.box e ds)::s.heap,next:=s.next+1}.put o.dst (.dz s.next len)):=by
 have m5:ds.length=len*n:=by
  have: ∀(ps:List (Nat × aD)) (cs ds:List aD),j7 (fun i=>some (i*n,n)) cs ps=some ds→ds.length=cs.length:=by
   intro ps
   induction ps with
   |nil=>intro cs ds h;simp[j7]at h;rw[h]
   |cons p r aX=>
    intro cs ds h;obtain⟨i,v⟩:=p;simp only[j7]at h
    split at h
    ·rename_i hc
     rw[aX _ _ h,qi _ _ _ (by omega)]
    ·cases h
  rw[this ps _ _ hf,j2 (n:=n) (fun e he=>by rw[List.mem_replicate]at he;rw[he.2];simpa using mo)]
  simp
 intro E a w ⟨β,ro,ag⟩ K Q hK
 obtain⟨aa,ae⟩:=Ko ag rH eb
 obtain⟨z,j5,o0,_⟩:=zJ aR w
 have eV:(List.replicate len (zs.map fun z=>aD.av (.v z))).flatten.length=len*n:=by
  rw[j2 (n:=n) (fun e he=>by rw[List.mem_replicate]at he;rw[he.2];simpa using mo)];simp
 have zdz:zs.toArray.size=n:=by simpa using mo
 have rI:0<n:=by
  rcases Nat.eq_zero_or_pos n with h|h
  ·rw[h]at hlen;simp at hlen
  ·exact h
 obtain⟨ys,g1,g2,g3⟩:=Dw (place':=fun i=>some (i*n,n)) (fun _ _ h=>h) ag.heap hf aa ae (xs:=(Array.range (len*n)).map fun x=>zs.toArray[x%zs.toArray.size]!) (by rw[eV];simp) (fun j x af=>by
  have cL:j<len*n:=by rw[←eV];exact(List.getElem?_eq_some_iff.1 af).1
  have hm:j=(j/ n)*n+j%n:=by rw[Nat.mul_comm];exact(Nat.div_add_mod j n).symm
  have nW:j%n<n:=Nat.mod_lt _ rI
  have nX:j/ n<len:=by rw[Nat.div_lt_iff_lt_mul rI];exact cL
  rw[hm,rq (n:=n) (fun e he=>by rw[List.mem_replicate]at he;rw[he.2];simpa using mo) (i:=j/ n) (e:=zs.map fun z=>aD.av (.v z)) (by simp[nX]) (j%n) nW]at af
  have:=Kn (w:=w) (ro:=ro) (σ:=s.heap) (β:=β) (N:=s.next) sT (j%n) x af
  have aB:(Array.map (fun x=>zs.toArray[x%zs.toArray.size]!) (Array.range (len*n))).getD j undef=zs.toArray.getD (j%n) undef:=by
   have au:j%n<zs.length:=by omega
   simp[cL,mo,List.getElem?_eq_getElem au]
  rw[aB]
  exact this)
 have cq:(execOp a.eval o).run P w= .ok (.value (.slice (some ⟨w.heap.size,0,none⟩) len len)) (w.alloc (.cells ys e)):=by
  have zX:(sizeOf e).run P w= .ok n w:=by
   cases hi:P.info? e with
   |none=>simp[hi]at bM
   |some i=>simp[hi]at bM;simp[sizeOf,typeInfo,hi,bM]
  have b3: ¬len*n>2^24:=by omega
  have jq: ¬len*n=0:=by omega
  simp only[execOp,an,Sem.run_bind,Instr.buildSlice,run_underlying hu,Result.andThen_ok,zX,if_neg b3,if_neg jq,j5,Sem.run_pure,o0]
  erw [g1]
  simp[newRow]
 have jl:aE s.heap s.next=none:=by
  cases ah:aE s.heap s.next with
  |none=>rfl
  |some p=>have:=ag.trans.new _ _ ah;omega
 have up: ∀(x:aD) (c:Value),br w ro s.heap β s.next x c→br (w.alloc (.cells ys e)) ro ((s.next,.box e ds)::s.heap) (gV β s.next (.pointer (some ⟨w.heap.size,0,none⟩))) (s.next+1) x c:=fun x c hx=>
  hx.move (fun b ad=>(Go.RowKit.Below.heap_alloc w _ b (ag.heap.lt b ad))) (fun _ h=>h) (Nat.le_succ _) fun id o bG ah=>by
   have b3: ¬s.next=id:=by omega
   simp only[aE,if_neg b3]at ah;refine⟨cZ _ _ (fun ba=>b3 ba.symm),o,ah,?_⟩
   cases o with
   |box=>trivial
   |row=>rfl
   |bL=>trivial
 have fc:=ag.new (w':=w.alloc (.cells ys e)) s.next jl ad (Nat.le_refl _) (.box e ds) (.pointer (some ⟨w.heap.size,0,none⟩)) rfl rfl rfl (by simp) (fun b ad=>Go.RowKit.Below.heap_alloc w _ b ad) (fun b ad=>by simp[b2]at ad;omega) rfl
  (.box e ds w.heap.size ys (by rw[dR]) (heap_alloc_new w _) g2 fun j x af=>up _ _ (g3 j x af))
 unfold Oper.wp
 rw[cq]
 exact hK _ _ ⟨_,ro,fc.put o.dst (.dz s.next len) (.slice (some ⟨w.heap.size,0,none⟩) len len) (.dz _ _ _ (Nat.lt_succ_self _) fun t cs _=>⟨_,dR _ _ _,rfl⟩)⟩
end
def ab.AK:ab→Bool
 | .aT _ _=>true
 | .fd _ _ _ _=>true
 | .cs _=>true
 | .ip _ _ _=>true
 |_=>false
theorem EA{G:a7}{e:Env}: ∀{l:List ab},l.all ab.AK=true→∃vs,iP (ab.bP G e l)=some vs∧ab.bP G e l=vs.map .av
 |[],_=>⟨[],rfl,rfl⟩
 |x::r,h=>by
  simp only[List.all_cons,Bool.and_eq_true]at h;obtain⟨vs,aa,ae⟩:=EA (G:=G) (e:=e) h.2
  have: ∃y,x.den G e= .av y:=by
   cases x<;>first|exact⟨_,rfl⟩|(simp[ab.AK]at h)
  obtain⟨y,ax⟩:=this;refine⟨y::vs,?_,?_⟩
  ·simp only[ab.bP,ax,iP,aa]
  ·simp only[ab.bP,ax,ae,List.map_cons]
mutual
def ab.kill(id:Nat):ab→ab
 | .cg l=>.cg (ab.ef id l)
 | .tp l=>.tp (ab.ef id l)
 | .ed k o=>match decide (k=id)with
  |true=>.top
  |false=>.ed k o
 | .gM k x o=>match decide (k=id)with
  |true=>.top
  |false=>.gM k x o
 | .gW k o x n=>match decide (k=id)with
  |true=>.top
  |false=>.gW k o x n
 | .aN k=>match decide (k=id)with
  |true=>.top
  |false=>.aN k
 | .cB k n=>match decide (k=id)with
  |true=>.top
  |false=>.cB k n
 | .fi g (some k) o=>match decide (k=id)with
  |true=>.fi g none o
  |false=>.fi g (some k) o
 | .fn f a b=>.fn f (ab.ef id a) (ab.ef id b)
 | .gY k=>match decide (k=id)with
  |true=>.top
  |false=>.gY k
 | .fI g b x=>.fI g b (ab.kill id x)
 |x=>x
def ab.ef(id:Nat):List ab→List ab
 |[]=>[]
 |x::r=>ab.kill id x::ab.ef id r
end
def a8.map{α:Type}(f:α→α):a8 α→a8 α
 | .emp=>.emp
 | .n v l r=>.n (match v with|some x=>some (f x)|none=>none) (l.map f) (r.map f)
theorem a8.get_map{α:Type}(f:α→α): ∀(t:a8 α) (k:Nat),(t.map f).get k=(t.get k).map f
 | .emp,_=>rfl
 | .n v l r,k=>by
  simp only[a8.map,a8.get]
  split
  ·cases v<;>rfl
  ·split
   ·exact a8.get_map f l _
   ·exact a8.get_map f r _
structure da where
 xs:List bJ
 ns:List fe
 RP:Option Nat
 h:List (Nat × bF)
 n:Nat
 v:ab
def da.l(r:da)(l:a8 ab):a8 ab:=
 match r.RP with
 |none=>l
 |some id=>l.map (ab.kill id)
def da.st(r:da)(S:ao)(dst:Option Nat):ao:=({S with l:=r.l S.l,h:=r.h,n:=r.n}:ao).put dst r.v
def mE(P:Program)(G:a7)(N B:Nat)(M:List aQ)(o:Oper)(S:ao)(r:da):Prop:=
 ∀e,(∀c∈S.g,c.ok e)→(∀(j:Nat) (x:bJ),r.xs[j]? =some x→Env.at e (S.k+j)=x.den M e)→(∀n∈r.ns,n.ok M e)→dQ P G o (S.den G N B e) ((r.st S o.dst).den G N B e)
def LP(P:Program)(B:Nat)(S:ao)(t:TypeId):Option da:=
 match zeroCells P t with
 |some zs=>match zs.all Value.oneCell'&&Nat.ble B S.n with
  |true=>some ⟨[],[],none,(S.n,.di t (zs.map .cs))::S.h,S.n+1,.ed S.n 0⟩
  |false=>none
 |none=>none
def LQ(B:Nat)(S:ao)(t:TypeId)(x:ab):Option da:=
 match x.cells.all (kL S.h)&&Nat.ble B S.n with
 |true=>some ⟨[],[],none,(S.n,.di t x.cells)::S.h,S.n+1,.ed S.n 0⟩
 |false=>none
def LR(P:Program)(S:ao)(t:TypeId)(p x:ab):Option da:=
 match p with
 | .ed id off=>match c9 S.h id,(P.info? t).map (·.size)with
  |some (.di bt l),some n=>match x.cells.all (kL S.h)&&(Nat.beq n x.cells.length&&Nat.ble (off+n) l.length)with
   |true=>some ⟨[],[],none,ju S.h id (.di bt (ek l off x.cells)),S.n,.top⟩
   |false=>none
  |_,_=>none
 | .gM id i off=>match c9 S.h id,(P.info? t).map (·.size),i.rt with
  |some (.rw bt c y),some n,some (.int k)=>match x.cells.all ab.AK&&((x.cells.all (kL S.h)&&y.ey (.li c))&&(Nat.beq n x.cells.length&&(Nat.ble (off+n) (bY c)&&hs (eX c) (ek (iS c S.k 0 (eX c)) off x.cells))))with
   |true=>some ⟨[.f2 (.kb c k) y i,.up c y i (.cg (ek (iS c S.k 0 (eX c)) off x.cells))],pr S.g (.iT c) (.kb c k) y i,
    none,ju S.h id (.rw bt c (.aT (.li c) (S.k+1))),S.n,.top⟩
   |false=>none
  |_,_,_=>none
 |_=>none
section
variable {P:Program} {G:a7} {o:Oper} {N B:Nat} {S:ao} {M:List aQ}
theorem zfI{t:TypeId}{r:da}(an:o.op= .alloc t)(h:LP P B S t=some r):mE P G N B M o S r:=fun e hf hx hn=>by
 unfold LP at h
 split at h
 ·rename_i zs aR
  split at h
  ·rename_i ad
   cases h;simp only[Bool.and_eq_true]at ad
   have:=Q6 (G:=G) (s:=S.den G N B e) t an (Nat.le_of_ble_eq_true ad.2) aR ad.1
   rw[da.st,fa];simp only[ao.den,cx,bF.den,ab.den,da.l]at this⊢;rw[e5,List.map_map];exact this
  ·cases h
 ·cases h
theorem zfJ{t:TypeId}{x:Operand}{r:da}(an:o.op= .box t x)(h:LQ B S t (S.aY N x)=some r):mE P G N B M o S r:=fun e hf hx hn=>by
 unfold LQ at h
 split at h
 ·rename_i ad
  cases h;simp only[Bool.and_eq_true]at ad
  have aw:=vm (G:=G) (e:=e) ad.1
  have:=Q4 (P:=P) (G:=G) (s:=S.den G N B e) t x an (Nat.le_of_ble_eq_true ad.2) (by rw[bH hf,aw];exact xA ad.1)
  rw[bH hf,aw]at this;rw[da.st,fa];exact this
 ·cases h
theorem zfK{c:bK}{l:List (fN c)}{j:Nat}{iX aB:fN c}{vs:List a1}(aL:l[j]? =some iX)(ai:fZ vs (b9 c aB)):fZ ((l.map (b9 c)).set j vs).flatten ((l.set j aB).map (b9 c)).flatten:=by
 induction l generalizing j with
 |nil=>simp at aL
 |cons x l aX=>
  cases j with
  |zero=>
   simp only[List.map_cons,List.set_cons_zero,List.flatten_cons];exact ai.append (fZ.refl _)
  |succ j=>
   simp only[List.map_cons,List.set_cons_succ,List.flatten_cons];exact(fZ.refl _).append (aX (by simpa using aL))
theorem zfL{t:TypeId}{p x:Operand}{r:da}(an:o.op= .store t p x)(h:LR P S t (S.aY N p) (S.aY N x)=some r):mE P G N B M o S r:=fun e hf hx hn=>by
 unfold LR at h
 split at h
 ·rename_i id off ak
  split at h
  ·rename_i bt l n ah bM
   split at h
   ·rename_i ad
    cases h;simp only[Bool.and_eq_true]at ad
    have aw:=vm (G:=G) (e:=e) ad.1
    have hlen:=Nat.eq_of_beq_eq_true ad.2.1
    have lM:cS (aI G (S.den G N B e) x)=ab.bP G e (S.aY N x).cells:=by rw[bH hf,aw]
    have:=Q8 (P:=P) (G:=G) (s:=S.den G N B e) t p x an (id:=id) (off:=off) (by rw[bH hf,ak];rfl) (bt:=bt) (cs:=ab.bP G e l) (by simp only[ao.den,eh,ah,Option.map_some,bF.den])
     (vs:=ab.bP G e (S.aY N x).cells) lM (xA ad.1) (by rw[mc,bM,hlen]) (by rw[mc,mc,←hlen];exact Nat.le_of_ble_eq_true ad.2.2)
    rw[da.st,fa];simp only[ao.den,ti,bF.den,ab.den,da.l]at this⊢;rw[e5,Ef,←e5,←e5];exact this
   ·cases h
  ·cases h
 ·rename_i id i off ak
  split at h
  ·rename_i bt c y n k ah bM hi
   split at h
   ·rename_i ad
    cases h;simp only[Bool.and_eq_true]at ad;obtain⟨gp,⟨im,hU⟩,tu,xJ,AL⟩:=ad
    have hlen:=Nat.eq_of_beq_eq_true tu
    obtain⟨g1,g2⟩:=xy hf hi hn;obtain⟨vs,v1,v2⟩:=EA (G:=G) (e:=e) gp
    have fC:vs.length=n:=by
     have:=congrArg List.length v2
     rw[mc,List.length_map]at this;omega
    have lM:cS (aI G (S.den G N B e) x)=ab.bP G e (S.aY N x).cells:=by rw[bH hf,vm im]
    have aL:Env.at e S.k=⟨.st c,List.getD (y.az e (.li c)) (Int.toNat (i.az e (.int k))) (aA c)⟩:=hx 0 _ rfl
    have aa:Env.at e (S.k+1)=_:=hx 1 _ rfl
    have eJ:=Ta g1 g2
    have dC:=Ra (P:=P) (G:=G) (s:=S.den G N B e) t p x an (id:=id) (i:=(cl (i.dyn e)).toNat) (off:=off) (by rw[bH hf,ak];rfl) (bt:=bt) (n:=bY c) (es:=List.map (b9 c) (y.az e (.li c))) (by simp only[ao.den,eh,ah,Option.map_some,bF.den])
     (e:=b9 c (List.getD (y.az e (.li c)) (Int.toNat (i.az e (.int k))) (aA c))) (by rw[List.getElem?_map,lS hi,eJ];rfl) (by rw[lM];exact v1) (by rw[bM,fC]) (by rw[fC];exact Nat.le_of_ble_eq_true xJ)
    refine dC.xI ?_
    rw[da.st,fa]
    have k9:fZ (ek (b9 c (List.getD (y.az e (.li c)) (Int.toNat (i.az e (.int k))) (aA c))) off vs) (b9 c (pc c (fU e (eX c) (ek (iS c S.k 0 (eX c)) off (S.aY N x).cells)))):=by
     have:=Ap (G:=G) (e:=e) AL
     rw[e5,Ef,←e5,←e5,ta,aL,cA,v2,←Ef]at this;exact LO this
    have fc:(ab.aT (.li c) (S.k+1)).az e (.li c)=List.set (y.az e (.li c)) (cl (i.dyn e)).toNat (pc c (fU e (eX c) (ek (iS c S.k 0 (eX c)) off (S.aY N x).cells))):=by
     simp only[ab.az,ab.fq,ab.dyn,cA,aa,bJ.den,ab.get,ab.cells]
    refine To (s:={S.den G N B e with heap:=eM (S.den G N B e).heap id _}) (h':=cx G e (ju S.h id (.rw bt c (.aT (.li c) (S.k+1))))) fun gk ic AM=>?_
    rw[ti,wR]at AM;simp only[wR]
    by_cases bc:id=gk
    ·rw[if_pos bc]at AM⊢
     cases AM;refine⟨_,rfl,?_⟩
     simp only[bF.den];rw[fc];refine .row bt (bY c) (by simp) (fun q aH=>?_) (zfK (by rw[lS hi];exact eJ) k9)
     obtain⟨z,_,rfl⟩:=List.mem_map.1 aH;exact DK c z
    ·rw[if_neg bc]at AM⊢
     exact⟨ic,AM,.same ic⟩
   ·cases h
  ·cases h
 ·cases h
end
end Go.aK
namespace Go.aK
open Go Go.Lib
section
variable {P:Program}
theorem LS{w:World}(t u ty e:TypeId){i:TypeInfo}(aG:P.underlying t=some (.slice e))(hu:P.underlying u=some .string)(hi:P.info? e=some i)(aR:i.zero=some (.int .u8 0))(iw:i.size=1)(jr:i.bytes=1)
 {v:Value}{n:Nat}{xs:List Value}(cY:ia w e 1 v n xs)(s:ByteArray)(sU:n+s.size≤maxLen)(zY:n+s.size≤140737488355328):
 ∃bg w',(Builtin.append_ #[t,u] ty #[v,.string s]).run P w= .ok bg w'∧ia w' e 1 bg (n+s.size) (xs++strCells s)∧w.grownBy w' (b2 v)∧(∀k,b2 bg=some k→b2 v=some k∨w.heap.size≤k):=by
 have zjX:n+s.size≤9223372036854775807:=by simp only[maxLen]at sU;omega
 have jK:xs.length=n:=by simpa using cY.1
 have hlen:(xs++strCells s).length=(n+s.size)*1:=by rw[List.length_append,jK,strCells_length,Nat.mul_one]
 have grown: ∀(dK:Nat),dK<n+s.size→∀(row:Option Nat),
  ia (w.drew.alloc (.cells (xs.toArray++(strCells s).toArray++Builtin.zeroCells (Value.int .u8 0).cells (grownCap w (n+s.size) dK e-(n+s.size))) e)) e 1
   (.slice (some ⟨w.heap.size,0,none⟩) (n+s.size) (grownCap w (n+s.size) dK e)) (n+s.size) (xs++strCells s)∧
  w.grownBy (w.drew.alloc (.cells (xs.toArray++(strCells s).toArray++Builtin.zeroCells (Value.int .u8 0).cells (grownCap w (n+s.size) dK e-(n+s.size))) e)) row:=by
  intro dK an row
  have hW:=grownCap_ge w (n+s.size) dK e
  have ie:grownCap w (n+s.size) dK e≤maxLen:=grownCap_le_maxLen w (n+s.size) dK e sU
  refine⟨⟨hlen,.inr ⟨w.heap.size,_,_,rfl,by omega,heap_alloc_new w.drew _,hW,ie,?_,?_⟩⟩,⟨rfl,rfl,rfl,by simp,fun k aj _=>Go.RowKit.Below.heap_alloc w.drew _ k aj⟩⟩
  ·have iB:(Value.int IntKind.u8 0).cells.size=1:=rfl
   simp only[Array.size_append,List.size_toArray,size_zeroCells,iB,jK,strCells_length];omega
  ·simp only[Array.toList_append,List.append_assoc]
   rw[←List.append_assoc,←hlen];exact List.take_left
 have LU: ∀(m c k:Nat),b2 (.slice (some ⟨w.heap.size,0,none⟩) m c)=some k→b2 v=some k∨w.heap.size≤k:=fun m c k aj=>by
  simp only[b2]at aj
  split at aj
  ·cases aj
  ·simp at aj;exact .inr (by omega)
 rcases cY.2 with⟨⟨c,rfl,uT⟩,jq⟩|⟨g,cap,cur,rfl,zZ,ah,AN,ie,dI,lI⟩
 ·subst jq
  have hx:xs=[]:=List.eq_nil_of_length_eq_zero jK
  subst hx
  by_cases hm:s.size=0
  ·have rJ:strCells s=[]:=List.eq_nil_of_length_eq_zero (by rw[strCells_length];exact hm)
   have hf:=run_firstCells_string (P:=P) w 1 s
   rw[hm]at hf;refine⟨.slice c 0 0,w,?_,by rw[hm,rJ];exact⟨rfl,.inl ⟨⟨c,rfl,uT⟩,rfl⟩⟩,World.grownBy.refl w _,fun k aj=>.inl aj⟩
   cases c<;>simp[Builtin.append_,run_underlying aG,run_underlying hu,sizeOf,typeInfo,hi,iw,Builtin.lenOf,hm,hf,rJ,storeCells]
  ·have cT:=grown 0 (by omega) (b2 (.slice c 0 0))
   cases c with
   |none=>
    have ag:=run_append_nil_string (P:=P) w t u ty e i (.int .u8 0) aG hu hi aR s (by omega) (by omega) (by rw[jr];omega)
    simp only[Nat.zero_add,List.nil_append,Array.empty_append]at cT⊢
    have aB:(s.data.map fun b=>Value.int .u8 b.toNat)=(strCells s).toArray:=by
     apply Array.ext';simp[strCells]
    rw[aB]at ag;exact⟨_,_,ag,cT.1,cT.2,LU _ _⟩
   |some a=>
    have ag:=run_append_grow_string (P:=P) w t u ty e i (.int .u8 0) aG hu hi aR a 0 0 [] (by simp) (by simp) s (by omega) (by omega) (by rw[jr];exact growslice_fits (by omega) (by omega))
    exact⟨_,_,ag,cT.1,cT.2,LU _ _⟩
 ·by_cases xK:n+s.size≤cap
  ·have ag:=run_append_room_string (P:=P) w t u ty e i aG hu hi iw g n cap cur ah s xK (by omega)
   refine⟨_,_,ag,⟨hlen,.inr ⟨g,cap,_,rfl,zZ,setRow_heap w g cur _ e _ ah,xK,ie,?_,?_⟩⟩,⟨rfl,rfl,rfl,by simp,fun k _ aj=>setRow_other w g k _ (fun e=>aj (by simp[b2,e,Nat.ne_of_gt zZ]))⟩,fun k aj=>.inl ?_⟩
   ·simp only[List.size_toArray,List.length_append,List.length_take,List.length_drop,Array.length_toList,strCells_length]
    omega
   ·have cD:cur.toList.take n=xs:=by simpa using lI
    rw[cD,←hlen];exact List.take_left
   ·simpa[b2,Nat.ne_of_gt zZ]using aj
  ·have holds: ∀j u,xs[j]? =some u→w.cell? ((⟨g,0,none⟩:Addr).add j)=some u:=by
    have hA:w.ownsRow 0 e 1 (.slice (some ⟨g,0,none⟩) n cap) n xs:=⟨cY.1,.inr ⟨g,cap,cur,rfl,Nat.zero_le _,ah,AN,ie,dI,lI⟩⟩
    exact hA.cells (g:=g) rfl
   have ag:=run_append_grow_string (P:=P) w t u ty e i (.int .u8 0) aG hu hi aR ⟨g,0,none⟩ n cap xs (by rw[iw];simpa using jK) holds s (by omega) (by omega) (by rw[jr];exact growslice_fits (by omega) (by omega))
   have cT:=grown cap (by omega) (b2 (.slice (some ⟨g,0,none⟩) n cap))
   exact⟨_,_,ag,cT.1,cT.2,LU _ _⟩
def eB(b:ByteArray):List Int:=b.data.toList.map fun u=>(u.toNat:Int)
theorem LV{w:World}{ro:Nat→Prop}(b:ByteArray):((eB b).map fun z=>[a1.v (.int .u8 z)]).length=b.size∧∀(j:Nat) (x:a1),((eB b).map fun z=>[a1.v (.int .u8 z)]).flatten[j]? =some x→cQ w ro x ((strCells b).getD j undef):=by
 refine⟨by rw[List.length_map];unfold eB;rw[List.length_map,Array.length_toList];rfl,fun j x af=>?_⟩
 have mg:((eB b).map fun z=>[a1.v (.int .u8 z)]).flatten=(eB b).map fun z=>a1.v (.int .u8 z):=by
  generalize eB b=l
  induction l with
  |nil=>rfl
  |cons y r aX=>simp only[List.map_cons,List.flatten_cons,aX,List.singleton_append]
 rw[mg]at af
 unfold eB at af
 simp only[List.map_map,List.getElem?_map]at af
 obtain⟨u,hu,rfl⟩:=Option.map_eq_some_iff.1 af
 have:(strCells b).getD j undef= .int .u8 (u.toNat:Int):=by
  unfold strCells;simp[List.getD,hu]
 rw[this]
 exact .v _ rfl
variable {G:a7} {s:aO} {o:Oper}
def xL(P:Program)(t u:TypeId):Option TypeId:=
 match P.underlying t,P.underlying u with
 |some (.slice e),some .string=>match P.info? e with
  |some i=>match i.zero with
   |some (.int .u8 0)=>match Nat.beq i.size 1&&Nat.beq i.bytes 1 with
    |true=>some e
    |false=>none
   |_=>none
  |none=>none
 |_,_=>none
theorem LW{t u e:TypeId}(h:xL P t u=some e): ∃i,P.underlying t=some (.slice e)∧P.underlying u=some .string∧P.info? e=some i∧i.zero=some (.int .u8 0)∧i.size=1∧i.bytes=1:=by
 unfold xL at h
 split at h
 ·rename_i ay hu ai
  split at h
  ·rename_i i hi
   split at h
   ·rename_i aR
    split at h
    ·rename_i hc
     cases h;simp only[Bool.and_eq_true]at hc;exact⟨i,hu,ai,hi,aR,Nat.eq_of_beq_eq_true hc.1,Nat.eq_of_beq_eq_true hc.2⟩
    ·cases h
   ·cases h
  ·cases h
 ·cases h
theorem zfM(x y:Operand)(t u:TypeId)(an:o.op= .call {callee:=.builtin .append,args:=#[x,y],argTypes:=#[t,u]}){e:TypeId}(aG:xL P t u=some e)
 {id:Nat}(hx:aI G s x= .aN id){es:List (List a1)}(bc:aE s.heap id=some (.row false e 1 es))(ad:s.base≤id)(bG:id<s.next)
 {b:ByteArray}(ax:aI G s y= .av (.v (.string b)))(bM:es.length+b.size≤maxLen∧es.length+b.size≤140737488355328):
 dQ P G o s (aO.put ⟨ef id s.cR,(id,.row false e 1 (es++(eB b).map fun z=>[a1.v (.int .u8 z)]))::du id s.heap,s.next,s.base⟩ o.dst (.aN id)):=by
 intro E a w ⟨β,ro,ag⟩ K Q hK
 obtain⟨i,hu,ai,hi,aR,iw,jr⟩:=LW aG
 have dg:=ag.heap.c5 id _ bc
 cases dg with
 |row _ _ _ xs cY b3 eV=>
  have lM:a.eval x=β id:=by
   have h:=ag.eval x
   rw[hx]at h;generalize a.eval x=c at h
   cases h with
   |aN _ _ _ ak=>exact ak _ _ _ _ bc
  obtain⟨bg,w',cq,kH,cT,bf⟩:=LS (P:=P) t u o.type e hu ai hi aR iw jr cY b bM.1 bM.2;obtain⟨c0,df⟩:=LV (w:=w) (ro:=ro) b;unfold Oper.wp;simp only[execOp,an,resolve,invoke,builtin,Sem.run_bind,Sem.run_pure,Result.andThen_ok,List.map_toArray,List.map_cons,List.map_nil,lM,ag.ee ax,cq]
  have jm: ∀k,k<w.heap.size→b2 (β id)≠some k→w'.heap[k]? =w.heap[k]? :=fun k aj b3=>cT.block k aj (fun e=>b3 e.symm)
  have cb: ∀k,ro k→w'.heap[k]? =w.heap[k]? :=fun k aj=>jm k (ag.heap.lt k aj) fun bf=>ag.heap.fg k aj ⟨id,_,bc,rfl,bf⟩
  refine hK _ _ ⟨gV β id bg,ro,c2.put (ag.renew (w':=w') id ad bG bc (.row false e 1 (es++(eB b).map fun z=>[a1.v (.int .u8 z)])) bg cT.os cT.tape cT.output cT.size jm bf rfl ?_) o.dst _ _ ?_⟩
  ·refine .row e 1 _ _ (by rw[dR,List.length_append,c0];exact kH) (fun ay j3=>?_) (fun j x af=>?_)
   ·rw[List.mem_append]at j3
    rcases j3 with h|h
    ·exact b3 _ h
    ·obtain⟨z,_,rfl⟩:=List.mem_map.1 h
     rfl
   ·exact(w3 b3 cY.1 eV df j x af).keep cb fun _ h=>h
  ·exact .aN _ _ bG fun z bC cI dP _=>(dR _ _ _).symm
theorem zfN(x y:Operand)(t u:TypeId)(an:o.op= .call {callee:=.builtin .append,args:=#[x,y],argTypes:=#[t,u]}){e:TypeId}(aG:xL P t u=some e)
 (hx:aI G s x= .av (.v (.slice none 0 0)))(ad:s.base≤s.next){b:ByteArray}(ax:aI G s y= .av (.v (.string b)))(bM:b.size≤maxLen∧b.size≤140737488355328):
 dQ P G o s ({s with heap:=(s.next,.row false e 1 ((eB b).map fun z=>[a1.v (.int .u8 z)]))::s.heap,next:=s.next+1}.put o.dst (.aN s.next)):=by
 intro E a w ⟨β,ro,ag⟩ K Q hK
 obtain⟨i,hu,ai,hi,aR,iw,jr⟩:=LW aG
 obtain⟨bg,w',cq,kH,cT,bf⟩:=LS (P:=P) (w:=w) t u o.type e hu ai hi aR iw jr (v:=.slice none 0 0) (n:=0) (xs:=[]) ⟨by simp,.inl ⟨⟨none,rfl,fun _ h=>(by cases h)⟩,rfl⟩⟩ b (by omega) (by omega)
 obtain⟨c0,df⟩:=LV (w:=w) (ro:=ro) b
 unfold Oper.wp
 simp only[execOp,an,resolve,invoke,builtin,Sem.run_bind,Sem.run_pure,Result.andThen_ok,List.map_toArray,List.map_cons,List.map_nil,ag.ee hx,ag.ee ax,cq]
 have jl:aE s.heap s.next=none:=by
  cases ah:aE s.heap s.next with
  |none=>rfl
  |some p=>have:=ag.trans.new _ _ ah;omega
 have hw: ∀b,b<w.heap.size→w'.heap[b]? =w.heap[b]? :=fun b ad=>cT.block b ad (by simp[b2])
 have cb: ∀b,ro b→w'.heap[b]? =w.heap[b]? :=fun b ad=>hw b (ag.heap.lt b ad)
 refine hK _ _ ⟨gV β s.next bg,ro,c2.put (ag.new (w':=w') s.next jl ad (Nat.le_refl _) (.row false e 1 ((eB b).map fun z=>[a1.v (.int .u8 z)])) bg cT.os cT.tape cT.output cT.size hw (fun b ad=>?_) rfl ?_) o.dst _ _ ?_⟩
 ·rcases bf b ad with h|h
  ·simp[b2]at h
  ·exact h
 ·refine .row e 1 _ _ (by rw[dR,c0];simpa using kH) (fun ay j3=>?_) (fun j x af=>(df j x af).keep cb fun _ h=>h)
  obtain⟨z,_,rfl⟩:=List.mem_map.1 j3;rfl
 ·exact .aN _ _ (Nat.lt_succ_self _) fun z bC cI dP _=>(dR _ _ _).symm
end
end Go.aK
namespace Go.aK
open Go Go.Lib
section
variable {P:Program} {G:a7} {s:aO} {E:Entry} {a:Act} {w w':World} {β:Nat→Value} {ro:Nat→Prop}
theorem c2.LX(h:c2 E G s a w β ro)(id:Nat)(ad:s.base≤s.next){t0:TypeId}{n0:Nat}{zV:List (List a1)}(bc:aE s.heap id=some (.row false t0 n0 zV))(o:ej)(val:Value)
 (oX:w'.os=w.os)(oY:w'.tape=w.tape)(kE:w'.output=w.output)(bM:w.heap.size≤w'.heap.size)(hw: ∀b,b<w.heap.size→b2 (β id)≠some b→w'.heap[b]? =w.heap[b]?)
 (gH: ∀b,b2 val=some b→b2 (β id)=some b∨w.heap.size≤b)(_hlive:o.live=true)
 (dg:k8 w' ro ((s.next,o)::du id s.heap) (gV β s.next val) (s.next+1) s.next o):
 c2 E G ⟨ef id s.cR,(s.next,o)::du id s.heap,s.next+1,s.base⟩ a w' (gV β s.next val) ro:=by
 have cb: ∀b,ro b→w'.heap[b]? =w.heap[b]? :=fun b ag=>hw b (h.heap.lt b ag) fun ad=>h.heap.fg b ag ⟨id,_,bc,rfl,ad⟩
 have ah: ∀k,k≠s.next→k≠id→aE ((s.next,o)::du id s.heap) k=(aE s.heap k).map (ew id):=fun k aj eA=>by simp[aE,Ne.symm aj,qo,eA]
 have uQ:aE ((s.next,o)::du id s.heap) s.next=some o:=by simp[aE]
 have zjY:id<s.next:=h.trans.new _ _ bc
 have key: ∀x c,br w ro s.heap β s.next x c→br w' ro ((s.next,o)::du id s.heap) (gV β s.next val) (s.next+1) (dX id x) c:=by
  intro x c hx
  induction hx with
  |av x c hx=>exact .av x c (hx.keep cb fun _ h=>h)
  |agg cs c ai _ aX=>
   refine .agg _ c (by rw[h3];exact ai) fun j x af=>?_
   obtain⟨y,ax,rfl⟩:=hP id af;exact aX j y ax
  |tuple cs c ai _ aX=>
   refine .tuple _ c (by rw[h3];exact ai) fun j x af=>?_
   obtain⟨y,ax,rfl⟩:=hP id af;exact aX j y ax
  |ptr k off c aq ak=>
   simp only[dX]
   split
   ·exact .top _
   ·rename_i aj
    refine .ptr k off c (by omega) fun t cs bm=>?_
    rw[cZ _ _ (show k≠s.next by omega)]
    rw[ah k (by omega) aj]at bm
    cases ai:aE s.heap k with
    |none=>simp[ai]at bm
    |some p=>
     cases p with
     |box bC cs'=>exact ak bC cs' ai
     |row=>simp[ai,ew]at bm
     |bL=>simp[ai,ew]at bm
  |dz k off c aq ak=>
   simp only[dX]
   split
   ·exact .top _
   ·rename_i aj
    refine .dz k off c (by omega) fun t cs bm=>?_
    rw[cZ _ _ (show k≠s.next by omega)]
    rw[ah k (by omega) aj]at bm
    cases ai:aE s.heap k with
    |none=>simp[ai]at bm
    |some p=>
     cases p with
     |box bC cs'=>exact ak bC cs' ai
     |row=>simp[ai,ew]at bm
     |bL=>simp[ai,ew]at bm
  |cV k i off c aq ak=>
   simp only[dX]
   split
   ·exact .top _
   ·rename_i aj
    refine .cV k i off c (by omega) fun z t n es bm=>?_
    rw[cZ _ _ (show k≠s.next by omega)]
    rw[ah k (by omega) aj]at bm
    cases ai:aE s.heap k with
    |none=>simp[ai]at bm
    |some p=>
     cases p with
     |box bC cs'=>simp[ai,ew]at bm
     |bL=>simp[ai,ew]at bm
     |row iv bC cI dP=>
      simp only[ai,Option.map_some,ew,Option.some.injEq,ej.row.injEq]at bm;obtain⟨rfl,rfl,rfl,rfl⟩:=bm;exact ak _ _ _ _ ai
  |aN k c aq ak=>
   simp only[dX]
   split
   ·exact .top _
   ·rename_i aj
    refine .aN k c (by omega) fun z t n es bm=>?_
    rw[cZ _ _ (show k≠s.next by omega)]
    rw[ah k (by omega) aj]at bm
    cases ai:aE s.heap k with
    |none=>simp[ai]at bm
    |some p=>
     cases p with
     |box bC cs'=>simp[ai,ew]at bm
     |bL=>simp[ai,ew]at bm
     |row iv bC cI dP=>exact ak _ _ _ _ ai
  |fn f p q c d aa ae _ _ hk hl=>
   refine .fn f _ _ c d (by rw[h3];exact aa) (by rw[h3];exact ae) (fun j x af=>?_) (fun j x af=>?_)
   ·obtain⟨y,ax,rfl⟩:=hP id af
    exact hk j y ax
   ·obtain⟨y,ax,rfl⟩:=hP id af
    exact hl j y ax
  |ref k c aq ak=>
   simp only[dX]
   split
   ·exact .top _
   ·rename_i aj
    refine .ref k c (by omega) fun bO bm=>?_
    rw[cZ _ _ (show k≠s.next by omega)]
    rw[ah k (by omega) aj]at bm
    cases ai:aE s.heap k with
    |none=>simp[ai]at bm
    |some p=>
     cases p with
     |box=>simp[ai,ew]at bm
     |row=>simp[ai,ew]at bm
     |bL lH=>exact ak lH ai
  |top c=>exact .top c
 have dK: ∀k p,k≠s.next→aE ((s.next,o)::du id s.heap) k=some p→k≠id∧∃q,aE s.heap k=some q∧p=ew id q:=by
  intro k p aj bm
  have bw:k≠id:=fun h=>by
   subst h;simp[aE,Ne.symm aj,qo]at bm
  refine⟨bw,?_⟩
  rw[ah k aj bw]at bm
  cases ai:aE s.heap k with
  |none=>simp[ai]at bm
  |some q=>simp[ai]at bm;exact⟨q,rfl,bm.symm⟩
 refine⟨h.defers,by simpa[h3]using h.size,fun i x hx=>?_,⟨fun k p aj=>?_,fun k bj p fW b aj eA ak gI bf et=>?_,fun b ag=>?_,fun b ag=>Nat.lt_of_lt_of_le (h.heap.lt b ag) bM⟩,
  h.ib.keep cb fun _ h=>h,?_,h.base⟩
 ·obtain⟨y,ax,rfl⟩:=hP id hx
  exact key _ _ (h.slot i y ax)
 ·by_cases bw:k=s.next
  ·subst k
   rw[uQ]at aj;simp only[Option.some.injEq]at aj;subst aj;exact dg
  ·obtain⟨hT,q,aH,rfl⟩:=dK k p bw aj
   have gJ:=h.heap.c5 k q aH
   have b3:q.live=true→∀b,b2 (β k)=some b→w'.heap[b]? =w.heap[b]? :=fun aq b bf=>
    hw b (gJ.hJ aq bf) fun jM=>hT (h.heap.inj k id q _ b aH bc aq rfl bf jM)
   cases gJ with
   |box t cs b arr aa ae au aP=>
    refine .box t _ b arr (by rw[cZ _ _ bw];exact aa) ((b3 rfl b (by rw[aa];rfl)).trans ae) (by rw[h3];exact au) fun j x af=>?_
    obtain⟨y,ax,rfl⟩:=hP id af;exact key _ _ (aP j y ax)
   |row t n es xs aa ae au=>exact .row t n es xs (by rw[cZ _ _ bw];exact aa.keep (fun b ad=>b3 rfl b ad) bM) ae fun j x af=>(au j x af).keep cb fun _ h=>h
   |ga t n es aa=>exact .ga t n es (by rw[cZ _ _ bw];exact aa.keep cb fun _ h=>h)
   |bL bO b o aa ae au=>exact .bL bO b o (by rw[cZ _ _ bw];exact aa) ((b3 rfl b aa).trans ae) (by rw[cZ _ _ bw];exact bO.mono _ _ _ _ (fun x c h=>h.keep cb fun _ h=>h) au)
 ·by_cases bw:k=s.next
  ·by_cases gK:bj=s.next
   ·rw[bw,gK]
   ·subst k
    rw[dR]at bf;rw[cZ _ _ gK]at et;obtain⟨hT,q,aH,rfl⟩:=dK bj fW gK eA;rw[jo]at gI
    have ae:=(h.heap.c5 bj q aH).hJ gI et
    rcases gH b bf with aa|aa
    ·exact absurd (h.heap.inj bj id q _ b aH bc gI rfl et aa) hT
    ·omega
  ·obtain⟨hT,q,aH,rfl⟩:=dK k p bw aj
   rw[jo]at ak;rw[cZ _ _ bw]at bf
   by_cases gK:bj=s.next
   ·subst bj
    rw[dR]at et
    have ae:=(h.heap.c5 k q aH).hJ ak bf
    rcases gH b et with aa|aa
    ·exact absurd (h.heap.inj k id q _ b aH bc ak rfl bf aa) hT
    ·omega
   ·obtain⟨zfO,q',uR,rfl⟩:=dK bj fW gK eA
    rw[jo]at gI;rw[cZ _ _ gK]at et;exact h.heap.inj k bj q q' b aH uR ak gI bf et
 ·rintro⟨k,p,aj,ak,bf⟩
  by_cases bw:k=s.next
  ·subst k
   rw[dR]at bf
   rcases gH b bf with aa|aa
   ·exact h.heap.fg b ag ⟨id,_,bc,rfl,aa⟩
   ·have:=h.heap.lt b ag;omega
  ·obtain⟨hT,q,aH,rfl⟩:=dK k p bw aj
   rw[jo]at ak;rw[cZ _ _ bw]at bf;exact h.heap.fg b ag ⟨k,q,aH,ak,bf⟩
 ·have t:=h.trans
  refine⟨oX.trans t.os,oY.trans t.tape,kE.trans t.output,Nat.le_trans t.size bM,fun b hL gd=>?_,t.jk,t.j1,?_,fun k aj p bm=>?_,fun k p bm=>?_,Nat.le_succ_of_le t.le⟩
  ·by_cases jM:b2 (β id)=some b
   ·rcases t.hj b ⟨id,_,bc,rfl,jM⟩with hc|hc
    ·exact absurd hc gd
    ·omega
   ·rw[hw b (Nat.lt_of_lt_of_le hL t.size) jM]
    exact t.frame b hL gd
  ·rintro b ⟨k,p,aj,ak,bf⟩
   by_cases bw:k=s.next
   ·subst k
    rw[dR]at bf
    rcases gH b bf with aa|aa
    ·exact t.hj b ⟨id,_,bc,rfl,aa⟩
    ·exact .inr (Nat.le_trans t.size aa)
   ·obtain⟨hT,q,aH,rfl⟩:=dK k p bw aj
    rw[jo]at ak;rw[cZ _ _ bw]at bf;exact t.hj b ⟨k,q,aH,ak,bf⟩
  ·have bw:k≠s.next:=by have:=h.base;omega
   obtain⟨hT,q,aH,rfl⟩:=dK k p bw bm;rw[cZ _ _ bw];exact t.dK k aj q aH
  ·by_cases bw:k=s.next
   ·subst k;exact Nat.lt_succ_self _
   ·obtain⟨hT,q,aH,rfl⟩:=dK k p bw bm
    exact Nat.lt_succ_of_lt (t.new k q aH)
theorem c2.Tp(h:c2 E G s a w β ro)(id aW:Nat)(ad:s.base≤aW)(bG:aW<s.next){t0:TypeId}{n0:Nat}{zV:List (List a1)}(bc:aE s.heap id=some (.row false t0 n0 zV))(o:ej)(val:Value)
 (oX:w'.os=w.os)(oY:w'.tape=w.tape)(kE:w'.output=w.output)(bM:w.heap.size≤w'.heap.size)(hw: ∀b,b<w.heap.size→b2 (β id)≠some b→w'.heap[b]? =w.heap[b]?)
 (gH: ∀b,b2 val=some b→b2 (β id)=some b∨w.heap.size≤b)(_hlive:o.live=true)
 (dg:k8 w' ro ((aW,o)::du aW (du id s.heap)) (gV β aW val) s.next aW o):
 c2 E G ⟨ef aW (ef id s.cR),(aW,o)::du aW (du id s.heap),s.next,s.base⟩ a w' (gV β aW val) ro:=by
 have cb: ∀b,ro b→w'.heap[b]? =w.heap[b]? :=fun b ag=>hw b (h.heap.lt b ag) fun ad=>h.heap.fg b ag ⟨id,_,bc,rfl,ad⟩
 have ah: ∀k,k≠aW→k≠id→aE ((aW,o)::du aW (du id s.heap)) k=((aE s.heap k).map (ew id)).map (ew aW):=fun k aj eA=>by simp[aE,Ne.symm aj,qo,aj,eA]
 have uQ:aE ((aW,o)::du aW (du id s.heap)) aW=some o:=by simp[aE]
 have key: ∀x c,br w ro s.heap β s.next x c→br w' ro ((aW,o)::du aW (du id s.heap)) (gV β aW val) s.next (dX aW (dX id x)) c:=by
  intro x c hx
  induction hx with
  |av x c hx=>exact .av x c (hx.keep cb fun _ h=>h)
  |agg cs c ai _ aX=>
   refine .agg _ c (by rw[h3,h3];exact ai) fun j x af=>?_
   obtain⟨z,aR,rfl⟩:=hP aW af;obtain⟨y,ax,rfl⟩:=hP id aR;exact aX j y ax
  |tuple cs c ai _ aX=>
   refine .tuple _ c (by rw[h3,h3];exact ai) fun j x af=>?_
   obtain⟨z,aR,rfl⟩:=hP aW af;obtain⟨y,ax,rfl⟩:=hP id aR;exact aX j y ax
  |ptr k off c aq ak=>
   by_cases aj:k=id
   ·simp only[dX,aj,if_true]
    exact .top _
   by_cases gg:k=aW
   ·simp only[dX,if_neg aj,if_neg (gg ▸ aj),gg,if_true]
    exact .top _
   ·simp only[dX,if_neg aj,if_neg gg]
    refine .ptr k off c aq fun t cs bm=>?_
    rw[cZ _ _ gg];rw[ah k gg aj]at bm
    cases ai:aE s.heap k with
    |none=>simp[ai]at bm
    |some p=>
     cases p with
     |box bC cs'=>exact ak bC cs' ai
     |row=>simp[ai,ew]at bm
     |bL=>simp[ai,ew]at bm
  |dz k off c aq ak=>
   by_cases aj:k=id
   ·simp only[dX,aj,if_true]
    exact .top _
   by_cases gg:k=aW
   ·simp only[dX,if_neg aj,if_neg (gg ▸ aj),gg,if_true]
    exact .top _
   ·simp only[dX,if_neg aj,if_neg gg]
    refine .dz k off c aq fun t cs bm=>?_
    rw[cZ _ _ gg];rw[ah k gg aj]at bm
    cases ai:aE s.heap k with
    |none=>simp[ai]at bm
    |some p=>
     cases p with
     |box bC cs'=>exact ak bC cs' ai
     |row=>simp[ai,ew]at bm
     |bL=>simp[ai,ew]at bm
  |cV k i off c aq ak=>
   by_cases aj:k=id
   ·simp only[dX,aj,if_true]
    exact .top _
   by_cases gg:k=aW
   ·simp only[dX,if_neg aj,if_neg (gg ▸ aj),gg,if_true]
    exact .top _
   ·simp only[dX,if_neg aj,if_neg gg]
    refine .cV k i off c aq fun z t n es bm=>?_
    rw[cZ _ _ gg];rw[ah k gg aj]at bm
    cases ai:aE s.heap k with
    |none=>simp[ai]at bm
    |some p=>
     cases p with
     |box bC cs'=>simp[ai,ew]at bm
     |bL=>simp[ai,ew]at bm
     |row iv bC cI dP=>
      simp only[ai,Option.map_some,ew,Option.some.injEq,ej.row.injEq]at bm;obtain⟨rfl,rfl,rfl,rfl⟩:=bm;exact ak _ _ _ _ ai
  |aN k c aq ak=>
   by_cases aj:k=id
   ·simp only[dX,aj,if_true]
    exact .top _
   by_cases gg:k=aW
   ·simp only[dX,if_neg aj,if_neg (gg ▸ aj),gg,if_true]
    exact .top _
   ·simp only[dX,if_neg aj,if_neg gg]
    refine .aN k c aq fun z t n es bm=>?_
    rw[cZ _ _ gg];rw[ah k gg aj]at bm
    cases ai:aE s.heap k with
    |none=>simp[ai]at bm
    |some p=>
     cases p with
     |box bC cs'=>simp[ai,ew]at bm
     |bL=>simp[ai,ew]at bm
     |row iv bC cI dP=>exact ak _ _ _ _ ai
  |fn f p q c d aa ae _ _ hk hl=>
   refine .fn f _ _ c d (by rw[h3,h3];exact aa) (by rw[h3,h3];exact ae) (fun j x af=>?_) (fun j x af=>?_)
   ·obtain⟨z,aR,rfl⟩:=hP aW af
    obtain⟨y,ax,rfl⟩:=hP id aR;exact hk j y ax
   ·obtain⟨z,aR,rfl⟩:=hP aW af
    obtain⟨y,ax,rfl⟩:=hP id aR;exact hl j y ax
  |ref k c aq ak=>
   by_cases aj:k=id
   ·simp only[dX,aj,if_true]
    exact .top _
   by_cases gg:k=aW
   ·simp only[dX,if_neg aj,if_neg (gg ▸ aj),gg,if_true]
    exact .top _
   ·simp only[dX,if_neg aj,if_neg gg]
    refine .ref k c aq fun bO bm=>?_
    rw[cZ _ _ gg];rw[ah k gg aj]at bm
    cases ai:aE s.heap k with
    |none=>simp[ai]at bm
    |some p=>
     cases p with
     |box=>simp[ai,ew]at bm
     |row=>simp[ai,ew]at bm
     |bL lH=>exact ak lH ai
  |top c=>exact .top c
 have dK: ∀k p,k≠aW→aE ((aW,o)::du aW (du id s.heap)) k=some p→k≠id∧∃q,aE s.heap k=some q∧p=ew aW (ew id q):=by
  intro k p aj bm
  have bw:k≠id:=fun h=>by
   subst h;simp[aE,Ne.symm aj,qo,aj]at bm
  refine⟨bw,?_⟩
  rw[ah k aj bw]at bm
  cases ai:aE s.heap k with
  |none=>simp[ai]at bm
  |some q=>simp[ai]at bm;exact⟨q,rfl,bm.symm⟩
 refine⟨h.defers,by simpa[h3]using h.size,fun i x hx=>?_,⟨fun k p aj=>?_,fun k bj p fW b aj eA ak gI bf et=>?_,fun b ag=>?_,fun b ag=>Nat.lt_of_lt_of_le (h.heap.lt b ag) bM⟩,
  h.ib.keep cb fun _ h=>h,?_,h.base⟩
 ·obtain⟨z,aR,rfl⟩:=hP aW hx
  obtain⟨y,ax,rfl⟩:=hP id aR;exact key _ _ (h.slot i y ax)
 ·by_cases bw:k=aW
  ·subst k
   rw[uQ]at aj;simp only[Option.some.injEq]at aj;subst aj;exact dg
  ·obtain⟨hT,q,aH,rfl⟩:=dK k p bw aj
   have gJ:=h.heap.c5 k q aH
   have b3:q.live=true→∀b,b2 (β k)=some b→w'.heap[b]? =w.heap[b]? :=fun aq b bf=>
    hw b (gJ.hJ aq bf) fun jM=>hT (h.heap.inj k id q _ b aH bc aq rfl bf jM)
   cases gJ with
   |box t cs b arr aa ae au aP=>
    refine .box t _ b arr (by rw[cZ _ _ bw];exact aa) ((b3 rfl b (by rw[aa];rfl)).trans ae) (by rw[h3,h3];exact au) fun j x af=>?_
    obtain⟨z,aR,rfl⟩:=hP aW af;obtain⟨y,ax,rfl⟩:=hP id aR;exact key _ _ (aP j y ax)
   |row t n es xs aa ae au=>exact .row t n es xs (by rw[cZ _ _ bw];exact aa.keep (fun b ad=>b3 rfl b ad) bM) ae fun j x af=>(au j x af).keep cb fun _ h=>h
   |ga t n es aa=>exact .ga t n es (by rw[cZ _ _ bw];exact aa.keep cb fun _ h=>h)
   |bL bO b o aa ae au=>exact .bL bO b o (by rw[cZ _ _ bw];exact aa) ((b3 rfl b aa).trans ae) (by rw[cZ _ _ bw];exact bO.mono _ _ _ _ (fun x c h=>h.keep cb fun _ h=>h) au)
 ·by_cases bw:k=aW
  ·by_cases gK:bj=aW
   ·rw[bw,gK]
   ·subst k
    rw[dR]at bf;rw[cZ _ _ gK]at et;obtain⟨hT,q,aH,rfl⟩:=dK bj fW gK eA;rw[jo,jo]at gI
    have ae:=(h.heap.c5 bj q aH).hJ gI et
    rcases gH b bf with aa|aa
    ·exact absurd (h.heap.inj bj id q _ b aH bc gI rfl et aa) hT
    ·omega
  ·obtain⟨hT,q,aH,rfl⟩:=dK k p bw aj
   rw[jo,jo]at ak;rw[cZ _ _ bw]at bf
   by_cases gK:bj=aW
   ·subst bj
    rw[dR]at et
    have ae:=(h.heap.c5 k q aH).hJ ak bf
    rcases gH b et with aa|aa
    ·exact absurd (h.heap.inj k id q _ b aH bc ak rfl bf aa) hT
    ·omega
   ·obtain⟨zfO,q',uR,rfl⟩:=dK bj fW gK eA
    rw[jo,jo]at gI;rw[cZ _ _ gK]at et;exact h.heap.inj k bj q q' b aH uR ak gI bf et
 ·rintro⟨k,p,aj,ak,bf⟩
  by_cases bw:k=aW
  ·subst k
   rw[dR]at bf
   rcases gH b bf with aa|aa
   ·exact h.heap.fg b ag ⟨id,_,bc,rfl,aa⟩
   ·have:=h.heap.lt b ag;omega
  ·obtain⟨hT,q,aH,rfl⟩:=dK k p bw aj
   rw[jo,jo]at ak;rw[cZ _ _ bw]at bf;exact h.heap.fg b ag ⟨k,q,aH,ak,bf⟩
 ·have t:=h.trans
  refine⟨oX.trans t.os,oY.trans t.tape,kE.trans t.output,Nat.le_trans t.size bM,fun b hL gd=>?_,t.jk,t.j1,?_,fun k aj p bm=>?_,fun k p bm=>?_,t.le⟩
  ·by_cases jM:b2 (β id)=some b
   ·rcases t.hj b ⟨id,_,bc,rfl,jM⟩with hc|hc
    ·exact absurd hc gd
    ·omega
   ·rw[hw b (Nat.lt_of_lt_of_le hL t.size) jM]
    exact t.frame b hL gd
  ·rintro b ⟨k,p,aj,ak,bf⟩
   by_cases bw:k=aW
   ·subst k
    rw[dR]at bf
    rcases gH b bf with aa|aa
    ·exact t.hj b ⟨id,_,bc,rfl,aa⟩
    ·exact .inr (Nat.le_trans t.size aa)
   ·obtain⟨hT,q,aH,rfl⟩:=dK k p bw aj
    rw[jo,jo]at ak;rw[cZ _ _ bw]at bf;exact t.hj b ⟨k,q,aH,ak,bf⟩
  ·have bw:k≠aW:=by have:=h.base;omega
   obtain⟨hT,q,aH,rfl⟩:=dK k p bw bm;rw[cZ _ _ bw];exact t.dK k aj q aH
  ·by_cases bw:k=aW
   ·subst k;exact bG
   ·obtain⟨hT,q,aH,rfl⟩:=dK k p bw bm
    exact t.new k q aH
end
section
variable {P:Program} {G:a7} {o:Oper} {s:aO}
theorem zfP(x y:Operand)(t:TypeId)(an:o.op= .call {callee:=.builtin .append,args:=#[x,y],argTypes:=#[t,t]}){e n bytes:Nat}(aG:qp P t=some (e,n,bytes))
 {id:Nat}(hx:aI G s x= .aN id){es:List (List a1)}(bc:aE s.heap id=some (.row false e n es))(ad:s.base≤s.next)
 {fs:List (List a1)}(ax:fw s.heap n (aI G s y)=some fs)(bM:es.length+fs.length≤maxLen∧(es.length+fs.length)*bytes≤140737488355328):
 dQ P G o s (aO.put ⟨ef id s.cR,(s.next,.row false e n (es++fs))::du id s.heap,s.next+1,s.base⟩ o.dst (.aN s.next)):=by
 intro E a w ⟨β,ro,ag⟩ K Q hK
 obtain⟨i,z,hu,hi,aR,iw,jr,e9,hn⟩:=qc aG
 obtain⟨b,cap,hc,mq,o6,f,h4,o7⟩:=w2 ag.heap (ag.eval y) ax
 have dg:=ag.heap.c5 id _ bc
 cases dg with
 |row _ _ _ xs cY b3 eV=>
  have lM:a.eval x=β id:=by
   have h:=ag.eval x
   rw[hx]at h;generalize a.eval x=c at h
   cases h with
   |aN _ _ _ ak=>exact ak _ _ _ _ bc
  obtain⟨nY,o8,rK⟩:=z1 mq o7
  obtain⟨bg,w',cq,kH,cT,bf⟩:=Dz (P:=P) t o.type e hu hi aR iw jr e9 hn cY (b:=b) (m:=fs.length) (cap:=cap) nY (fun ad=>by rw[o6 ad];rfl)
   (fun bb aZ j u af=>by
    have cL:=(List.getElem?_eq_some_iff.1 af).1
    rw[nY]at cL
    have aa:=h4 bb aZ j cL
    simp[cL]at af
    rw[aa,af]) o8 bM.1 bM.2
  unfold Oper.wp;simp only[execOp,an,resolve,invoke,builtin,Sem.run_bind,Sem.run_pure,Result.andThen_ok,List.map_toArray,List.map_cons,List.map_nil,lM,hc,cq]
  have jm: ∀k,k<w.heap.size→b2 (β id)≠some k→w'.heap[k]? =w.heap[k]? :=fun k aj b3=>cT.block k aj (fun e=>b3 e.symm)
  have cb: ∀k,ro k→w'.heap[k]? =w.heap[k]? :=fun k aj=>jm k (ag.heap.lt k aj) fun bf=>ag.heap.fg k aj ⟨id,_,bc,rfl,bf⟩
  refine hK _ _ ⟨gV β s.next bg,ro,c2.put (ag.LX (w':=w') id ad bc (.row false e n (es++fs)) bg cT.os cT.tape cT.output cT.size jm bf rfl ?_) o.dst _ _ ?_⟩
  ·refine .row e n _ _ (by rw[dR,List.length_append];exact kH) (fun ay j3=>?_) (fun j x af=>?_)
   ·rw[List.mem_append]at j3
    rcases j3 with h|h
    ·exact b3 _ h
    ·exact mq _ h
   ·exact(w3 b3 cY.1 eV rK j x af).keep cb fun _ h=>h
  ·exact .aN _ _ (Nat.lt_succ_self _) fun z bC cI dP _=>(dR _ _ _).symm
theorem zfQ(x y:Operand)(t u:TypeId)(an:o.op= .call {callee:=.builtin .append,args:=#[x,y],argTypes:=#[t,u]}){e:TypeId}(aG:xL P t u=some e)
 {id:Nat}(hx:aI G s x= .aN id){es:List (List a1)}(bc:aE s.heap id=some (.row false e 1 es))(ad:s.base≤s.next)
 {b:ByteArray}(ax:aI G s y= .av (.v (.string b)))(bM:es.length+b.size≤maxLen∧es.length+b.size≤140737488355328):
 dQ P G o s (aO.put ⟨ef id s.cR,(s.next,.row false e 1 (es++(eB b).map fun z=>[a1.v (.int .u8 z)]))::du id s.heap,s.next+1,s.base⟩ o.dst (.aN s.next)):=by
 intro E a w ⟨β,ro,ag⟩ K Q hK
 obtain⟨i,hu,ai,hi,aR,iw,jr⟩:=LW aG
 have dg:=ag.heap.c5 id _ bc
 cases dg with
 |row _ _ _ xs cY b3 eV=>
  have lM:a.eval x=β id:=by
   have h:=ag.eval x
   rw[hx]at h;generalize a.eval x=c at h
   cases h with
   |aN _ _ _ ak=>exact ak _ _ _ _ bc
  obtain⟨bg,w',cq,kH,cT,bf⟩:=LS (P:=P) t u o.type e hu ai hi aR iw jr cY b bM.1 bM.2;obtain⟨c0,df⟩:=LV (w:=w) (ro:=ro) b;unfold Oper.wp;simp only[execOp,an,resolve,invoke,builtin,Sem.run_bind,Sem.run_pure,Result.andThen_ok,List.map_toArray,List.map_cons,List.map_nil,lM,ag.ee ax,cq]
  have jm: ∀k,k<w.heap.size→b2 (β id)≠some k→w'.heap[k]? =w.heap[k]? :=fun k aj b3=>cT.block k aj (fun e=>b3 e.symm)
  have cb: ∀k,ro k→w'.heap[k]? =w.heap[k]? :=fun k aj=>jm k (ag.heap.lt k aj) fun bf=>ag.heap.fg k aj ⟨id,_,bc,rfl,bf⟩
  refine hK _ _ ⟨gV β s.next bg,ro,c2.put (ag.LX (w':=w') id ad bc (.row false e 1 (es++(eB b).map fun z=>[a1.v (.int .u8 z)])) bg cT.os cT.tape cT.output cT.size jm bf rfl ?_) o.dst _ _ ?_⟩
  ·refine .row e 1 _ _ (by rw[dR,List.length_append,c0];exact kH) (fun ay j3=>?_) (fun j x af=>?_)
   ·rw[List.mem_append]at j3
    rcases j3 with h|h
    ·exact b3 _ h
    ·obtain⟨z,_,rfl⟩:=List.mem_map.1 h
     rfl
   ·exact(w3 b3 cY.1 eV df j x af).keep cb fun _ h=>h
  ·exact .aN _ _ (Nat.lt_succ_self _) fun z bC cI dP _=>(dR _ _ _).symm
end
section
theorem cm.zfR{s bo:aO}(id off m k gN n:Nat){t:TypeId}{cs:List aD}{es:List (List a1)}(bc:aE s.heap id=some (.box t cs))(hm:aE s.heap m=some (.row false gN n es))(hc:cs[off]? =some (.aN m))(ad:s.base≤k)(bG:k<s.next)(rj:id≠k)
 (h:(⟨ef k (ef m s.cR),eM ((k,.row false gN n es)::du k (du m s.heap)) id (.box t ((ef k (ef m cs)).set off (.aN k))),s.next,s.base⟩:aO)=bo):cm s bo:=by
 subst h
 intro E G a w ⟨β,ro,ag⟩
 have zfS:id≠m:=fun h=>by rw[h,hm]at bc;cases bc
 have LY:=ag.heap.c5 m _ hm
 have fc:=ag.Tp (w':=w) m k ad bG hm (.row false gN n es) (β m) rfl rfl rfl (Nat.le_refl _) (fun _ _ _=>rfl) (fun _ ad=>.inl ad) rfl (by
  cases LY with
  |row _ _ _ xs aa ae au=>exact .row gN n es xs (by rw[dR];exact aa) ae au)
 have vd:aE ((k,.row false gN n es)::du k (du m s.heap)) id=some (.box t (ef k (ef m cs))):=by
  simp only[aE,if_neg (Ne.symm rj),qo,if_neg rj,if_neg zfS,bc,Option.map_some,ew]
 have dg:=fc.heap.c5 id _ vd
 have zfT:=ag.heap.c5 id _ bc
 cases zfT with
 |box _ _ ob LZ g1 g2 g3 g4=>
  cases dg with
  |box _ _ b arr aa ae au aP=>
   have sX:=aa
   rw[cZ _ _ rj,g1]at sX
   have zfU:ob=b:=by simpa using sX
   subst zfU
   have r0:LZ=arr:=by
    have:=g2.symm.trans ae
    simpa using this
   subst r0;refine⟨_,ro,fc.write id _ _ vd rfl rfl (.inl ⟨_,_,_,rfl,rfl⟩) rfl rfl rfl (Nat.le_refl _) (fun _ _ _=>rfl) (.box t _ ob LZ aa ae (by rw[au,List.length_set]) fun j x af=>?_)⟩
   rw[List.getElem?_set]at af
   split at af
   ·rename_i aB
    subst aB
    split at af
    ·simp only[Option.some.injEq]at af
     subst af
     have aw:=g4 off _ hc
     generalize LZ.getD off undef=bR at aw⊢
     cases aw with
     |aN _ _ _ ak=>
      refine .aN _ _ bG fun z bC cI dP _=>?_
      rw[ak _ _ _ _ hm];exact(dR _ _ _).symm
    ·cases af
   ·exact J1 vd (aP j x af) fun _ _=>rfl
end
end Go.aK
