/- Conditions: none. -/
import Derived.Test.YtddeffoppnlafaaGreatJTDj
import Derived.Test.YtddeffoppnlafaaGreatJSMz
import Derived.Test.YtddeffoppnlafaaGreatJTDa
import Derived.Lib.AppendStr
open Array renaming ext'->zXi,getD_eq_getD_getElem?->zYf,getElem?_append_left->zVy,getElem?_append_right->zVx,length_toList->zYg,range->zXz,size_append->zXw,toList_append->zVw
open Bool renaming and_eq_true->zZr
open List renaming append_assoc->zVt,eq_nil_of_length_eq_zero->zY6,flatten_cons->zYs,getD->zZ8,getElem?_append_left->zYr,getElem?_append_right->zYq,getElem?_eq_some_iff->zZ1,getElem?_map->zYo,getElem?_set->zX3,length_append->zVu,length_map->zXe,length_set->zVv,map_cons->zXq,map_map->zWq,map_nil->zXp,map_toArray->zXr,mem_append->zVs,mem_map->zXs,mem_replicate->zY9,replicate->zZz,size_toArray->zZc,take_left->zWd
open Nat renaming beq->zZu,ble->zZt,eq_of_beq_eq_true->zWi,le_of_ble_eq_true->zZq,le_refl->zZv,le_trans->zZx,lt_of_lt_of_le->zZw,lt_or_ge->zYm,lt_succ_self->zYi,ne_of_gt->zXu
open Option renaming map_some->zXh
open Option.some renaming injEq->zYt
namespace Go.aH
open Go
def JY:ey->ey->Prop
 | .box _ _,.box _ _=>True| .row _ _ n _,.row _ _ m _=>n=m| .bW _,.bW _=>True|_,_=>False
section
variable {w w':World} {ro ro':Nat->Prop} {σ cZ:bK} {β cS:Nat->Value} {N oq:Nat}
theorem bN.move{x:aC}{c:Value}(h:bN w ro σ β N x c)(hw: ∀b,ro b->w'.heap[b]? =w.heap[b]?)(cA: ∀b,ro b->ro' b)(m5:N<=oq)
 (an: ∀id o,id<N->aF cZ id=some o->cS id=β id/\∃ct,aF σ id=some ct/\JY ct o):bN w' ro' cZ cS oq x c:=by
 induction h with
 |ad x c hx=>exact .ad x c (hx.keep hw cA)|agg cs c ao _ bb=>exact .agg cs c ao bb|tuple cs c ao _ bb=>exact .tuple cs c ao bb|ptr id off c au ar=>
  refine .ptr id off c (by omega) λt cs ai=>?_
  obtain⟨af,ct,ee,ao⟩:=an id _ au ai
  cases ct with
  |box br cs'=>
   obtain⟨b,aa,ae⟩:=ar br cs' ee;exact⟨b,af.trans aa,ae⟩
  |_=>exact ao.elim
 |eb id off c au ar=>
  refine .eb id off c (by omega) λt cs ai=>?_
  obtain⟨af,ct,ee,ao⟩:=an id _ au ai
  cases ct with
  |box br cs'=>
   obtain⟨b,aa,ae⟩:=ar br cs' ee;exact⟨b,af.trans aa,ae⟩
  |_=>exact ao.elim
 |du id i off c au ar=>
  refine .du id i off c (by omega) λz t n es ai=>?_
  obtain⟨af,ct,ee,ao⟩:=an id _ au ai
  cases ct with
  |row h5 br b0 e2=>
   have ao:b0=n:=ao;subst ao;obtain⟨b,l,h6,aa,ae⟩:=ar h5 br b0 e2 ee;exact⟨b,l,h6,af.trans aa,ae⟩
  |_=>exact ao.elim
 |aq id c au ar=>
  refine .aq id c (by omega) λz t n es ai=>?_
  obtain⟨af,ct,ee,ao⟩:=an id _ au ai
  cases ct with
  |row h5 br b0 e2=>rw[af];exact ar h5 br b0 e2 ee|_=>exact ao.elim
 |fn f p q c d aa ae _ _ h7 h8=>exact .fn f p q c d aa ae h7 h8|ref id c au ar=>
  refine .ref id c (by omega) λbU ai=>?_
  obtain⟨af,ct,ee,ao⟩:=an id _ au ai
  cases ct with
  |bW lv=>rw[af];exact ar lv ee|_=>exact ao.elim
 |top c=>exact .top c
end
section
variable {P:Program} {G:aV} {s:aS} {E:Entry} {a:Act} {w w':World} {β:Nat->Value} {ro:Nat->Prop}
variable {o:Oper}
theorem LZ{x:Operand}{xs:Array Operand}{f:Fn}{p q:List aC}{c d:Array Value}(h:dy E G s a w β ro)(aa:c.size=p.length)(ae:d.size=q.length)(lx: ∀(j:Nat) (x:aC),p[j]? =some x->bN w ro s.heap β s.next x (c.getD j undef))(uL: ∀(j:Nat) (x:aC),q[j]? =some x->bN w ro s.heap β s.next x (d.getD j undef)):
 ∀(i:Nat) (y:aC),(p++xs.toList.map (aR G s)++q)[i]? =some y->bN w ro s.heap β s.next y ((c++xs.map a.eval++d).getD i undef):=λi y aA=>by
 rw[zYf]
 rcases zYm i (p.length+xs.size)with hi|hi
 ·rw[zYr (by simpa using hi)]at aA
  rw[zVy (by simpa[aa]using hi)]
  rcases zYm i p.length with tv|tv
  ·rw[zYr tv]at aA
   rw[zVy (by omega),<-zYf]
   exact lx i y aA
  ·rw[zYq tv,zYo]at aA
   rw[zVx (by omega),aa]
   cases aW:xs.toList[i-p.length]? with
   |none=>simp[aW]at aA|some z=>
    simp only[aW,zXh,zYt]at aA;subst aA;have m7:xs[i-p.length]? =some z:=by simpa using aW
    simp only[Array.getElem?_map,m7,zXh,Option.getD_some];exact h.eval z
 ·rw[zYq (by simpa using hi)]at aA
  rw[zVx (by simpa[aa]using hi),<-zYf]
  have:=uL _ y aA;simpa[aa]using this
def rO(P:Program)(G:aV)(o:Oper)(s:aS)(f:FuncId)(p q:List aC)(xs:Array Operand):Prop:=
 ∀E a w β ro,dy E G s a w β ro->∃c d:Array Value,c.size=p.length/\d.size=q.length/\(∀(j:Nat) (x:aC),p[j]? =some x->bN w ro s.heap β s.next x (c.getD j undef))/\(∀(j:Nat) (x:aC),q[j]? =some x->bN w ro s.heap β s.next x (d.getD j undef))/\
  ∀bA,(execOp a.eval o).run P bA=(callFunc f (c++xs.map a.eval++d)).run P bA
theorem rO.value{x:Operand}{xs:Array Operand}{ts:Array TypeId}(av:o.op= .call {callee:=.value x,args:=xs,argTypes:=ts}){f:FuncId}{p q:List aC}(hx:aR G s x= .fn (.func f) p q):rO P G o s f p q xs:=by
 intro E a w β ro h;have sj:=h.eval x;rw[hx]at sj;generalize he:a.eval x=Hc at sj
 cases sj with
 |fn _ _ _ c d aa ae lx uL=>
  refine⟨c,d,aa,ae,lx,uL,λbA=>?_⟩;simp only[execOp,av,resolve,he,Deferred.ofValue,Sem.run_bind,Sem.run_pure,Result.andThen_ok,invoke]
def methodOf(P:Program)(t:TypeId)(name:String):Option Nat:=
 match P.info? t,P.underlying t with
 |some i,some d=>match i.methods.find? (·.name==name),(match d with
  | .pointer _=>false
  |_=>true)with
  |some m,true=>match m.path.isEmpty,m.func with
   |true,some (f,false)=>some f|_,_=>none
  |_,_=>none
 |_,_=>none
theorem zjj{t:TypeId}{name:String}{f:Nat}(h:methodOf P t name=some f)(v:Value)(n:Nat)(w:World):(method (n+1) t v name).run P w= .ok (f,v) w:=by
 unfold methodOf at h
 split at h
 ·rename_i i d hi hd
  split at h
  ·rename_i m hm ar
   split at h
   ·rename_i g vk qJ
    cases h
    have vo:m.path.toList=[]:=by
     have:=Array.isEmpty_iff.1 vk;rw[this]
    unfold method;simp only[Sem.run_bind,typeInfo,hi,Sem.run_pure,Result.andThen_ok,hm,vo,follow,qJ]
    cases d<;>first|(cases ar;done)|simp[receiverAt,run_underlying hd,Place.get,Result.andThen,typeInfo,hi,hm,vo,follow,qJ]
   ·cases h
  ·cases h
 ·cases h
theorem rO.invoke{y:aC}{x:Operand}{xs:Array Operand}{ts:Array TypeId}{name:String}(av:o.op= .call {callee:=.invoke x name,args:=xs,argTypes:=ts}){t:TypeId}{f:Nat}(hm:methodOf P t name=some f)
 (az: ∀E a w β ro,dy E G s a w β ro->∃v,a.eval x= .iface t v/\bN w ro s.heap β s.next y v):rO P G o s f [y] [] xs:=by
 intro E a w β ro h;obtain⟨v,he,ah⟩:=az E a w β ro h;refine⟨#[v],#[],rfl,rfl,λj z aj=>?_,λj z aj=>by simp at aj,λbA=>?_⟩
 ·cases j with
  |zero=>simp at aj;subst aj;exact ah|succ j=>simp at aj
 ·have hex:(#[Value.iface t v]++xs.map a.eval).extract 1 (#[Value.iface t v]++xs.map a.eval).size=xs.map a.eval:=by
   apply zXi;simp only[Array.toList_extract,zVw,zXw];simp[List.extract];exact List.take_of_length_le (by simp)
  have zjk:=λn=>zjj (P:=P) hm v n bA;have hd:P.types.size+Made.depth=(P.types.size+99)+1:=rfl;simp only[execOp,av,resolve,he,Sem.run_bind,Sem.run_pure,Result.andThen_ok,Go.invoke];have aP:(#[Value.iface t v]++xs.map a.eval)[0]? =some (.iface t v):=by rw[zVy (by show 0<1;decide)];rfl
  rw[hex,aP];have ar: ∀k:Program->Sem Next,((program >>= k):Sem Next).run P bA=(k P).run P bA:=λk=>rfl;show((program >>= λE2=>method (E2.types.size+Made.depth) t v name >>= λx=>callFunc x.1 (#[x.2]++xs.map a.eval)):Sem Next).run P bA=_;rw[ar,Sem.run_bind,hd,zjk,Result.andThen_ok,Array.append_empty]
theorem Yd{xs:Array Operand}{f:FuncId}{p q:List aC}(pT:rO P G o s f p q xs)(iw:o6 P f=true)
 {R:aC->bK->Prop}(hc:fa P G f (p++xs.toList.map (aR G s)++q) s.heap s.next R){s':aS->Prop}
 (iZ: ∀r cu,R r cu->∃m,s.next<=m/\jh m r=true/\l1 m cu=true/\(∀id o,id<s.next->aF cu id=some o->∃ct,aF s.heap id=some ct/\JY ct o)/\s' (aS.put ⟨s.dn,cu,m,s.base⟩ o.dst r)):
 ∀(E:Entry) (a:Act) (w:World),Rel E G s a w->∀(K:Act->World->Prop) (Q:Exit->Act->World->Prop),(∀t,s' t->∀bo w',Rel E G t bo w'->K bo w')->o.wp P a w K Q:=by
 intro E a w ⟨β,ro,h⟩ K Q hK;obtain⟨c,d,aa,ae,lx,uL,cE⟩:=pT E a w β ro h
 ·unfold Oper.wp
  rw[cE w,Dg iw];have hP:=hc w β ro (c++xs.map a.eval++d) (by simp[aa,ae,Nat.add_assoc]) (LZ (x:=.const undef) (f:=.func f) h aa ae lx uL) h.heap h.ix h.trans.new
  refine Calls.mono hP λe w' aB=>?_;obtain⟨v,r,cu,cS,ro',b0,rfl,ah,dO,gk,cP⟩:=aB;obtain⟨m,hm,zjl,Ye,EG,gr⟩:=iZ r cu ah;have hw: ∀b,ro b->w'.heap[b]? =w.heap[b]? :=λb af=>cP.frame b (h.heap.lt b af) (h.heap.fy b af);have cA: ∀b,ro b->ro' b:=cP.hp;have an: ∀id o,id<s.next->aF cu id=some o->cS id=β id/\∃ct,aF s.heap id=some ct/\JY ct o:=λid o bR ai=>⟨(cP.er id bR o ai).2,EG id o bR ai⟩
  have gS:dy E G ⟨s.dn,cu,m,s.base⟩ a w' cS ro':=by
   refine⟨h.defers,h.size,λi x hx=>(h.slot i x hx).move hw cA hm an,⟨λid o ai=>?_,gk.inj,gk.fy,gk.lt⟩,h.ix.keep hw cA,?_,h.base⟩
   ·obtain⟨_,yl⟩:=rY Ye ai
    cases gk.dB id o ai with
    |box t cs b arr aE bc cJ ek=>exact .box t cs b arr aE bc cJ λj x aj=>(ek j x aj).lower (tu (yl t cs rfl) aj)
    |row t n es xs aE bc cJ=>exact .row t n es xs aE bc cJ|gH t n es aE=>exact .gH t n es aE|bW bU b o aE bc cJ=>exact .bW bU b o aE bc cJ
   ·have t:=h.trans
    refine⟨cP.os.trans t.os,cP.tape.trans t.tape,cP.output.trans t.output,zZx t.size cP.size,λb af hn=>?_,λb af=>?_,λb af=>cA b (t.hp b af),λb af=>?_,λid bR o ai=>?_,λid o ai=>(rY Ye ai).1,zZx t.le hm⟩
    ·rw[<-t.frame b af hn]
     refine cP.frame b (zZw af t.size) λiS=>?_
     rcases t.gG b iS with q|q
     ·exact hn q
     ·omega
    ·rcases cP.h9 b af with q|q|q
     ·exact t.h9 b q
     ·rcases t.gG b q with q|q
      ·exact .inr (.inl q)
      ·exact .inr (.inr q)
     ·exact .inr (.inr (zZx t.size q))
    ·rcases cP.gG b af with q|q
     ·exact t.gG b q
     ·exact .inr (zZx t.size q)
    ·have yb:id<s.next:=zZw bR t.le
     obtain⟨aa,ae⟩:=an id o yb ai;obtain⟨ct,aw,_⟩:=ae;obtain⟨dp,dP⟩:=t.er id bR ct aw;exact⟨dp,aa.trans dP⟩
  exact hK _ gr _ _ ⟨cS,ro',gS.put o.dst r v (dO.lower zjl)⟩
end
end Go.aH
namespace Go.aH
open Go
inductive zE:ey->ey->Prop where
 |same (o:ey):zE o o
 |box (t:TypeId) {cs ds:List aC}:h1 cs ds->zE (.box t cs) (.box t ds)
 |row (t:TypeId) (n:Nat) {es fs:List (List a7)}:es.length=fs.length->(∀e∈fs,e.length=n)->im es.flatten fs.flatten->zE (.row false t n es) (.row false t n fs)
def ug(s t:aS):Prop:=∀E (G:aV) a w β ro,dy E G s a w β ro->dy E G t a w β ro
theorem ug.le{s t:aS}(h:ug s t):b5 s t:=λE G a w ⟨β,ro,ah⟩=>⟨β,ro,h E G a w β ro ah⟩
theorem ug.of{s t:aS}(af:t.base=s.base)(hn:s.next<=t.next)(au:t.dn.length=s.dn.length)(ao: ∀(i:Nat) (v:aC),t.dn[i]? =some v->∃u,s.dn[i]? =some u/\Sub u v)
 (a8: ∀(id:Nat) (o:ey),aF t.heap id=some o->∃ct,aF s.heap id=some ct/\zE ct o):ug s t:=by
 intro E G a w β ro h
 have ot: ∀id ty cs,aF t.heap id=some (.box ty cs)->β id=β id/\∃ty cs,aF s.heap id=some (.box ty cs):=λid ty cs ai=>by
  obtain⟨ct,aa,ae⟩:=a8 id _ ai
  cases ae with
  |same=>exact⟨rfl,ty,cs,aa⟩|box _ h=>exact⟨rfl,_,_,aa⟩
 have ea: ∀id z ty n es,aF t.heap id=some (.row z ty n es)->β id=β id/\∃z ty es,aF s.heap id=some (.row z ty n es):=λid z ty n es ai=>by
  obtain⟨ct,aa,ae⟩:=a8 id _ ai
  cases ae with
  |same=>exact⟨rfl,z,ty,es,aa⟩|row _ _=>exact⟨rfl,_,_,_,aa⟩
 have o5: ∀id bU,aF t.heap id=some (.bW bU)->β id=β id/\∃bU,aF s.heap id=some (.bW bU):=λid bU ai=>by
  obtain⟨ct,aa,ae⟩:=a8 id _ ai
  cases ae with
  |same=>exact⟨rfl,bU,aa⟩
 have hex: ∀id o,aF t.heap id=some o->∃ct,aF s.heap id=some ct/\ct.live=o.live:=λid o ai=>by
  obtain⟨ct,aa,ae⟩:=a8 id o ai
  cases ae<;>exact⟨_,aa,rfl⟩
 have own: ∀b,Own t.heap β b->Own s.heap β b:=λb ⟨id,o,ai,Og,bp⟩=>by
  obtain⟨ct,aa,ae⟩:=hex id o ai;exact⟨id,ct,aa,by rw[ae];exact Og,bp⟩
 refine⟨h.defers,by rw[au];exact h.size,λi x hx=>?_,⟨λid o ai=>?_,λid jn o ct b aa ae aw aN bx cB=>?_,λb af av=>h.heap.fy b af (own b av),h.heap.lt⟩,h.ix,?_,by rw[af];exact h.base⟩
 ·obtain⟨u,hu,gb⟩:=ao i x hx
  exact(gb _ _ _ _ _ _ (h.slot i u hu)).keep (λ_ _=>rfl) (λ_ h=>h) hn ot ea o5
 ·obtain⟨ct,aa,zjm⟩:=a8 id o ai
  have eg:=(h.heap.dB id ct aa).keep (λ_ _=>rfl) (λ_ h=>h) hn (zZv _) rfl (λ_ _ _=>rfl) ot ea o5
  cases zjm with
  |same=>exact eg|box ty gb=>
   cases eg with
   |box _ _ b arr aE bc cJ ek=>
    refine .box ty _ b arr aE bc (by rw[cJ,gb.at.1]) λj x aj=>?_
    obtain⟨u,hu,Pn⟩:=gb.at.2 j x aj;exact Pn _ _ _ _ _ _ (ek j u hu)
  |row ty n au hn gb=>
   cases eg with
   |row _ _ _ xs aE bc cJ=>
    refine .row ty n _ xs (by rw[<-au];exact aE) hn λj x aj=>?_
    obtain⟨u,hu,Pn⟩:=gb.at.2 j x aj;exact Pn _ _ _ (cJ j u hu)
 ·obtain⟨p,g1,g2⟩:=hex id o aa
  obtain⟨ha,g3,g4⟩:=hex jn ct ae;exact h.heap.inj id jn p ha b g1 g3 (by rw[g2];exact aw) (by rw[g4];exact aN) bx cB
 ·have sF:=h.trans
  refine⟨sF.os,sF.tape,sF.output,sF.size,sF.frame,sF.h9,sF.hp,λb af=>sF.gG b (own b af),λid hi o ai=>?_,λid o ai=>?_,zZx sF.le hn⟩
  ·obtain⟨p,g1,_⟩:=hex id o ai
   exact sF.er id hi p g1
  ·obtain⟨p,g1,_⟩:=hex id o ai
   exact zZw (sF.new id p g1) hn
theorem b5.of{s t:aS}(af:t.base=s.base)(hn:s.next<=t.next)(au:t.dn.length=s.dn.length)(ao: ∀(i:Nat) (v:aC),t.dn[i]? =some v->∃u,s.dn[i]? =some u/\Sub u v)
 (a8: ∀(id:Nat) (o:ey),aF t.heap id=some o->∃ct,aF s.heap id=some ct/\zE ct o):b5 s t:=(ug.of af hn au ao a8).le
theorem ug.put{s t:aS}{i:Nat}{x:a7}(h:ug s t)(ao:s.dn[i]? =some (.ad x)):ug s (t.put (some i) (.ad x)):=by
 intro E G a w β ro ah;have aJ:=h E G a w β ro ah;refine⟨aJ.defers,by simp only[aS.put,zVv];exact aJ.size,λj y aA=>?_,aJ.heap,aJ.ix,aJ.trans,aJ.base⟩
 simp only[aS.put,zX3]at aA
 split at aA
 ·rename_i e
  subst e
  split at aA
  ·cases aA
   cases ah.slot i (.ad x) ao with
   |ad _ _ az=>exact .ad _ _ az
  ·cases aA
 ·exact aJ.slot j y aA
section
variable {P:Program} {G:aV}
theorem eL.B9{o:Oper}{s t br:aS}(h:eL P G o s t)(au:b5 t br):eL P G o s br:=
 λE a w ah K Q hK=>h E a w ah K Q λbo w' dW=>hK bo w' (au E G bo w' dW)
theorem Yf{s:aS}{dst:Option Nat}{v bC:aC}(h:Sub v bC):b5 (s.put dst v) (s.put dst bC):=by
 cases dst with
 |none=>exact b5.refl _|some d=>
  refine b5.of rfl (zZv _) (by simp[aS.put]) (λi u hu=>?_) (λid o av=>⟨o,av,.same o⟩)
  simp only[aS.put,zX3]at hu⊢
  split at hu
  ·rename_i e
   rw[if_pos e]
   split at hu
   ·rename_i bR
    cases hu;rw[if_pos bR];exact⟨_,rfl,h⟩
   ·cases hu
  ·rename_i e
   rw[if_neg e];exact⟨u,hu,Sub.refl _⟩
theorem Yg{s:aS}{h':bK}{dst:Option Nat}{v:aC}(a8: ∀id o,aF h' id=some o->∃ct,aF s.heap id=some ct/\zE ct o):b5 (s.put dst v) (aS.put {s with heap:=h'} dst v):=by
 cases dst with
 |none=>exact b5.of rfl (zZv _) rfl (λi u hu=>⟨u,hu,Sub.refl _⟩) a8
 |some d=>exact b5.of rfl (zZv _) rfl (λi u hu=>⟨u,hu,Sub.refl _⟩) a8
theorem Po: ∀{l m:List a7},h1 (l.map .ad) (m.map .ad)->im l m
 |[],[],_=>.nil|[],_::_,h=>by cases h
 |_::_,[],h=>by cases h
 |x::l,y::m,h=>by
  cases h with
  |cons aa ae=>
   refine .cons (λw ro c hc=>?_) (Po ae);have:=aa w ro [] (λ_=>undef) 0 c (.ad x c hc)
   cases this with
   |ad _ _ h=>exact h
theorem im.refl: ∀(l:List a7),im l l
 |[]=>.nil|x::r=>.cons (oQ.refl x) (im.refl r)
theorem im.append{a b c d:List a7}(h:im a b)(k:im c d):im (a++c) (b++d):=by
 induction h with
 |nil=>exact k|cons h _ bb=>exact .cons h bb
end
section
variable {P:Program} {G:aV} {s:aS}
theorem zjn{o:Oper}(t:TypeId)(len:Nat)(parts:Array (Nat × Operand))(av:o.op= .buildSlice t len parts){e n:Nat}(hu:P.underlying t=some (.slice e))(b4:(P.info? e).map (·.size)=some n)
 {zs:List Value}(aW:zeroCells P e=some zs)(sk:zs.all Value.oneCell'=true)(mi:zs.length=n)(hlen:0<len*n/\len*n<=16777216)
 {ps:List (Nat × aC)}(vp:parts.toList.map (λp=>(p.1,aR G s p.2))=ps)(fE:ps.all (λp=>(dc p.2).all (fp s.heap))=true)
 {ds:List aC}(hf:lr (λi=>some (i*n,n)) ((zZz len (zs.map λz=>aC.ad (.v z))).flatten) ps=some ds)(af:s.base<=s.next):
 eL P G o s ({s with heap:=(s.next,.box e ds)::s.heap,next:=s.next+1}.put o.dst (.eb s.next len)):=by
 have qh:ds.length=len*n:=by
  have: ∀(ps:List (Nat × aC)) (cs ds:List aC),lr (λi=>some (i*n,n)) cs ps=some ds->ds.length=cs.length:=by
   intro ps
   induction ps with
   |nil=>intro cs ds h;simp[lr]at h;rw[h]|cons p r bb=>
    intro cs ds h;obtain⟨i,v⟩:=p;simp only[lr]at h
    split at h
    ·rename_i hc
     rw[bb _ _ h,q4 _ _ _ (by omega)]
    ·cases h
  rw[this ps _ _ hf,jZ (n:=n) (λe he=>by rw[zY9]at he;rw[he.2];simpa using mi)]
  simp
 intro E a w ⟨β,ro,ah⟩ K Q hK;obtain⟨aa,ae⟩:=N3 ah vp fE;obtain⟨z,pr,qd,_⟩:=Br aW w
 have fW:(zZz len (zs.map λz=>aC.ad (.v z))).flatten.length=len*n:=by
  rw[jZ (n:=n) (λe he=>by rw[zY9]at he;rw[he.2];simpa using mi)];simp
 have zhl:zs.toArray.size=n:=by simpa using mi
 have rb:0<n:=by
  rcases Nat.eq_zero_or_pos n with h|h
  ·rw[h]at hlen;simp at hlen
  ·exact h
 obtain⟨ys,g1,g2,g3⟩:=Jd (place':=λi=>some (i*n,n)) (λ_ _ h=>h) ah.heap hf aa ae (xs:=(zXz (len*n)).map λx=>zs.toArray[x%zs.toArray.size]!) (by rw[fW];simp) (λj x aj=>by
  have dv:j<len*n:=by rw[<-fW];exact(zZ1.1 aj).1
  have hm:j=(j/ n)*n+j%n:=by rw[Nat.mul_comm];exact(Nat.div_add_mod j n).symm
  have nj:j%n<n:=Nat.mod_lt _ rb;have nk:j/ n<len:=by rw[Nat.div_lt_iff_lt_mul rb];exact dv
  rw[hm,q2 (n:=n) (λe he=>by rw[zY9]at he;rw[he.2];simpa using mi) (i:=j/ n) (e:=zs.map λz=>aC.ad (.v z)) (by simp[nk]) (j%n) nj]at aj
  have:=N2 (w:=w) (ro:=ro) (σ:=s.heap) (β:=β) (N:=s.next) sk (j%n) x aj
  have aE:(Array.map (λx=>zs.toArray[x%zs.toArray.size]!) (zXz (len*n))).getD j undef=zs.toArray.getD (j%n) undef:=by
   have aw:j%n<zs.length:=by omega
   simp[dv,mi,List.getElem?_eq_getElem aw]
  rw[aE]
  exact this)
 have cE:(execOp a.eval o).run P w= .ok (.value (.slice (some ⟨w.heap.size,0,none⟩) len len)) (w.alloc (.cells ys e)):=by
  have yh:(sizeOf e).run P w= .ok n w:=by
   cases hi:P.info? e with
   |none=>simp[hi]at b4|some i=>simp[hi]at b4;simp[sizeOf,typeInfo,hi,b4]
  have b6: ¬len*n>2^24:=by omega
  have lI: ¬len*n=0:=by omega
  simp only[execOp,av,Sem.run_bind,Instr.buildSlice,run_underlying hu,Result.andThen_ok,yh,if_neg b6,if_neg lI,pr,Sem.run_pure,qd]
  erw [g1]
  simp[newRow]
 have lB:aF s.heap s.next=none:=by
  cases ai:aF s.heap s.next with
  |none=>rfl|some p=>have:=ah.trans.new _ _ ai;omega
 have up: ∀(x:aC) (c:Value),bN w ro s.heap β s.next x c->bN (w.alloc (.cells ys e)) ro ((s.next,.box e ds)::s.heap) (jC β s.next (.pointer (some ⟨w.heap.size,0,none⟩))) (s.next+1) x c:=λx c hx=>
  hx.move (λb af=>(Go.RowKit.Below.heap_alloc w _ b (ah.heap.lt b af))) (λ_ h=>h) (Nat.le_succ _) λid o bR ai=>by
   have b6: ¬s.next=id:=by omega
   simp only[aF,if_neg b6]at ai;refine⟨dK _ _ (λa8=>b6 a8.symm),o,ai,?_⟩
   cases o with
   |box=>trivial|row=>rfl|bW=>trivial
 have gS:=ah.new (w':=w.alloc (.cells ys e)) s.next lB af (zZv _) (.box e ds) (.pointer (some ⟨w.heap.size,0,none⟩)) rfl rfl rfl (by simp) (λb af=>Go.RowKit.Below.heap_alloc w _ b af) (λb af=>by simp[cF]at af;omega) rfl
  (.box e ds w.heap.size ys (by rw[fl]) (heap_alloc_new w _) g2 λj x aj=>up _ _ (g3 j x aj))
 unfold Oper.wp;rw[cE];exact hK _ _ ⟨_,ro,gS.put o.dst (.eb s.next len) (.slice (some ⟨w.heap.size,0,none⟩) len len) (.eb _ _ _ (zYi _) λt cs _=>⟨_,fl _ _ _,rfl⟩)⟩
end
def ag.FB:ag->Bool
 | .bE _ _=>true| .fd _ _ _ _=>true| .cs _=>true| .ip _ _ _=>true|_=>false
theorem JZ{G:aV}{e:Env}: ∀{l:List ag},l.all ag.FB=true->∃vs,jU (ag.cc G e l)=some vs/\ag.cc G e l=vs.map .ad
 |[],_=>⟨[],rfl,rfl⟩|x::r,h=>by
  simp only[List.all_cons,zZr]at h;obtain⟨vs,aa,ae⟩:=JZ (G:=G) (e:=e) h.2
  have: ∃y,x.den G e= .ad y:=by
   cases x<;>first|exact⟨_,rfl⟩|(simp[ag.FB]at h)
  obtain⟨y,aA⟩:=this;refine⟨y::vs,?_,?_⟩
  ·simp only[ag.cc,aA,jU,aa]
  ·simp only[ag.cc,aA,ae,zXq]
mutual
def ag.kill(id:Nat):ag->ag
 | .cH l=>.cH (ag.ff id l)| .tp l=>.tp (ag.ff id l)| .fi k o=>match decide (k=id)with
  |true=>.top|false=>.fi k o
 | .iM k x o=>match decide (k=id)with
  |true=>.top|false=>.iM k x o
 | .iY k o x n=>match decide (k=id)with
  |true=>.top|false=>.iY k o x n
 | .aq k=>match decide (k=id)with
  |true=>.top|false=>.aq k
 | .cM k n=>match decide (k=id)with
  |true=>.top|false=>.cM k n
 | .gC g (some k) o=>match decide (k=id)with
  |true=>.gC g none o|false=>.gC g (some k) o
 | .fn f a b=>.fn f (ag.ff id a) (ag.ff id b)| .jb k=>match decide (k=id)with
  |true=>.top|false=>.jb k
 | .hg g b x=>.hg g b (ag.kill id x)|x=>x
def ag.ff(id:Nat):List ag->List ag
 |[]=>[]|x::r=>ag.kill id x::ag.ff id r
end
def bn.map{α:Type}(f:α->α):bn α->bn α
 | .emp=>.emp| .n v l r=>.n (match v with|some x=>some (f x)|none=>none) (l.map f) (r.map f)
theorem bn.get_map{α:Type}(f:α->α): ∀(t:bn α) (k:Nat),(t.map f).get k=(t.get k).map f
 | .emp,_=>rfl| .n v l r,k=>by
  simp only[bn.map,bn.get]
  split
  ·cases v<;>rfl
  ·split
   ·exact bn.get_map f l _
   ·exact bn.get_map f r _
structure dZ where
 xs:List cf
 ns:List hj
 W1:Option Nat
 h:List (Nat × b1)
 n:Nat
 v:ag
def dZ.l(r:dZ)(l:bn ag):bn ag:=
 match r.W1 with
 |none=>l|some id=>l.map (ag.kill id)
def dZ.st(r:dZ)(S:ax)(dst:Option Nat):ax:=({S with l:=r.l S.l,h:=r.h,n:=r.n}:ax).put dst r.v
def pE(P:Program)(G:aV)(N B:Nat)(M:List bs)(o:Oper)(S:ax)(r:dZ):Prop:=
 ∀e,(∀c∈S.g,c.ok e)->(∀(j:Nat) (x:cf),r.xs[j]? =some x->Env.at e (S.k+j)=x.den M e)->(∀n∈r.ns,n.ok M e)->eL P G o (S.den G N B e) ((r.st S o.dst).den G N B e)
def Pp(P:Program)(B:Nat)(S:ax)(t:TypeId):Option dZ:=
 match zeroCells P t with
 |some zs=>match zs.all Value.oneCell'&&zZt B S.n with
  |true=>some ⟨[],[],none,(S.n,.dQ t (zs.map .cs))::S.h,S.n+1,.fi S.n 0⟩|false=>none
 |none=>none
def Pq(B:Nat)(S:ax)(t:TypeId)(x:ag):Option dZ:=
 match x.cells.all (nv S.h)&&zZt B S.n with
 |true=>some ⟨[],[],none,(S.n,.dQ t x.cells)::S.h,S.n+1,.fi S.n 0⟩|false=>none
def Pr(P:Program)(S:ax)(t:TypeId)(p x:ag):Option dZ:=
 match p with
 | .fi id off=>match dG S.h id,(P.info? t).map (·.size)with
  |some (.dQ bt l),some n=>match x.cells.all (nv S.h)&&(zZu n x.cells.length&&zZt (off+n) l.length)with
   |true=>some ⟨[],[],none,lL S.h id (.dQ bt (eJ l off x.cells)),S.n,.top⟩|false=>none
  |_,_=>none
 | .iM id i off=>match dG S.h id,(P.info? t).map (·.size),i.rt with
  |some (.rw bt c y),some n,some (.int k)=>match x.cells.all ag.FB&&((x.cells.all (nv S.h)&&y.fN (.li c))&&(zZu n x.cells.length&&(zZt (off+n) (dE c)&&js (fR c) (eJ (k9 c S.k 0 (fR c)) off x.cells))))with
   |true=>some ⟨[.f2 (.mR c k) y i,.up c y i (.cH (eJ (k9 c S.k 0 (fR c)) off x.cells))],sC S.g (.la c) (.mR c k) y i,
    none,lL S.h id (.rw bt c (.bE (.li c) (S.k+1))),S.n,.top⟩
   |false=>none
  |_,_,_=>none
 |_=>none
section
variable {P:Program} {G:aV} {o:Oper} {N B:Nat} {S:ax} {M:List bs}
theorem zjo{t:TypeId}{r:dZ}(av:o.op= .alloc t)(h:Pp P B S t=some r):pE P G N B M o S r:=λe hf hx hn=>by
 unfold Pp at h
 split at h
 ·rename_i zs aW
  split at h
  ·rename_i af
   cases h;simp only[zZr]at af
   have:=My (G:=G) (s:=S.den G N B e) t av (zZq af.2) aW af.1;rw[dZ.st,gu];simp only[ax.den,di,b1.den,ag.den,dZ.l]at this⊢;rw[gh,zWq];exact this
  ·cases h
 ·cases h
theorem zjp{t:TypeId}{x:Operand}{r:dZ}(av:o.op= .box t x)(h:Pq B S t (S.bj N x)=some r):pE P G N B M o S r:=λe hf hx hn=>by
 unfold Pq at h
 split at h
 ·rename_i af
  cases h;simp only[zZr]at af
  have az:=zx (G:=G) (e:=e) af.1;have:=Mz (P:=P) (G:=G) (s:=S.den G N B e) t x av (zZq af.2) (by rw[b3 hf,az];exact B3 af.1)
  rw[b3 hf,az]at this;rw[dZ.st,gu];exact this
 ·cases h
theorem zjq{c:bZ}{l:List (hY c)}{j:Nat}{hQ aE:hY c}{vs:List a7}(aP:l[j]? =some hQ)(ao:im vs (dr c aE)):im ((l.map (dr c)).set j vs).flatten ((l.set j aE).map (dr c)).flatten:=by
 induction l generalizing j with
 |nil=>simp at aP|cons x l bb=>
  cases j with
  |zero=>
   simp only[zXq,List.set_cons_zero,zYs];exact ao.append (im.refl _)
  |succ j=>
   simp only[zXq,List.set_cons_succ,zYs];exact(im.refl _).append (bb (by simpa using aP))
theorem zjr{t:TypeId}{p x:Operand}{r:dZ}(av:o.op= .store t p x)(h:Pr P S t (S.bj N p) (S.bj N x)=some r):pE P G N B M o S r:=λe hf hx hn=>by
 unfold Pr at h
 split at h
 ·rename_i id off ar
  split at h
  ·rename_i bt l n ai b4
   split at h
   ·rename_i af
    cases h;simp only[zZr]at af
    have az:=zx (G:=G) (e:=e) af.1;have hlen:=zWi af.2.1;have mN:dc (aR G (S.den G N B e) x)=ag.cc G e (S.bj N x).cells:=by rw[b3 hf,az]
    have:=Mv (P:=P) (G:=G) (s:=S.den G N B e) t p x av (id:=id) (off:=off) (by rw[b3 hf,ar];rfl) (bt:=bt) (cs:=ag.cc G e l) (by simp only[ax.den,fx,ai,zXh,b1.den])
     (vs:=ag.cc G e (S.bj N x).cells) mN (B3 af.1) (by rw[qq,b4,hlen]) (by rw[qq,qq,<-hlen];exact zZq af.2.2)
    rw[dZ.st,gu];simp only[ax.den,xr,b1.den,ag.den,dZ.l]at this⊢;rw[gh,JL,<-gh,<-gh];exact this
   ·cases h
  ·cases h
 ·rename_i id i off ar
  split at h
  ·rename_i bt c y n k ai b4 hi
   split at h
   ·rename_i af
    cases h;simp only[zZr]at af;obtain⟨e6,⟨gl,iB⟩,sG,Ca,FC⟩:=af
    have hlen:=zWi sG;obtain⟨g1,g2⟩:=B1 hf hi hn;obtain⟨vs,v1,v2⟩:=JZ (G:=G) (e:=e) e6
    have sH:vs.length=n:=by
     have:=congrArg List.length v2;rw[qq,zXe]at this;omega
    have mN:dc (aR G (S.den G N B e) x)=ag.cc G e (S.bj N x).cells:=by rw[b3 hf,zx gl]
    have aP:Env.at e S.k=⟨.st c,zZ8 (y.aL e (.li c)) (Int.toNat (i.aL e (.int k))) (aZ c)⟩:=hx 0 _ rfl;have aa:Env.at e (S.k+1)=_:=hx 1 _ rfl;have fM:=X7 g1 g2
    have e1:=Mw (P:=P) (G:=G) (s:=S.den G N B e) t p x av (id:=id) (i:=(cQ (i.dyn e)).toNat) (off:=off) (by rw[b3 hf,ar];rfl) (bt:=bt) (n:=dE c) (es:=List.map (dr c) (y.aL e (.li c))) (by simp only[ax.den,fx,ai,zXh,b1.den])
     (e:=dr c (zZ8 (y.aL e (.li c)) (Int.toNat (i.aL e (.int k))) (aZ c))) (by rw[zYo,pD hi,fM];rfl) (by rw[mN];exact v1) (by rw[b4,sH]) (by rw[sH];exact zZq Ca)
    refine e1.B9 ?_;rw[dZ.st,gu]
    have kF:im (eJ (dr c (zZ8 (y.aL e (.li c)) (Int.toNat (i.aL e (.int k))) (aZ c))) off vs) (dr c (so c (hG e (fR c) (eJ (k9 c S.k 0 (fR c)) off (S.bj N x).cells)))):=by
     have:=Fa (G:=G) (e:=e) FC;rw[gh,JL,<-gh,<-gh,xk,aP,df,v2,<-JL]at this;exact Po this
    have gS:(ag.bE (.li c) (S.k+1)).aL e (.li c)=List.set (y.aL e (.li c)) (cQ (i.dyn e)).toNat (so c (hG e (fR c) (eJ (k9 c S.k 0 (fR c)) off (S.bj N x).cells))):=by
     simp only[ag.aL,ag.hh,ag.dyn,df,aa,cf.den,ag.get,ag.cells]
    refine Yg (s:={S.den G N B e with heap:=eX (S.den G N B e).heap id _}) (h':=di G e (lL S.h id (.rw bt c (.bE (.li c) (S.k+1))))) λjn kg FD=>?_
    rw[xr,wG]at FD;simp only[wG]
    by_cases bq:id=jn
    ·rw[if_pos bq]at FD⊢
     cases FD;refine⟨_,rfl,?_⟩
     simp only[b1.den];rw[gS];refine .row bt (dE c) (by simp) (λq aB=>?_) (zjq (by rw[pD hi];exact fM) kF)
     obtain⟨z,_,rfl⟩:=zXs.1 aB;exact Jn c z
    ·rw[if_neg bq]at FD⊢
     exact⟨kg,FD,.same kg⟩
   ·cases h
  ·cases h
 ·cases h
end
end Go.aH
namespace Go.aH
open Go Go.Lib
section
variable {P:Program}
theorem Ps{w:World}(t u ty e:TypeId){i:TypeInfo}(aJ:P.underlying t=some (.slice e))(hu:P.underlying u=some .string)(hi:P.info? e=some i)(aW:i.zero=some (.int .u8 0))(iF:i.size=1)(kH:i.bytes=1)
 {v:Value}{n:Nat}{xs:List Value}(ea:l2 w e 1 v n xs)(s:ByteArray)(xc:n+s.size<=maxLen)(Je:n+s.size<=140737488355328):
 ∃bC w',(Builtin.append_ #[t,u] ty #[v,.string s]).run P w= .ok bC w'/\l2 w' e 1 bC (n+s.size) (xs++strCells s)/\w.grownBy w' (cF v)/\(∀k,cF bC=some k->cF v=some k\/w.heap.size<=k):=by
 have zoX:n+s.size<=9223372036854775807:=by simp only[maxLen]at xc;omega
 have oO:xs.length=n:=by simpa using ea.1
 have hlen:(xs++strCells s).length=(n+s.size)*1:=by rw[zVu,oO,strCells_length,Nat.mul_one]
 have grown: ∀(er:Nat),er<n+s.size->∀(row:Option Nat),
  l2 (w.drew.alloc (.cells (xs.toArray++(strCells s).toArray++Builtin.zeroCells (Value.int .u8 0).cells (grownCap w (n+s.size) er e-(n+s.size))) e)) e 1
   (.slice (some ⟨w.heap.size,0,none⟩) (n+s.size) (grownCap w (n+s.size) er e)) (n+s.size) (xs++strCells s)/\
  w.grownBy (w.drew.alloc (.cells (xs.toArray++(strCells s).toArray++Builtin.zeroCells (Value.int .u8 0).cells (grownCap w (n+s.size) er e-(n+s.size))) e)) row:=by
  intro er av row;have kG:=grownCap_ge w (n+s.size) er e;have kE:grownCap w (n+s.size) er e<=maxLen:=grownCap_le_maxLen w (n+s.size) er e xc;refine⟨⟨hlen,.inr ⟨w.heap.size,_,_,rfl,by omega,heap_alloc_new w.drew _,kG,kE,?_,?_⟩⟩,⟨rfl,rfl,rfl,by simp,λk an _=>Go.RowKit.Below.heap_alloc w.drew _ k an⟩⟩
  ·have DL:(Value.int IntKind.u8 0).cells.size=1:=rfl
   simp only[zXw,zZc,size_zeroCells,DL,oO,strCells_length];omega
  ·simp only[zVw,zVt]
   rw[<-zVt,<-hlen];exact zWd
 have Pt: ∀(m c k:Nat),cF (.slice (some ⟨w.heap.size,0,none⟩) m c)=some k->cF v=some k\/w.heap.size<=k:=λm c k an=>by
  simp only[cF]at an
  split at an
  ·cases an
  ·simp at an;exact .inr (by omega)
 rcases ea.2 with⟨⟨c,rfl,zf⟩,lI⟩|⟨g,cap,cur,rfl,ET,ai,Yh,kE,fH,nh⟩
 ·subst lI
  have hx:xs=[]:=zY6 oO;subst hx
  by_cases hm:s.size=0
  ·have vq:strCells s=[]:=zY6 (by rw[strCells_length];exact hm)
   have hf:=run_firstCells_string (P:=P) w 1 s;rw[hm]at hf;refine⟨.slice c 0 0,w,?_,by rw[hm,vq];exact⟨rfl,.inl ⟨⟨c,rfl,zf⟩,rfl⟩⟩,World.grownBy.refl w _,λk an=>.inl an⟩
   cases c<;>simp[Builtin.append_,run_underlying aJ,run_underlying hu,sizeOf,typeInfo,hi,iF,Builtin.lenOf,hm,hf,vq,storeCells]
  ·have dX:=grown 0 (by omega) (cF (.slice c 0 0))
   cases c with
   |none=>
    have ah:=run_append_nil_string (P:=P) w t u ty e i (.int .u8 0) aJ hu hi aW s (by omega) (by omega) (by rw[kH];omega)
    simp only[Nat.zero_add,List.nil_append,Array.empty_append]at dX⊢
    have aE:(s.data.map λb=>Value.int .u8 b.toNat)=(strCells s).toArray:=by
     apply zXi;simp[strCells]
    rw[aE]at ah;exact⟨_,_,ah,dX.1,dX.2,Pt _ _⟩
   |some a=>
    have ah:=run_append_grow_string (P:=P) w t u ty e i (.int .u8 0) aJ hu hi aW a 0 0 [] (by simp) (by simp) s (by omega) (by omega) (by rw[kH];exact growslice_fits (by omega) (by omega))
    exact⟨_,_,ah,dX.1,dX.2,Pt _ _⟩
 ·by_cases Yi:n+s.size<=cap
  ·have ah:=run_append_room_string (P:=P) w t u ty e i aJ hu hi iF g n cap cur ai s Yi (by omega)
   refine⟨_,_,ah,⟨hlen,.inr ⟨g,cap,_,rfl,ET,setRow_heap w g cur _ e _ ai,Yi,kE,?_,?_⟩⟩,⟨rfl,rfl,rfl,by simp,λk _ an=>setRow_other w g k _ (λe=>an (by simp[cF,e,zXu ET]))⟩,λk an=>.inl ?_⟩
   ·simp only[zZc,zVu,List.length_take,List.length_drop,zYg,strCells_length]
    omega
   ·have cP:cur.toList.take n=xs:=by simpa using nh
    rw[cP,<-hlen];exact zWd
   ·simpa[cF,zXu ET]using an
  ·have holds: ∀j u,xs[j]? =some u->w.cell? ((⟨g,0,none⟩:Addr).add j)=some u:=by
    have iS:w.ownsRow 0 e 1 (.slice (some ⟨g,0,none⟩) n cap) n xs:=⟨ea.1,.inr ⟨g,cap,cur,rfl,Nat.zero_le _,ai,Yh,kE,fH,nh⟩⟩;exact iS.cells (g:=g) rfl
   have ah:=run_append_grow_string (P:=P) w t u ty e i (.int .u8 0) aJ hu hi aW ⟨g,0,none⟩ n cap xs (by rw[iF];simpa using oO) holds s (by omega) (by omega) (by rw[kH];exact growslice_fits (by omega) (by omega))
   have dX:=grown cap (by omega) (cF (.slice (some ⟨g,0,none⟩) n cap))
   exact⟨_,_,ah,dX.1,dX.2,Pt _ _⟩
def fC(b:ByteArray):List Int:=b.data.toList.map λu=>(u.toNat:Int)
theorem Pu{w:World}{ro:Nat->Prop}(b:ByteArray):((fC b).map λz=>[a7.v (.int .u8 z)]).length=b.size/\∀(j:Nat) (x:a7),((fC b).map λz=>[a7.v (.int .u8 z)]).flatten[j]? =some x->dq w ro x ((strCells b).getD j undef):=by
 refine⟨by rw[zXe];unfold fC;rw[zXe,zYg];rfl,λj x aj=>?_⟩
 have se:((fC b).map λz=>[a7.v (.int .u8 z)]).flatten=(fC b).map λz=>a7.v (.int .u8 z):=by
  generalize fC b=l
  induction l with
  |nil=>rfl|cons y r bb=>simp only[zXq,zYs,bb,List.singleton_append]
 rw[se]at aj;unfold fC at aj;simp only[zWq,zYo]at aj;obtain⟨u,hu,rfl⟩:=Option.map_eq_some_iff.1 aj
 have:(strCells b).getD j undef= .int .u8 (u.toNat:Int):=by
  unfold strCells;simp[zZ8,hu]
 rw[this];exact .v _ rfl
variable {G:aV} {s:aS} {o:Oper}
def yi(P:Program)(t u:TypeId):Option TypeId:=
 match P.underlying t,P.underlying u with
 |some (.slice e),some .string=>match P.info? e with
  |some i=>match i.zero with
   |some (.int .u8 0)=>match zZu i.size 1&&zZu i.bytes 1 with
    |true=>some e|false=>none
   |_=>none
  |none=>none
 |_,_=>none
theorem Pv{t u e:TypeId}(h:yi P t u=some e): ∃i,P.underlying t=some (.slice e)/\P.underlying u=some .string/\P.info? e=some i/\i.zero=some (.int .u8 0)/\i.size=1/\i.bytes=1:=by
 unfold yi at h
 split at h
 ·rename_i aD hu ao
  split at h
  ·rename_i i hi
   split at h
   ·rename_i aW
    split at h
    ·rename_i hc
     cases h;simp only[zZr]at hc;exact⟨i,hu,ao,hi,aW,zWi hc.1,zWi hc.2⟩
    ·cases h
   ·cases h
  ·cases h
 ·cases h
theorem zjs(x y:Operand)(t u:TypeId)(av:o.op= .call {callee:=.builtin .append,args:=#[x,y],argTypes:=#[t,u]}){e:TypeId}(aJ:yi P t u=some e)
 {id:Nat}(hx:aR G s x= .aq id){es:List (List a7)}(bq:aF s.heap id=some (.row false e 1 es))(af:s.base<=id)(bR:id<s.next)
 {b:ByteArray}(aA:aR G s y= .ad (.v (.string b)))(b4:es.length+b.size<=maxLen/\es.length+b.size<=140737488355328):
 eL P G o s (aS.put ⟨ff id s.dn,(id,.row false e 1 (es++(fC b).map λz=>[a7.v (.int .u8 z)]))::eD id s.heap,s.next,s.base⟩ o.dst (.aq id)):=by
 intro E a w ⟨β,ro,ah⟩ K Q hK;obtain⟨i,hu,ao,hi,aW,iF,kH⟩:=Pv aJ;have eg:=ah.heap.dB id _ bq
 cases eg with
 |row _ _ _ xs ea b6 fW=>
  have mN:a.eval x=β id:=by
   have h:=ah.eval x;rw[hx]at h;generalize a.eval x=c at h
   cases h with
   |aq _ _ _ ar=>exact ar _ _ _ _ bq
  obtain⟨bC,w',cE,sl,dX,bp⟩:=Ps (P:=P) t u o.type e hu ao hi aW iF kH ea b b4.1 b4.2;obtain⟨dp,dP⟩:=Pu (w:=w) (ro:=ro) b;unfold Oper.wp;simp only[execOp,av,resolve,invoke,builtin,Sem.run_bind,Sem.run_pure,Result.andThen_ok,zXr,zXq,zXp,mN,ah.ef aA,cE];have lG: ∀k,k<w.heap.size->cF (β id)≠some k->w'.heap[k]? =w.heap[k]? :=λk an b6=>dX.block k an (λe=>b6 e.symm);have cA: ∀k,ro k->w'.heap[k]? =w.heap[k]? :=λk an=>lG k (ah.heap.lt k an) λbp=>ah.heap.fy k an ⟨id,_,bq,rfl,bp⟩;refine hK _ _ ⟨jC β id bC,ro,dy.put (ah.renew (w':=w') id af bR bq (.row false e 1 (es++(fC b).map λz=>[a7.v (.int .u8 z)])) bC dX.os dX.tape dX.output dX.size lG bp rfl ?_) o.dst _ _ ?_⟩
  ·refine .row e 1 _ _ (by rw[fl,zVu,dp];exact sl) (λaD jq=>?_) (λj x aj=>?_)
   ·rw[zVs]at jq
    rcases jq with h|h
    ·exact b6 _ h
    ·obtain⟨z,_,rfl⟩:=zXs.1 h
     rfl
   ·exact(Jg b6 ea.1 fW dP j x aj).keep cA λ_ h=>h
  ·exact .aq _ _ bR λz br b0 e2 _=>(fl _ _ _).symm
theorem TM(x y:Operand)(t u:TypeId)(av:o.op= .call {callee:=.builtin .append,args:=#[x,y],argTypes:=#[t,u]}){e:TypeId}(aJ:yi P t u=some e)
 (hx:aR G s x= .ad (.v (.slice none 0 0)))(af:s.base<=s.next){b:ByteArray}(aA:aR G s y= .ad (.v (.string b)))(b4:b.size<=maxLen/\b.size<=140737488355328):
 eL P G o s ({s with heap:=(s.next,.row false e 1 ((fC b).map λz=>[a7.v (.int .u8 z)]))::s.heap,next:=s.next+1}.put o.dst (.aq s.next)):=by
 intro E a w ⟨β,ro,ah⟩ K Q hK;obtain⟨i,hu,ao,hi,aW,iF,kH⟩:=Pv aJ;obtain⟨bC,w',cE,sl,dX,bp⟩:=Ps (P:=P) (w:=w) t u o.type e hu ao hi aW iF kH (v:=.slice none 0 0) (n:=0) (xs:=[]) ⟨by simp,.inl ⟨⟨none,rfl,λ_ h=>(by cases h)⟩,rfl⟩⟩ b (by omega) (by omega)
 obtain⟨dp,dP⟩:=Pu (w:=w) (ro:=ro) b;unfold Oper.wp;simp only[execOp,av,resolve,invoke,builtin,Sem.run_bind,Sem.run_pure,Result.andThen_ok,zXr,zXq,zXp,ah.ef hx,ah.ef aA,cE]
 have lB:aF s.heap s.next=none:=by
  cases ai:aF s.heap s.next with
  |none=>rfl|some p=>have:=ah.trans.new _ _ ai;omega
 have hw: ∀b,b<w.heap.size->w'.heap[b]? =w.heap[b]? :=λb af=>dX.block b af (by simp[cF])
 have cA: ∀b,ro b->w'.heap[b]? =w.heap[b]? :=λb af=>hw b (ah.heap.lt b af);refine hK _ _ ⟨jC β s.next bC,ro,dy.put (ah.new (w':=w') s.next lB af (zZv _) (.row false e 1 ((fC b).map λz=>[a7.v (.int .u8 z)])) bC dX.os dX.tape dX.output dX.size hw (λb af=>?_) rfl ?_) o.dst _ _ ?_⟩
 ·rcases bp b af with h|h
  ·simp[cF]at h
  ·exact h
 ·refine .row e 1 _ _ (by rw[fl,dp];simpa using sl) (λaD jq=>?_) (λj x aj=>(dP j x aj).keep cA λ_ h=>h)
  obtain⟨z,_,rfl⟩:=zXs.1 jq;rfl
 ·exact .aq _ _ (zYi _) λz br b0 e2 _=>(fl _ _ _).symm
end
end Go.aH
namespace Go.aH
open Go Go.Lib
section
variable {P:Program} {G:aV} {s:aS} {E:Entry} {a:Act} {w w':World} {β:Nat->Value} {ro:Nat->Prop}
theorem dy.Yj(h:dy E G s a w β ro)(id:Nat)(af:s.base<=s.next){t0:TypeId}{n0:Nat}{ER:List (List a7)}(bq:aF s.heap id=some (.row false t0 n0 ER))(o:ey)(val:Value)
 (sf:w'.os=w.os)(sg:w'.tape=w.tape)(jD:w'.output=w.output)(b4:w.heap.size<=w'.heap.size)(hw: ∀b,b<w.heap.size->cF (β id)≠some b->w'.heap[b]? =w.heap[b]?)
 (jo: ∀b,cF val=some b->cF (β id)=some b\/w.heap.size<=b)(_hlive:o.live=true)
 (eg:oM w' ro ((s.next,o)::eD id s.heap) (jC β s.next val) (s.next+1) s.next o):
 dy E G ⟨ff id s.dn,(s.next,o)::eD id s.heap,s.next+1,s.base⟩ a w' (jC β s.next val) ro:=by
 have cA: ∀b,ro b->w'.heap[b]? =w.heap[b]? :=λb ah=>hw b (h.heap.lt b ah) λaf=>h.heap.fy b ah ⟨id,_,bq,rfl,af⟩;have ai: ∀k,k≠s.next->k≠id->aF ((s.next,o)::eD id s.heap) k=(aF s.heap k).map (fq id):=λk an fI=>by simp[aF,Ne.symm an,tP,fI]
 have zc:aF ((s.next,o)::eD id s.heap) s.next=some o:=by simp[aF]
 have zoY:id<s.next:=h.trans.new _ _ bq
 have key: ∀x c,bN w ro s.heap β s.next x c->bN w' ro ((s.next,o)::eD id s.heap) (jC β s.next val) (s.next+1) (eV id x) c:=by
  intro x c hx
  induction hx with
  |ad x c hx=>exact .ad x c (hx.keep cA λ_ h=>h)
  |agg cs c ao _ bb=>
   refine .agg _ c (by rw[j1];exact ao) λj x aj=>?_
   obtain⟨y,aA,rfl⟩:=jN id aj;exact bb j y aA
  |tuple cs c ao _ bb=>
   refine .tuple _ c (by rw[j1];exact ao) λj x aj=>?_
   obtain⟨y,aA,rfl⟩:=jN id aj;exact bb j y aA
  |ptr k off c au ar=>
   simp only[eV]
   split
   ·exact .top _
   ·rename_i an
    refine .ptr k off c (by omega) λt cs bH=>?_
    rw[dK _ _ (show k≠s.next by omega)]
    rw[ai k (by omega) an]at bH
    cases ao:aF s.heap k with
    |none=>simp[ao]at bH|some p=>
     cases p with
     |box br cs'=>exact ar br cs' ao|row=>simp[ao,fq]at bH|bW=>simp[ao,fq]at bH
  |eb k off c au ar=>
   simp only[eV]
   split
   ·exact .top _
   ·rename_i an
    refine .eb k off c (by omega) λt cs bH=>?_
    rw[dK _ _ (show k≠s.next by omega)]
    rw[ai k (by omega) an]at bH
    cases ao:aF s.heap k with
    |none=>simp[ao]at bH|some p=>
     cases p with
     |box br cs'=>exact ar br cs' ao|row=>simp[ao,fq]at bH|bW=>simp[ao,fq]at bH
  |du k i off c au ar=>
   simp only[eV]
   split
   ·exact .top _
   ·rename_i an
    refine .du k i off c (by omega) λz t n es bH=>?_
    rw[dK _ _ (show k≠s.next by omega)]
    rw[ai k (by omega) an]at bH
    cases ao:aF s.heap k with
    |none=>simp[ao]at bH|some p=>
     cases p with
     |box br cs'=>simp[ao,fq]at bH|bW=>simp[ao,fq]at bH|row h5 br b0 e2=>
      simp only[ao,zXh,fq,zYt,ey.row.injEq]at bH;obtain⟨rfl,rfl,rfl,rfl⟩:=bH;exact ar _ _ _ _ ao
  |aq k c au ar=>
   simp only[eV]
   split
   ·exact .top _
   ·rename_i an
    refine .aq k c (by omega) λz t n es bH=>?_
    rw[dK _ _ (show k≠s.next by omega)]
    rw[ai k (by omega) an]at bH
    cases ao:aF s.heap k with
    |none=>simp[ao]at bH|some p=>
     cases p with
     |box br cs'=>simp[ao,fq]at bH|bW=>simp[ao,fq]at bH|row h5 br b0 e2=>exact ar _ _ _ _ ao
  |fn f p q c d aa ae _ _ h7 h8=>
   refine .fn f _ _ c d (by rw[j1];exact aa) (by rw[j1];exact ae) (λj x aj=>?_) (λj x aj=>?_)
   ·obtain⟨y,aA,rfl⟩:=jN id aj
    exact h7 j y aA
   ·obtain⟨y,aA,rfl⟩:=jN id aj
    exact h8 j y aA
  |ref k c au ar=>
   simp only[eV]
   split
   ·exact .top _
   ·rename_i an
    refine .ref k c (by omega) λbU bH=>?_
    rw[dK _ _ (show k≠s.next by omega)]
    rw[ai k (by omega) an]at bH
    cases ao:aF s.heap k with
    |none=>simp[ao]at bH|some p=>
     cases p with
     |box=>simp[ao,fq]at bH|row=>simp[ao,fq]at bH|bW lv=>exact ar lv ao
  |top c=>exact .top c
 have er: ∀k p,k≠s.next->aF ((s.next,o)::eD id s.heap) k=some p->k≠id/\∃q,aF s.heap k=some q/\p=fq id q:=by
  intro k p an bH
  have bT:k≠id:=λh=>by
   subst h;simp[aF,Ne.symm an,tP]at bH
  refine⟨bT,?_⟩;rw[ai k an bT]at bH
  cases ao:aF s.heap k with
  |none=>simp[ao]at bH|some q=>simp[ao]at bH;exact⟨q,rfl,bH.symm⟩
 refine⟨h.defers,by simpa[j1]using h.size,λi x hx=>?_,⟨λk p an=>?_,λk bl p ha b an fI ar iK bp e7=>?_,λb ah=>?_,λb ah=>zZw (h.heap.lt b ah) b4⟩,
  h.ix.keep cA λ_ h=>h,?_,h.base⟩
 ·obtain⟨y,aA,rfl⟩:=jN id hx
  exact key _ _ (h.slot i y aA)
 ·by_cases bT:k=s.next
  ·subst k
   rw[zc]at an;simp only[zYt]at an;subst an;exact eg
  ·obtain⟨jP,q,aB,rfl⟩:=er k p bT an
   have gw:=h.heap.dB k q aB
   have b6:q.live=true->∀b,cF (β k)=some b->w'.heap[b]? =w.heap[b]? :=λau b bp=>
    hw b (gw.jB au bp) λmf=>jP (h.heap.inj k id q _ b aB bq au rfl bp mf)
   cases gw with
   |box t cs b arr aa ae aw aN=>
    refine .box t _ b arr (by rw[dK _ _ bT];exact aa) ((b6 rfl b (by rw[aa];rfl)).trans ae) (by rw[j1];exact aw) λj x aj=>?_
    obtain⟨y,aA,rfl⟩:=jN id aj;exact key _ _ (aN j y aA)
   |row t n es xs aa ae aw=>exact .row t n es xs (by rw[dK _ _ bT];exact aa.keep (λb af=>b6 rfl b af) b4) ae λj x aj=>(aw j x aj).keep cA λ_ h=>h
   |gH t n es aa=>exact .gH t n es (by rw[dK _ _ bT];exact aa.keep cA λ_ h=>h)
   |bW bU b o aa ae aw=>exact .bW bU b o (by rw[dK _ _ bT];exact aa) ((b6 rfl b aa).trans ae) (by rw[dK _ _ bT];exact bU.mono _ _ _ _ (λx c h=>h.keep cA λ_ h=>h) aw)
 ·by_cases bT:k=s.next
  ·by_cases iL:bl=s.next
   ·rw[bT,iL]
   ·subst k
    rw[fl]at bp;rw[dK _ _ iL]at e7;obtain⟨jP,q,aB,rfl⟩:=er bl ha iL fI;rw[lH]at iK;have ae:=(h.heap.dB bl q aB).jB iK e7
    rcases jo b bp with aa|aa
    ·exact absurd (h.heap.inj bl id q _ b aB bq iK rfl e7 aa) jP
    ·omega
  ·obtain⟨jP,q,aB,rfl⟩:=er k p bT an
   rw[lH]at ar;rw[dK _ _ bT]at bp
   by_cases iL:bl=s.next
   ·subst bl
    rw[fl]at e7;have ae:=(h.heap.dB k q aB).jB ar bp
    rcases jo b e7 with aa|aa
    ·exact absurd (h.heap.inj k id q _ b aB bq ar rfl bp aa) jP
    ·omega
   ·obtain⟨zjt,jA,zd,rfl⟩:=er bl ha iL fI
    rw[lH]at iK;rw[dK _ _ iL]at e7;exact h.heap.inj k bl q jA b aB zd ar iK bp e7
 ·rintro⟨k,p,an,ar,bp⟩
  by_cases bT:k=s.next
  ·subst k
   rw[fl]at bp
   rcases jo b bp with aa|aa
   ·exact h.heap.fy b ah ⟨id,_,bq,rfl,aa⟩
   ·have:=h.heap.lt b ah;omega
  ·obtain⟨jP,q,aB,rfl⟩:=er k p bT an
   rw[lH]at ar;rw[dK _ _ bT]at bp;exact h.heap.fy b ah ⟨k,q,aB,ar,bp⟩
 ·have t:=h.trans
  refine⟨sf.trans t.os,sg.trans t.tape,jD.trans t.output,zZx t.size b4,λb k5 hI=>?_,t.h9,t.hp,?_,λk an p bH=>?_,λk p bH=>?_,Nat.le_succ_of_le t.le⟩
  ·by_cases mf:cF (β id)=some b
   ·rcases t.gG b ⟨id,_,bq,rfl,mf⟩with hc|hc
    ·exact absurd hc hI
    ·omega
   ·rw[hw b (zZw k5 t.size) mf]
    exact t.frame b k5 hI
  ·rintro b ⟨k,p,an,ar,bp⟩
   by_cases bT:k=s.next
   ·subst k
    rw[fl]at bp
    rcases jo b bp with aa|aa
    ·exact t.gG b ⟨id,_,bq,rfl,aa⟩
    ·exact .inr (zZx t.size aa)
   ·obtain⟨jP,q,aB,rfl⟩:=er k p bT an
    rw[lH]at ar;rw[dK _ _ bT]at bp;exact t.gG b ⟨k,q,aB,ar,bp⟩
  ·have bT:k≠s.next:=by have:=h.base;omega
   obtain⟨jP,q,aB,rfl⟩:=er k p bT bH;rw[dK _ _ bT];exact t.er k an q aB
  ·by_cases bT:k=s.next
   ·subst k;exact zYi _
   ·obtain⟨jP,q,aB,rfl⟩:=er k p bT bH
    exact Nat.lt_succ_of_lt (t.new k q aB)
theorem dy.Yk(h:dy E G s a w β ro)(id aX:Nat)(af:s.base<=aX)(bR:aX<s.next){t0:TypeId}{n0:Nat}{ER:List (List a7)}(bq:aF s.heap id=some (.row false t0 n0 ER))(o:ey)(val:Value)
 (sf:w'.os=w.os)(sg:w'.tape=w.tape)(jD:w'.output=w.output)(b4:w.heap.size<=w'.heap.size)(hw: ∀b,b<w.heap.size->cF (β id)≠some b->w'.heap[b]? =w.heap[b]?)
 (jo: ∀b,cF val=some b->cF (β id)=some b\/w.heap.size<=b)(_hlive:o.live=true)
 (eg:oM w' ro ((aX,o)::eD aX (eD id s.heap)) (jC β aX val) s.next aX o):
 dy E G ⟨ff aX (ff id s.dn),(aX,o)::eD aX (eD id s.heap),s.next,s.base⟩ a w' (jC β aX val) ro:=by
 have cA: ∀b,ro b->w'.heap[b]? =w.heap[b]? :=λb ah=>hw b (h.heap.lt b ah) λaf=>h.heap.fy b ah ⟨id,_,bq,rfl,af⟩;have ai: ∀k,k≠aX->k≠id->aF ((aX,o)::eD aX (eD id s.heap)) k=((aF s.heap k).map (fq id)).map (fq aX):=λk an fI=>by simp[aF,Ne.symm an,tP,an,fI]
 have zc:aF ((aX,o)::eD aX (eD id s.heap)) aX=some o:=by simp[aF]
 have key: ∀x c,bN w ro s.heap β s.next x c->bN w' ro ((aX,o)::eD aX (eD id s.heap)) (jC β aX val) s.next (eV aX (eV id x)) c:=by
  intro x c hx
  induction hx with
  |ad x c hx=>exact .ad x c (hx.keep cA λ_ h=>h)
  |agg cs c ao _ bb=>
   refine .agg _ c (by rw[j1,j1];exact ao) λj x aj=>?_
   obtain⟨z,aW,rfl⟩:=jN aX aj;obtain⟨y,aA,rfl⟩:=jN id aW;exact bb j y aA
  |tuple cs c ao _ bb=>
   refine .tuple _ c (by rw[j1,j1];exact ao) λj x aj=>?_
   obtain⟨z,aW,rfl⟩:=jN aX aj;obtain⟨y,aA,rfl⟩:=jN id aW;exact bb j y aA
  |ptr k off c au ar=>
   by_cases an:k=id
   ·simp only[eV,an,if_true]
    exact .top _
   by_cases hE:k=aX
   ·simp only[eV,if_neg an,if_neg (hE ▸ an),hE,if_true]
    exact .top _
   ·simp only[eV,if_neg an,if_neg hE]
    refine .ptr k off c au λt cs bH=>?_;rw[dK _ _ hE];rw[ai k hE an]at bH
    cases ao:aF s.heap k with
    |none=>simp[ao]at bH|some p=>
     cases p with
     |box br cs'=>exact ar br cs' ao|row=>simp[ao,fq]at bH|bW=>simp[ao,fq]at bH
  |eb k off c au ar=>
   by_cases an:k=id
   ·simp only[eV,an,if_true]
    exact .top _
   by_cases hE:k=aX
   ·simp only[eV,if_neg an,if_neg (hE ▸ an),hE,if_true]
    exact .top _
   ·simp only[eV,if_neg an,if_neg hE]
    refine .eb k off c au λt cs bH=>?_;rw[dK _ _ hE];rw[ai k hE an]at bH
    cases ao:aF s.heap k with
    |none=>simp[ao]at bH|some p=>
     cases p with
     |box br cs'=>exact ar br cs' ao|row=>simp[ao,fq]at bH|bW=>simp[ao,fq]at bH
  |du k i off c au ar=>
   by_cases an:k=id
   ·simp only[eV,an,if_true]
    exact .top _
   by_cases hE:k=aX
   ·simp only[eV,if_neg an,if_neg (hE ▸ an),hE,if_true]
    exact .top _
   ·simp only[eV,if_neg an,if_neg hE]
    refine .du k i off c au λz t n es bH=>?_;rw[dK _ _ hE];rw[ai k hE an]at bH
    cases ao:aF s.heap k with
    |none=>simp[ao]at bH|some p=>
     cases p with
     |box br cs'=>simp[ao,fq]at bH|bW=>simp[ao,fq]at bH|row h5 br b0 e2=>
      simp only[ao,zXh,fq,zYt,ey.row.injEq]at bH;obtain⟨rfl,rfl,rfl,rfl⟩:=bH;exact ar _ _ _ _ ao
  |aq k c au ar=>
   by_cases an:k=id
   ·simp only[eV,an,if_true]
    exact .top _
   by_cases hE:k=aX
   ·simp only[eV,if_neg an,if_neg (hE ▸ an),hE,if_true]
    exact .top _
   ·simp only[eV,if_neg an,if_neg hE]
    refine .aq k c au λz t n es bH=>?_;rw[dK _ _ hE];rw[ai k hE an]at bH
    cases ao:aF s.heap k with
    |none=>simp[ao]at bH|some p=>
     cases p with
     |box br cs'=>simp[ao,fq]at bH|bW=>simp[ao,fq]at bH|row h5 br b0 e2=>exact ar _ _ _ _ ao
  |fn f p q c d aa ae _ _ h7 h8=>
   refine .fn f _ _ c d (by rw[j1,j1];exact aa) (by rw[j1,j1];exact ae) (λj x aj=>?_) (λj x aj=>?_)
   ·obtain⟨z,aW,rfl⟩:=jN aX aj
    obtain⟨y,aA,rfl⟩:=jN id aW;exact h7 j y aA
   ·obtain⟨z,aW,rfl⟩:=jN aX aj
    obtain⟨y,aA,rfl⟩:=jN id aW;exact h8 j y aA
  |ref k c au ar=>
   by_cases an:k=id
   ·simp only[eV,an,if_true]
    exact .top _
   by_cases hE:k=aX
   ·simp only[eV,if_neg an,if_neg (hE ▸ an),hE,if_true]
    exact .top _
   ·simp only[eV,if_neg an,if_neg hE]
    refine .ref k c au λbU bH=>?_;rw[dK _ _ hE];rw[ai k hE an]at bH
    cases ao:aF s.heap k with
    |none=>simp[ao]at bH|some p=>
     cases p with
     |box=>simp[ao,fq]at bH|row=>simp[ao,fq]at bH|bW lv=>exact ar lv ao
  |top c=>exact .top c
 have er: ∀k p,k≠aX->aF ((aX,o)::eD aX (eD id s.heap)) k=some p->k≠id/\∃q,aF s.heap k=some q/\p=fq aX (fq id q):=by
  intro k p an bH
  have bT:k≠id:=λh=>by
   subst h;simp[aF,Ne.symm an,tP,an]at bH
  refine⟨bT,?_⟩;rw[ai k an bT]at bH
  cases ao:aF s.heap k with
  |none=>simp[ao]at bH|some q=>simp[ao]at bH;exact⟨q,rfl,bH.symm⟩
 refine⟨h.defers,by simpa[j1]using h.size,λi x hx=>?_,⟨λk p an=>?_,λk bl p ha b an fI ar iK bp e7=>?_,λb ah=>?_,λb ah=>zZw (h.heap.lt b ah) b4⟩,
  h.ix.keep cA λ_ h=>h,?_,h.base⟩
 ·obtain⟨z,aW,rfl⟩:=jN aX hx
  obtain⟨y,aA,rfl⟩:=jN id aW;exact key _ _ (h.slot i y aA)
 ·by_cases bT:k=aX
  ·subst k
   rw[zc]at an;simp only[zYt]at an;subst an;exact eg
  ·obtain⟨jP,q,aB,rfl⟩:=er k p bT an
   have gw:=h.heap.dB k q aB
   have b6:q.live=true->∀b,cF (β k)=some b->w'.heap[b]? =w.heap[b]? :=λau b bp=>
    hw b (gw.jB au bp) λmf=>jP (h.heap.inj k id q _ b aB bq au rfl bp mf)
   cases gw with
   |box t cs b arr aa ae aw aN=>
    refine .box t _ b arr (by rw[dK _ _ bT];exact aa) ((b6 rfl b (by rw[aa];rfl)).trans ae) (by rw[j1,j1];exact aw) λj x aj=>?_
    obtain⟨z,aW,rfl⟩:=jN aX aj;obtain⟨y,aA,rfl⟩:=jN id aW;exact key _ _ (aN j y aA)
   |row t n es xs aa ae aw=>exact .row t n es xs (by rw[dK _ _ bT];exact aa.keep (λb af=>b6 rfl b af) b4) ae λj x aj=>(aw j x aj).keep cA λ_ h=>h
   |gH t n es aa=>exact .gH t n es (by rw[dK _ _ bT];exact aa.keep cA λ_ h=>h)
   |bW bU b o aa ae aw=>exact .bW bU b o (by rw[dK _ _ bT];exact aa) ((b6 rfl b aa).trans ae) (by rw[dK _ _ bT];exact bU.mono _ _ _ _ (λx c h=>h.keep cA λ_ h=>h) aw)
 ·by_cases bT:k=aX
  ·by_cases iL:bl=aX
   ·rw[bT,iL]
   ·subst k
    rw[fl]at bp;rw[dK _ _ iL]at e7;obtain⟨jP,q,aB,rfl⟩:=er bl ha iL fI;rw[lH,lH]at iK;have ae:=(h.heap.dB bl q aB).jB iK e7
    rcases jo b bp with aa|aa
    ·exact absurd (h.heap.inj bl id q _ b aB bq iK rfl e7 aa) jP
    ·omega
  ·obtain⟨jP,q,aB,rfl⟩:=er k p bT an
   rw[lH,lH]at ar;rw[dK _ _ bT]at bp
   by_cases iL:bl=aX
   ·subst bl
    rw[fl]at e7;have ae:=(h.heap.dB k q aB).jB ar bp
    rcases jo b e7 with aa|aa
    ·exact absurd (h.heap.inj k id q _ b aB bq ar rfl bp aa) jP
    ·omega
   ·obtain⟨zjt,jA,zd,rfl⟩:=er bl ha iL fI
    rw[lH,lH]at iK;rw[dK _ _ iL]at e7;exact h.heap.inj k bl q jA b aB zd ar iK bp e7
 ·rintro⟨k,p,an,ar,bp⟩
  by_cases bT:k=aX
  ·subst k
   rw[fl]at bp
   rcases jo b bp with aa|aa
   ·exact h.heap.fy b ah ⟨id,_,bq,rfl,aa⟩
   ·have:=h.heap.lt b ah;omega
  ·obtain⟨jP,q,aB,rfl⟩:=er k p bT an
   rw[lH,lH]at ar;rw[dK _ _ bT]at bp;exact h.heap.fy b ah ⟨k,q,aB,ar,bp⟩
 ·have t:=h.trans
  refine⟨sf.trans t.os,sg.trans t.tape,jD.trans t.output,zZx t.size b4,λb k5 hI=>?_,t.h9,t.hp,?_,λk an p bH=>?_,λk p bH=>?_,t.le⟩
  ·by_cases mf:cF (β id)=some b
   ·rcases t.gG b ⟨id,_,bq,rfl,mf⟩with hc|hc
    ·exact absurd hc hI
    ·omega
   ·rw[hw b (zZw k5 t.size) mf]
    exact t.frame b k5 hI
  ·rintro b ⟨k,p,an,ar,bp⟩
   by_cases bT:k=aX
   ·subst k
    rw[fl]at bp
    rcases jo b bp with aa|aa
    ·exact t.gG b ⟨id,_,bq,rfl,aa⟩
    ·exact .inr (zZx t.size aa)
   ·obtain⟨jP,q,aB,rfl⟩:=er k p bT an
    rw[lH,lH]at ar;rw[dK _ _ bT]at bp;exact t.gG b ⟨k,q,aB,ar,bp⟩
  ·have bT:k≠aX:=by have:=h.base;omega
   obtain⟨jP,q,aB,rfl⟩:=er k p bT bH;rw[dK _ _ bT];exact t.er k an q aB
  ·by_cases bT:k=aX
   ·subst k;exact bR
   ·obtain⟨jP,q,aB,rfl⟩:=er k p bT bH
    exact t.new k q aB
end
section
variable {P:Program} {G:aV} {o:Oper} {s:aS}
theorem TN(x y:Operand)(t:TypeId)(av:o.op= .call {callee:=.builtin .append,args:=#[x,y],argTypes:=#[t,t]}){e n bytes:Nat}(aJ:rW P t=some (e,n,bytes))
 {id:Nat}(hx:aR G s x= .aq id){es:List (List a7)}(bq:aF s.heap id=some (.row false e n es))(af:s.base<=s.next)
 {fs:List (List a7)}(aA:iQ s.heap n (aR G s y)=some fs)(b4:es.length+fs.length<=maxLen/\(es.length+fs.length)*bytes<=140737488355328):
 eL P G o s (aS.put ⟨ff id s.dn,(s.next,.row false e n (es++fs))::eD id s.heap,s.next+1,s.base⟩ o.dst (.aq s.next)):=by
 intro E a w ⟨β,ro,ah⟩ K Q hK;obtain⟨i,z,hu,hi,aW,iF,kH,jk,hn⟩:=tD aJ;obtain⟨b,cap,hc,ow,rZ,f,kz,r0⟩:=AN ah.heap (ah.eval y) aA;have eg:=ah.heap.dB id _ bq
 cases eg with
 |row _ _ _ xs ea b6 fW=>
  have mN:a.eval x=β id:=by
   have h:=ah.eval x;rw[hx]at h;generalize a.eval x=c at h
   cases h with
   |aq _ _ _ ar=>exact ar _ _ _ _ bq
  obtain⟨qM,tw,tx⟩:=DM ow r0
  obtain⟨bC,w',cE,sl,dX,bp⟩:=N5 (P:=P) t o.type e hu hi aW iF kH jk hn ea (b:=b) (m:=fs.length) (cap:=cap) qM (λaf=>by rw[rZ af];rfl)
   (λbo ba j u aj=>by
    have dv:=(zZ1.1 aj).1;rw[qM]at dv;have aa:=kz bo ba j dv;simp[dv]at aj
    rw[aa,aj]) tw b4.1 b4.2
  unfold Oper.wp;simp only[execOp,av,resolve,invoke,builtin,Sem.run_bind,Sem.run_pure,Result.andThen_ok,zXr,zXq,zXp,mN,hc,cE];have lG: ∀k,k<w.heap.size->cF (β id)≠some k->w'.heap[k]? =w.heap[k]? :=λk an b6=>dX.block k an (λe=>b6 e.symm);have cA: ∀k,ro k->w'.heap[k]? =w.heap[k]? :=λk an=>lG k (ah.heap.lt k an) λbp=>ah.heap.fy k an ⟨id,_,bq,rfl,bp⟩;refine hK _ _ ⟨jC β s.next bC,ro,dy.put (ah.Yj (w':=w') id af bq (.row false e n (es++fs)) bC dX.os dX.tape dX.output dX.size lG bp rfl ?_) o.dst _ _ ?_⟩
  ·refine .row e n _ _ (by rw[fl,zVu];exact sl) (λaD jq=>?_) (λj x aj=>?_)
   ·rw[zVs]at jq
    rcases jq with h|h
    ·exact b6 _ h
    ·exact ow _ h
   ·exact(Jg b6 ea.1 fW tx j x aj).keep cA λ_ h=>h
  ·exact .aq _ _ (zYi _) λz br b0 e2 _=>(fl _ _ _).symm
theorem TL(x y:Operand)(t u:TypeId)(av:o.op= .call {callee:=.builtin .append,args:=#[x,y],argTypes:=#[t,u]}){e:TypeId}(aJ:yi P t u=some e)
 {id:Nat}(hx:aR G s x= .aq id){es:List (List a7)}(bq:aF s.heap id=some (.row false e 1 es))(af:s.base<=s.next)
 {b:ByteArray}(aA:aR G s y= .ad (.v (.string b)))(b4:es.length+b.size<=maxLen/\es.length+b.size<=140737488355328):
 eL P G o s (aS.put ⟨ff id s.dn,(s.next,.row false e 1 (es++(fC b).map λz=>[a7.v (.int .u8 z)]))::eD id s.heap,s.next+1,s.base⟩ o.dst (.aq s.next)):=by
 intro E a w ⟨β,ro,ah⟩ K Q hK;obtain⟨i,hu,ao,hi,aW,iF,kH⟩:=Pv aJ;have eg:=ah.heap.dB id _ bq
 cases eg with
 |row _ _ _ xs ea b6 fW=>
  have mN:a.eval x=β id:=by
   have h:=ah.eval x;rw[hx]at h;generalize a.eval x=c at h
   cases h with
   |aq _ _ _ ar=>exact ar _ _ _ _ bq
  obtain⟨bC,w',cE,sl,dX,bp⟩:=Ps (P:=P) t u o.type e hu ao hi aW iF kH ea b b4.1 b4.2;obtain⟨dp,dP⟩:=Pu (w:=w) (ro:=ro) b;unfold Oper.wp;simp only[execOp,av,resolve,invoke,builtin,Sem.run_bind,Sem.run_pure,Result.andThen_ok,zXr,zXq,zXp,mN,ah.ef aA,cE];have lG: ∀k,k<w.heap.size->cF (β id)≠some k->w'.heap[k]? =w.heap[k]? :=λk an b6=>dX.block k an (λe=>b6 e.symm);have cA: ∀k,ro k->w'.heap[k]? =w.heap[k]? :=λk an=>lG k (ah.heap.lt k an) λbp=>ah.heap.fy k an ⟨id,_,bq,rfl,bp⟩;refine hK _ _ ⟨jC β s.next bC,ro,dy.put (ah.Yj (w':=w') id af bq (.row false e 1 (es++(fC b).map λz=>[a7.v (.int .u8 z)])) bC dX.os dX.tape dX.output dX.size lG bp rfl ?_) o.dst _ _ ?_⟩
  ·refine .row e 1 _ _ (by rw[fl,zVu,dp];exact sl) (λaD jq=>?_) (λj x aj=>?_)
   ·rw[zVs]at jq
    rcases jq with h|h
    ·exact b6 _ h
    ·obtain⟨z,_,rfl⟩:=zXs.1 h
     rfl
   ·exact(Jg b6 ea.1 fW dP j x aj).keep cA λ_ h=>h
  ·exact .aq _ _ (zYi _) λz br b0 e2 _=>(fl _ _ _).symm
end
section
theorem b5.zju{s s':aS}(id off m k iN n:Nat){t:TypeId}{cs:List aC}{es:List (List a7)}(bq:aF s.heap id=some (.box t cs))(hm:aF s.heap m=some (.row false iN n es))(hc:cs[off]? =some (.aq m))(af:s.base<=k)(bR:k<s.next)(Pw:id≠k)
 (h:(⟨ff k (ff m s.dn),eX ((k,.row false iN n es)::eD k (eD m s.heap)) id (.box t ((ff k (ff m cs)).set off (.aq k))),s.next,s.base⟩:aS)=s'):b5 s s':=by
 subst h;intro E G a w ⟨β,ro,ah⟩;have zjv:id≠m:=λh=>by rw[h,hm]at bq;cases bq
 have Px:=ah.heap.dB m _ hm
 have gS:=ah.Yk (w':=w) m k af bR hm (.row false iN n es) (β m) rfl rfl rfl (zZv _) (λ_ _ _=>rfl) (λ_ af=>.inl af) rfl (by
  cases Px with
  |row _ _ _ xs aa ae aw=>exact .row iN n es xs (by rw[fl];exact aa) ae aw)
 have zm:aF ((k,.row false iN n es)::eD k (eD m s.heap)) id=some (.box t (ff k (ff m cs))):=by
  simp only[aF,if_neg (Ne.symm Pw),tP,if_neg Pw,if_neg zjv,bq,zXh,fq]
 have eg:=gS.heap.dB id _ zm;have zjw:=ah.heap.dB id _ bq
 cases zjw with
 |box _ _ oa Py g1 g2 g3 g4=>
  cases eg with
  |box _ _ b arr aa ae aw aN=>
   have uU:=aa;rw[dK _ _ Pw,g1]at uU;have zjx:oa=b:=by simpa using uU
   subst zjx
   have vE:Py=arr:=by
    have:=g2.symm.trans ae;simpa using this
   subst vE;refine⟨_,ro,gS.write id _ _ zm rfl rfl (.inl ⟨_,_,_,rfl,rfl⟩) rfl rfl rfl (zZv _) (λ_ _ _=>rfl) (.box t _ oa Py aa ae (by rw[aw,zVv]) λj x aj=>?_)⟩
   rw[zX3]at aj
   split at aj
   ·rename_i aE
    subst aE
    split at aj
    ·simp only[zYt]at aj
     subst aj;have az:=g4 off _ hc;generalize Py.getD off undef=aT at az⊢
     cases az with
     |aq _ _ _ ar=>
      refine .aq _ _ bR λz br b0 e2 _=>?_;rw[ar _ _ _ _ hm];exact(fl _ _ _).symm
    ·cases aj
   ·exact NJ zm (aN j x aj) λ_ _=>rfl
end
end Go.aH
