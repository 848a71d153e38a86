/- Conditions: none. -/
import Derived.Test.YtddeffoppnlafaaGreatJST0
import Derived.Laws.StructEq
import Derived.ChangeKeysEq
open Array renaming getD_eq_getD_getElem?->zYf,getElem?_eq_some_iff->zYu,length_toList->zYg
open Bool renaming not_eq_true->zYa,or_eq_true->zZg
open List renaming all_eq_true->zZ2,flatten_cons->zYs,getD->zZ8,getElem?_append_left->zYr,getElem?_append_right->zYq,getElem?_drop->zYn,getElem?_eq_getElem->zZa,getElem?_eq_none->zYl,getElem?_eq_some_iff->zZ1,getElem?_map->zYo,getElem?_take->zYk,mem_of_getElem?->zZ4,range->zYj,size_toArray->zZc,take->zYc,take_append->zYe,take_of_length_le->zYd
open Nat renaming add_assoc->zYw,add_zero->zYh,le_refl->zZv,le_trans->zZx,lt_of_lt_of_le->zZw,lt_or_ge->zYm,lt_succ_self->zYi,mul_le_mul_right->zYb,succ_mul->zYp,zero_add->zZ0
open Ne renaming symm->zYv
open Option.some renaming injEq->zYt
namespace Go.aH
open Go
theorem w8(a:Addr)(n:Nat):(a.add n).block=a.block:=by unfold Addr.add;split<;>rfl
theorem Bm(a:Addr)(i j:Nat):(a.add i).add j=a.add (i+j):=by
 unfold Addr.add
 by_cases hi:i=0<;>by_cases aj:j=0<;>simp[hi,aj,zYw]
theorem addLit(b o n:Nat):(⟨b,o,none⟩:Addr).add n=⟨b,o+n,none⟩:=by
 unfold Addr.add;split
 ·rename_i h;subst h;rfl
 ·rfl
inductive aC where
 |ad (x:a7)
 |agg (cs:List aC)
 |tuple (cs:List aC)
 |ptr (id off:Nat)
 |du (id i off:Nat)
 |aq (id:Nat)
 |fn (f:Fn) (first captured:List aC)
 |ref (id:Nat)
 |eb (id n:Nat)
 |top
def Wa(agg:Bool)(n:Nat)(v:Value)(p:Nat->Value):Prop:=
 match agg with
 |true=>∃c:Array Value,v= .agg c/\c.size=n/\∀i,i<n->c.getD i undef=p i|false=>n=1/\v=p 0
inductive dq (w:World) (ro:Nat->Prop):a7->Value->Prop where
 |v (x:Value):x.oneCell'=true->dq w ro (.v x) x
 |ptr (cs:List a7) (a:Addr) (c:Nat->Value):(∀j x,cs[j]? =some x->ro a.block/\w.cell? (a.add j)=some (c j))->
  (∀j x,cs[j]? =some x->dq w ro x (c j))->dq w ro (.ptr cs) (.pointer (some a))
 |aq (n:Nat) (es:List (List a7)) (b:Option Addr) (cap:Nat) (c:Nat->Value):es.length<=cap->cap<=maxLen->(∀e∈es,e.length=n)->
  (0<es.length->∃a,b=some a/\∀j,j<es.length*n->ro a.block/\w.cell? (a.add j)=some (c j))->
  (∀j x,es.flatten[j]? =some x->dq w ro x (c j))->dq w ro (.aq n es) (.slice b es.length cap)
 |mp (agg:Bool) (ks:List Value) (vs:List (List a7)) (r:Nat) (es:Array MapEntry) (clock:Nat) (p:Nat->Nat->Value):ro r->w.heap[r]? =some (.map es clock)->es.size=ks.length->vs.length=ks.length->ks.Nodup->
  (∀j k cs,ks[j]? =some k->vs[j]? =some cs->∃e:MapEntry,es[j]? =some e/\e.key=k/\Wa agg cs.length e.val (p j))->
  (∀j cs i x,vs[j]? =some cs->cs[i]? =some x->dq w ro x (p j i))->dq w ro (.mp agg ks vs) (.map (some r))
 |li (i:bZ) (l:List (hY i)) (c:Value):dq w ro (.aq (dE i) (l.map (dr i))) c->dq w ro (.li i l) c
 |eE (t:TypeId) (agg:Bool) (cs:List a7) (v:Value) (p:Nat->Value):Wa agg cs.length v p->(∀i x,cs[i]? =some x->dq w ro x (p i))->dq w ro (.eE t agg cs) (.iface t v)
theorem dq.one{w:World}{ro:Nat->Prop}{x:a7}{c:Value}(h:dq w ro x c):c.oneCell'=true:=by
 induction h with
 |v x hx=>exact hx|ptr=>rfl|aq=>rfl|mp=>rfl|li i l c h bb=>exact bb|eE=>rfl
theorem dq.keep{w w':World}{ro ro':Nat->Prop}{x:a7}{c:Value}(h:dq w ro x c)
 (hw: ∀b,ro b->w'.heap[b]? =w.heap[b]?)(cA: ∀b,ro b->ro' b):dq w' ro' x c:=by
 induction h with
 |v x hx=>exact .v x hx|ptr cs a c aa _ bb=>
  exact .ptr cs a c (λj x aj=>⟨cA _ (aa j x aj).1,by
   rw[World.cell?_of_block (w:=w) (by rw[w8];exact hw _ (aa j x aj).1)];exact(aa j x aj).2⟩) bb
 |aq n es b cap c aa ae aw aN _ bb=>
  refine .aq n es b cap c aa ae aw (λar=>?_) bb;obtain⟨a,af,hc⟩:=aN ar
  exact⟨a,af,λj aj=>⟨cA _ (hc j aj).1,by
   rw[World.cell?_of_block (w:=w) (by rw[w8];exact hw _ (hc j aj).1)];exact(hc j aj).2⟩⟩
 |mp agg ks vs r es clock p aa ae aw aN bx cB _ bb=>exact .mp agg ks vs r es clock p (cA _ aa) ((hw _ aa).trans ae) aw aN bx cB bb|li i l c _ bb=>exact .li i l c bb|eE t agg cs v p aa _ bb=>exact .eE t agg cs v p aa bb
def cF:Value->Option Nat
 | .pointer (some a)=>some a.block| .slice (some a) _ cap=>if cap=0 then none else some a.block
 | .map (some r)=>some r|_=>none
structure Bn where
 holds:(a7->Value->Prop)->Value->Obj->Prop
 mono: ∀(R q1:a7->Value->Prop) v o,(∀x c,R x c->q1 x c)->holds R v o->holds q1 v o
 view:Option a7
 Wb: ∀ad,view=some ad->∀(w:World) (ro ro':Nat->Prop) (v:Value) (o:Obj) (b:Nat),holds (dq w ro) v o->cF v=some b->w.heap[b]? =some o->(∀x,ro x->ro' x)->ro' b->dq w ro' ad v
inductive ey where
 |box (t:TypeId) (cs:List aC)
 |row (uM:Bool) (t:TypeId) (n:Nat) (es:List (List a7))
 |bW (bU:Bn)
def ey.live:ey->Bool
 | .box _ _=>true| .row uM _ _ _=>!uM| .bW _=>true
abbrev bK:=List (Nat × ey)
def aF:bK->Nat->Option ey
 |[],_=>none|(k,o)::r,id=>if k=id then some o else aF r id
def eX:bK->Nat->ey->bK
 |[],id,o=>[(id,o)]|(k,x)::r,id,o=>if k=id then(k,o)::r else(k,x)::eX r id o
def hM:bK->Nat->bK
 |[],_=>[]|(k,x)::r,id=>if k=id then hM r id else(k,x)::hM r id
theorem wG(h:bK)(id:Nat)(o:ey)(k:Nat):aF (eX h id o) k=if id=k then some o else aF h k:=by
 induction h with
 |nil=>simp[eX,aF]|cons p r bb=>
  obtain⟨j,x⟩:=p
  by_cases aj:j=id
  ·subst aj
   by_cases an:j=k<;>simp[eX,aF,an]
  ·by_cases an:j=k
   ·subst an
    simp[eX,aF,aj,zYv aj]
   ·simp[eX,aF,aj,an,bb]
theorem ED(h:bK)(id k:Nat):aF (hM h id) k=if id=k then none else aF h k:=by
 induction h with
 |nil=>simp[hM,aF]|cons p r bb=>
  obtain⟨j,x⟩:=p
  by_cases aj:j=id
  ·subst aj
   by_cases an:j=k
   ·subst an;simp[hM,bb]
   ·simp[hM,aF,an,bb]
  ·by_cases an:j=k
   ·subst an
    simp[hM,aF,aj,zYv aj]
   ·simp[hM,aF,aj,an,bb]
def l2(w:World)(t:TypeId)(n:Nat)(v:Value)(len:Nat)(xs:List Value):Prop:=
 xs.length=len*n/\(((∃b,v= .slice b 0 0/\∀a,b=some a->a.block<w.heap.size)/\len=0)\/
  ∃g cap cur,v= .slice (some ⟨g,0,none⟩) len cap/\0<cap/\w.heap[g]? =some (.cells cur t (0,0))/\len<=cap/\cap<=maxLen/\cur.size=cap*n/\cur.toList.take (len*n)=xs)
inductive bN (w:World) (ro:Nat->Prop) (σ:bK) (β:Nat->Value) (N:Nat):aC->Value->Prop where
 |ad (x:a7) (c:Value):dq w ro x c->bN w ro σ β N (.ad x) c
 |agg (cs:List aC) (c:Array Value):c.size=cs.length->(∀j x,cs[j]? =some x->bN w ro σ β N x (c.getD j undef))->bN w ro σ β N (.agg cs) (.agg c)
 |tuple (cs:List aC) (c:Array Value):c.size=cs.length->(∀j x,cs[j]? =some x->bN w ro σ β N x (c.getD j undef))->bN w ro σ β N (.tuple cs) (.tuple c)
 |ptr (id off:Nat) (c:Value):id<N->(∀t cs,aF σ id=some (.box t cs)->∃b,β id= .pointer (some ⟨b,0,none⟩)/\c= .pointer (some ⟨b,off,none⟩))->bN w ro σ β N (.ptr id off) c
 |eb (id n:Nat) (c:Value):id<N->(∀t cs,aF σ id=some (.box t cs)->∃b,β id= .pointer (some ⟨b,0,none⟩)/\c= .slice (some ⟨b,0,none⟩) n n)->bN w ro σ β N (.eb id n) c
 |du (id i off:Nat) (c:Value):id<N->(∀z t n es,aF σ id=some (.row z t n es)->∃b l h6,β id= .slice (some ⟨b,0,none⟩) l h6/\c= .pointer (some ⟨b,i*n+off,none⟩))->bN w ro σ β N (.du id i off) c
 |aq (id:Nat) (c:Value):id<N->(∀z t n es,aF σ id=some (.row z t n es)->c=β id)->bN w ro σ β N (.aq id) c
 |fn (f:Fn) (p q:List aC) (c d:Array Value):c.size=p.length->d.size=q.length->(∀j x,p[j]? =some x->bN w ro σ β N x (c.getD j undef))->
  (∀j x,q[j]? =some x->bN w ro σ β N x (d.getD j undef))->bN w ro σ β N (.fn f p q) (.func f c d)
 |ref (id:Nat) (c:Value):id<N->(∀bU,aF σ id=some (.bW bU)->c=β id)->bN w ro σ β N (.ref id) c
 |top (c:Value):bN w ro σ β N .top c
inductive oM (w:World) (ro:Nat->Prop) (σ:bK) (β:Nat->Value) (N:Nat) (id:Nat):ey->Prop where
 |box (t:TypeId) (cs:List aC) (b:Nat) (arr:Array Value):β id= .pointer (some ⟨b,0,none⟩)->w.heap[b]? =some (.cells arr t (0,0))->arr.size=cs.length->
  (∀j x,cs[j]? =some x->bN w ro σ β N x (arr.getD j undef))->oM w ro σ β N id (.box t cs)
 |row (t:TypeId) (n:Nat) (es:List (List a7)) (xs:List Value):l2 w t n (β id) es.length xs->(∀e∈es,e.length=n)->
  (∀j x,es.flatten[j]? =some x->dq w ro x (xs.getD j undef))->oM w ro σ β N id (.row false t n es)
 |gH (t:TypeId) (n:Nat) (es:List (List a7)):dq w ro (.aq n es) (β id)->oM w ro σ β N id (.row true t n es)
 |bW (bU:Bn) (b:Nat) (o:Obj):cF (β id)=some b->w.heap[b]? =some o->bU.holds (dq w ro) (β id) o->oM w ro σ β N id (.bW bU)
theorem l2.jB{w:World}{t:TypeId}{n:Nat}{v:Value}{len:Nat}{xs:List Value}(h:l2 w t n v len xs){b:Nat}(af:cF v=some b):
 b<w.heap.size/\∃cap cur,v= .slice (some ⟨b,0,none⟩) len cap/\w.heap[b]? =some (.cells cur t (0,0)):=by
 rcases h.2 with⟨⟨c,rfl,_⟩,_⟩|⟨g,cap,cur,rfl,hc,ai,_⟩
 ·cases c<;>simp[cF]at af
 ·have:cap≠0:=by omega
  simp[cF,this]at af;subst af;exact⟨(zYu.1 ai).1,cap,cur,rfl,ai⟩
theorem l2.keep{w w':World}{t:TypeId}{n:Nat}{v:Value}{len:Nat}{xs:List Value}(h:l2 w t n v len xs)(hw: ∀b,cF v=some b->w'.heap[b]? =w.heap[b]?)(b4:w.heap.size<=w'.heap.size):l2 w' t n v len xs:=by
 refine⟨h.1,?_⟩
 rcases h.2 with⟨⟨b,az,af⟩,au⟩|⟨g,cap,cur,az,hc,ai,rest⟩
 ·exact .inl ⟨⟨b,az,λa ba=>zZw (af a ba) b4⟩,au⟩
 ·have:cap≠0:=by omega
  exact .inr ⟨g,cap,cur,az,hc,(hw g (by rw[az];simp[cF,this])).trans ai,rest⟩
theorem oM.jB{w:World}{ro:Nat->Prop}{σ:bK}{β:Nat->Value}{N id:Nat}{o:ey}(h:oM w ro σ β N id o)(au:o.live=true){b:Nat}(af:cF (β id)=some b):b<w.heap.size:=by
 cases h with
 |box t cs hL arr aa ae=>rw[aa]at af;simp[cF]at af;subst af;exact(zYu.1 ae).1|row t n es xs aa=>exact(aa.jB af).1|gH=>simp[ey.live]at au|bW bU hL o aa ae=>rw[aa]at af;simp only[zYt]at af;subst af;exact(zYu.1 ae).1
def Own(σ:bK)(β:Nat->Value)(b:Nat):Prop:=∃id o,aF σ id=some o/\o.live=true/\cF (β id)=some b
structure hA (w:World) (ro:Nat->Prop) (σ:bK) (β:Nat->Value) (N:Nat):Prop where
 dB: ∀id o,aF σ id=some o->oM w ro σ β N id o
 inj: ∀id jn o ct b,aF σ id=some o->aF σ jn=some ct->o.live=true->ct.live=true->cF (β id)=some b->cF (β jn)=some b->id=jn
 fy: ∀b,ro b->¬Own σ β b
 lt: ∀b,ro b->b<w.heap.size
abbrev aV:=Nat->Option (List a7)
def qI(w:World)(ro:Nat->Prop)(G:aV):Prop:=∀g cs,G g=some cs->dq w ro (.ptr cs) (.pointer (some ⟨g,0,none⟩))/\ro g/\∃arr t I1,w.heap[g]? =some (.cells arr t I1)/\arr.size=cs.length
structure Entry where
 w:World
 ro:Nat->Prop
 σ:bK
 β:Nat->Value
 n:Nat
 d:List Deferred
structure Trans (E:Entry) (w:World) (ro:Nat->Prop) (σ:bK) (β:Nat->Value) (n:Nat):Prop where
 os:w.os=E.w.os
 tape:w.tape=E.w.tape
 output:w.output=E.w.output
 size:E.w.heap.size<=w.heap.size
 frame: ∀b,b<E.w.heap.size->¬Own E.σ E.β b->w.heap[b]? =E.w.heap[b]?
 h9: ∀b,ro b->E.ro b\/Own E.σ E.β b\/E.w.heap.size<=b
 hp: ∀b,E.ro b->ro b
 gG: ∀b,Own σ β b->Own E.σ E.β b\/E.w.heap.size<=b
 er: ∀id,id<E.n->∀o,aF σ id=some o->aF E.σ id≠none/\β id=E.β id
 new: ∀id o,aF σ id=some o->id<n
 le:E.n<=n
structure aS where
 dn:List aC
 heap:bK
 next:Nat
 base:Nat
structure dy (E:Entry) (G:aV) (s:aS) (a:Act) (w:World) (β:Nat->Value) (ro:Nat->Prop):Prop where
 defers:a.defers=E.d
 size:a.tmps.size=s.dn.length
 slot: ∀i x,s.dn[i]? =some x->bN w ro s.heap β s.next x (a.tmps.getD i undef)
 heap:hA w ro s.heap β s.next
 ix:qI w ro G
 trans:Trans E w ro s.heap β s.next
 base:E.n<=s.base
def Rel(E:Entry)(G:aV)(s:aS)(a:Act)(w:World):Prop:=∃β ro,dy E G s a w β ro
theorem bN.keep{w w':World}{ro ro':Nat->Prop}{σ cZ:bK}{β cS:Nat->Value}{N oq:Nat}{x:aC}{c:Value}(h:bN w ro σ β N x c)
 (hw: ∀b,ro b->w'.heap[b]? =w.heap[b]?)(cA: ∀b,ro b->ro' b)(m5:N<=oq)
 (ot: ∀id t cs,aF cZ id=some (.box t cs)->cS id=β id/\∃t cs,aF σ id=some (.box t cs))
 (ea: ∀id z t n es,aF cZ id=some (.row z t n es)->cS id=β id/\∃z t es,aF σ id=some (.row z t n es))
 (o5: ∀id bU,aF cZ id=some (.bW bU)->cS id=β id/\∃bU,aF σ id=some (.bW bU)):bN w' ro' cZ cS oq x c:=by
 induction h with
 |ad x c hx=>exact .ad x c (hx.keep hw cA)|agg cs c ao _ bb=>exact .agg cs c ao bb|tuple cs c ao _ bb=>exact .tuple cs c ao bb|ptr id off c au ar=>
  refine .ptr id off c (by omega) λt cs ai=>?_
  obtain⟨af,br,cs',ee⟩:=ot id t cs ai;obtain⟨b,aa,ae⟩:=ar br cs' ee;exact⟨b,af.trans aa,ae⟩
 |eb id off c au ar=>
  refine .eb id off c (by omega) λt cs ai=>?_
  obtain⟨af,br,cs',ee⟩:=ot id t cs ai;obtain⟨b,aa,ae⟩:=ar br cs' ee;exact⟨b,af.trans aa,ae⟩
 |du id i off c au ar=>
  refine .du id i off c (by omega) λz t n es ai=>?_
  obtain⟨af,h5,br,e2,ee⟩:=ea id z t n es ai;obtain⟨b,l,h6,aa,ae⟩:=ar h5 br n e2 ee;exact⟨b,l,h6,af.trans aa,ae⟩
 |aq id c au ar=>
  refine .aq id c (by omega) λz t n es ai=>?_
  obtain⟨af,h5,br,e2,ee⟩:=ea id z t n es ai;rw[af];exact ar h5 br n e2 ee
 |fn f p q c d aa ae _ _ h7 h8=>exact .fn f p q c d aa ae h7 h8|ref id c au ar=>
  refine .ref id c (by omega) λbU ai=>?_
  obtain⟨af,lv,ee⟩:=o5 id bU ai;rw[af];exact ar lv ee
 |top c=>exact .top c
theorem qI.keep{w w':World}{ro ro':Nat->Prop}{G:aV}(h:qI w ro G)
 (hw: ∀b,ro b->w'.heap[b]? =w.heap[b]?)(cA: ∀b,ro b->ro' b):qI w' ro' G:=λg cs ai=>by
 obtain⟨aa,ae,arr,t,I1,aw,aN⟩:=h g cs ai;exact⟨aa.keep hw cA,cA g ae,arr,t,I1,(hw g ae).trans aw,aN⟩
def aS.put(s:aS)(dst:Option Nat)(v:aC):aS:=
 match dst with
 |some d=>{s with dn:=s.dn.set d v}|none=>s
theorem dy.put{E:Entry}{G:aV}{s:aS}{a:Act}{w:World}{β:Nat->Value}{ro:Nat->Prop}(h:dy E G s a w β ro)(dst:Option Nat)(v:aC)(c:Value)
 (az:bN w ro s.heap β s.next v c):dy E G (s.put dst v) (a.put dst c) w β ro:=by
 cases dst with
 |none=>exact h|some d=>
  refine⟨h.defers,by simpa[Act.put,aS.put]using h.size,λi x hx=>?_,h.heap,h.ix,h.trans,h.base⟩
  simp only[aS.put,Act.put]at hx⊢;rw[List.getElem?_set]at hx;have b4:=h.size
  by_cases NH:d=i
  ·subst NH
   simp only[if_true]at hx
   split at hx
   ·rename_i bR
    simp only[zYt]at hx;subst hx;have:d<a.tmps.size:=by omega
    simpa[this]using az
   ·cases hx
  ·simp only[NH,if_false]at hx
   have:=h.slot i x hx;simpa[Array.getElem?_setIfInBounds_ne NH]using this
end Go.aH
namespace Go.aH
open Go
def aR(G:aV)(s:aS):Operand->aC
 | .tmp t=>s.dn.getD t .top| .const v=>if v.oneCell' then .ad (.v v)else .top
 | .global g=>match G g with
  |some cs=>.ad (.ptr cs)|none=>.top
 | .func f=>.fn (.func f) [] []
theorem dy.eval{E:Entry}{G:aV}{s:aS}{a:Act}{w:World}{β:Nat->Value}{ro:Nat->Prop}(h:dy E G s a w β ro)(x:Operand):
 bN w ro s.heap β s.next (aR G s x) (a.eval x):=by
 cases x with
 |tmp t=>
  simp only[aR,Act.eval]
  cases aJ:s.dn[t]? with
  |none=>simp only[zZ8,aJ];exact .top _|some v=>simp only[zZ8,aJ];exact h.slot t v aJ
 |const v=>
  simp only[aR,Act.eval]
  split
  ·exact .ad _ _ (.v _ (by assumption))
  ·exact .top _
 |global g=>
  simp only[aR,Act.eval]
  split
  ·exact .ad _ _ (h.ix g _ (by assumption)).1
  ·exact .top _
 |func f=>exact .fn _ _ _ _ _ rfl rfl (by simp) (by simp)
def eL(P:Program)(G:aV)(o:Oper)(s s':aS):Prop:=
 ∀E a w,Rel E G s a w->∀(K:Act->World->Prop) (Q:Exit->Act->World->Prop),(∀bo w',Rel E G s' bo w'->K bo w')->o.wp P a w K Q
def gR(w w':World):Prop:=∀b,b<w.heap.size->w'.heap[b]? =w.heap[b]?
def pb(P:Program)(G:aV)(o:Oper)(s s':aS):Prop:=
 ∀E a w,Rel E G s a w->∀(K:Act->World->Prop) (Q:Exit->Act->World->Prop),(∀bo w',Rel E G s' bo w'->gR w w'->K bo w')->o.wp P a w K Q
theorem pb.op{P:Program}{G:aV}{o:Oper}{s s':aS}(h:pb P G o s s'):eL P G o s s':=λE a w ah K Q hK=>h E a w ah K Q λbo w' dW _=>hK bo w' dW
section
variable {P:Program} {G:aV} {o:Oper} {s:aS}
theorem eL.value{v:aC}(h: ∀E a w β ro,dy E G s a w β ro->∃c,(execOp a.eval o).run P w= .ok (.value c) w/\bN w ro s.heap β s.next v c):
 eL P G o s (s.put o.dst v):=by
 intro E a w ⟨β,ro,ah⟩ K Q hK;obtain⟨c,cE,az⟩:=h E a w β ro ah;unfold Oper.wp;rw[cE];exact hK _ _ ⟨β,ro,ah.put o.dst v c az⟩
abbrev c8(P:Program)(G:aV)(o:Oper)(s:aS)(v:aC):Prop:=
 ∀E a w β ro,dy E G s a w β ro->∃c,(execOp a.eval o).run P w= .ok (.value c) w/\bN w ro s.heap β s.next v c
theorem c8.step{v:aC}(h:c8 P G o s v):eL P G o s (s.put o.dst v):=.value h
theorem c8.MA{v:aC}(h:c8 P G o s v):pb P G o s (s.put o.dst v):=by
 intro E a w ⟨β,ro,ah⟩ K Q hK;obtain⟨c,cE,az⟩:=h E a w β ro ah;unfold Oper.wp;rw[cE];exact hK _ _ ⟨β,ro,ah.put o.dst v c az⟩ λ_ _=>rfl
theorem Wc(x:Operand)(av:o.op= .move x):c8 P G o s (aR G s x):=
 λ_ a w _ _ ah=>⟨a.eval x,by simp[execOp,av],ah.eval x⟩
theorem Wd(x:Operand)(av:o.op= .assign x):c8 P G o s (aR G s x):=
 λ_ a w _ _ ah=>⟨a.eval x,by simp[execOp,av],ah.eval x⟩
def gj(σ:bK):aC->Option (List aC)
 | .ad (.ptr cs)=>some (cs.map .ad)| .ptr id off=>match aF σ id with
  |some (.box _ cs)=>some (cs.drop off)|_=>none
 | .du id i off=>match aF σ id with
  |some (.row false _ _ es)=>match es[i]? with
   |some e=>some ((e.drop off).map .ad)|none=>none
  |_=>none
 |_=>none
theorem q2{α:Type}{n:Nat}: ∀{es:List (List α)},(∀e∈es,e.length=n)->∀{i:Nat} {e:List α},es[i]? =some e->∀j,j<n->es.flatten[i*n+j]? =e[j]?
 |[],_,i,e,h,_,_=>by simp at h|x::r,hn,i,e,h,j,aj=>by
  have hx:x.length=n:=hn x (by simp)
  cases i with
  |zero=>
   simp at h;subst h;simp only[zYs,Nat.zero_mul,zZ0];rw[zYr (by omega)]
  |succ i=>
   simp at h;have bb:=q2 (es:=r) (λe he=>hn e (by simp[he])) h j aj
   simp only[zYs];rw[zYq (by rw[zYp];omega),<-bb]
   congr 1
   rw[zYp];omega
theorem jZ{α:Type}{n:Nat}: ∀{es:List (List α)},(∀e∈es,e.length=n)->es.flatten.length=es.length*n
 |[],_=>by simp|x::r,hn=>by
  simp only[zYs,List.length_append,List.length_cons,zYp];rw[jZ (es:=r) (λe he=>hn e (by simp[he])),hn x (by simp)]
  omega
theorem bN.one{w:World}{ro:Nat->Prop}{σ:bK}{β:Nat->Value}{N:Nat}{x:a7}{c:Value}(h:bN w ro σ β N (.ad x) c):c.oneCell'=true:=by
 cases h with
 |ad _ _ h=>exact h.one
theorem Bo{w:World}{ro:Nat->Prop}{σ:bK}{β:Nat->Value}{N:Nat}(a8:hA w ro σ β N){p:aC}{c:Value}{cs:List aC}(ar:gj σ p=some cs)(hc:bN w ro σ β N p c)
 (b6:cs≠[]): ∃a,c= .pointer (some a)/\∃f:Nat->Value,∀j x,cs[j]? =some x->w.cell? (a.add j)=some (f j)/\bN w ro σ β N x (f j):=by
 cases hc with
 |ad x c hx=>
  cases hx with
  |v x=>simp[gj]at ar|ptr cs' a f aa ae=>
   simp only[gj,zYt]at ar;subst ar;refine⟨a,rfl,f,λj x aj=>?_⟩;rw[zYo]at aj
   cases sc:cs'[j]? with
   |none=>simp[sc]at aj|some y=>
    simp[sc]at aj;subst aj;exact⟨(aa j y sc).2,.ad _ _ (ae j y sc)⟩
  |aq=>simp[gj]at ar|mp=>simp[gj]at ar|eE=>simp[gj]at ar|li=>simp[gj]at ar
 |ptr id off c bR hJ=>
  simp only[gj]at ar
  cases av:aF σ id with
  |none=>simp[av]at ar|some kg=>
   cases kg with
   |row=>simp[av]at ar|bW=>simp[av]at ar|box t cs'=>
    simp only[av,zYt]at ar;subst ar;obtain⟨b,af,rfl⟩:=hJ t cs' av;have eg:=a8.dB id _ av
    cases eg with
    |box _ _ hL arr hB ai b4 fW=>
     rw[af]at hB;simp only[Value.pointer.injEq,zYt,Addr.mk.injEq,and_true]at hB;subst hB;refine⟨_,rfl,λj=>arr.getD (off+j) undef,λj x aj=>?_⟩;rw[zYn]at aj
     have bR:off+j<cs'.length:=by
      rcases zYm (off+j) cs'.length with h|h
      ·exact h
      ·rw[zYl h]at aj;cases aj
     refine⟨?_,fW _ _ aj⟩;rw[addLit,cell_of_row w b (off+j) arr t (0,0) ai];have:off+j<arr.size:=by omega
     simp[this]
 |du id i off c bR hJ=>
  simp only[gj]at ar
  cases av:aF σ id with
  |none=>simp[av]at ar|some kg=>
   cases kg with
   |box=>simp[av]at ar|bW=>simp[av]at ar|row z t n es=>
    cases z with
    |true=>simp[av]at ar|false=>
     simp only[av]at ar
     cases qb:es[i]? with
     |none=>simp[qb]at ar|some e=>
      simp only[qb,zYt]at ar;subst ar;obtain⟨b,l,h6,af,rfl⟩:=hJ false t n es av;have eg:=a8.dB id _ av
      cases eg with
      |row _ _ _ xs iS hn fW=>
       rw[af]at iS;obtain⟨Bp,oN⟩:=iS
       rcases oN with⟨⟨_,h,_⟩,aW⟩|⟨g,cap,cur,az,_,ai,hle,kE,fH,nh⟩
       ·have:=(zZ1.1 qb).1;omega
       ·simp only[Value.slice.injEq,zYt,Addr.mk.injEq,and_true]at az
        obtain⟨rfl,_,_⟩:=az;refine⟨_,rfl,λj=>xs.getD (i*n+(off+j)) undef,λj x aj=>?_⟩;rw[zYo]at aj
        cases sc:(e.drop off)[j]? with
        |none=>simp[sc]at aj|some y=>
         simp[sc]at aj;subst aj;rw[zYn]at sc;have q3:e.length=n:=hn e (zZ4 qb)
         have sd:off+j<n:=by
          rcases zYm (off+j) e.length with h|h
          ·omega
          ·rw[zYl h]at sc;cases sc
         have se:es.flatten[i*n+(off+j)]? =some y:=by rw[q2 hn qb _ sd];exact sc
         refine⟨?_,.ad _ _ (fW _ _ se)⟩
         have oO:i*n+(off+j)<xs.length:=by
          have aa:i*n+(off+j)<es.flatten.length:=by
           rcases zYm (i*n+(off+j)) es.flatten.length with h|h
           ·exact h
           ·rw[zYl h]at se;cases se
          rw[jZ hn]at aa;have ae:=Bp;omega
         rw[addLit,zYw,cell_of_row w b _ cur t (0,0) ai]
         have hx:xs[i*n+(off+j)]? =cur[i*n+(off+j)]? :=by
          rw[<-nh,zYk];have ae:=Bp;rw[if_pos (by omega)]
          simp
         rw[<-hx];simp[zZ8,zZa oO]
 |agg=>simp[gj]at ar|tuple=>simp[gj]at ar|aq=>simp[gj]at ar|fn=>simp[gj]at ar|ref=>simp[gj]at ar|eb=>simp[gj]at ar|top=>simp[gj]at ar
def nF(P:Program)(t:TypeId):Option Nat:=
 match P.underlying t with
 |some (.struct _)|some (.array _ _)=>(P.info? t).map (·.size)|_=>none
def scalar(P:Program)(t:TypeId):Bool:=
 match P.underlying t with
 |some (.struct _)|some (.array _ _)|none=>false|_=>true
theorem I2{t:TypeId}{n:Nat}(h:nF P t=some n)(w:World):(isAgg t).run P w= .ok true w/\(sizeOf t).run P w= .ok n w:=by
 unfold nF at h
 cases hu:P.underlying t with
 |none=>simp[hu]at h|some d=>
  cases hi:P.info? t with
  |none=>cases d<;>simp[hu,hi]at h
  |some i=>
   cases d<;>simp[hu,hi]at h
   all_goals
    subst h;exact⟨by simp[isAgg,run_underlying hu],by simp[sizeOf,typeInfo,hi]⟩
theorem AB{t:TypeId}(h:scalar P t=true)(w:World):(isAgg t).run P w= .ok false w:=by
 unfold scalar at h
 cases hu:P.underlying t with
 |none=>simp[hu]at h|some d=>cases d<;>simp[hu]at h<;>simp[isAgg,run_underlying hu]
theorem We(t:TypeId)(x:Operand)(av:o.op= .load t x){n:Nat}(aJ:nF P t=some n){cs:List aC}(ar:gj s.heap (aR G s x)=some cs)(hn:n<=cs.length)(aP:0<n):
 c8 P G o s (.agg (cs.take n)):=
 λ_ a w β ro ah=>by
  obtain⟨dj,hc,f,hf⟩:=Bo ah.heap ar (ah.eval x) (by intro h;subst h;simp at hn;omega)
  obtain⟨aa,ae⟩:=I2 aJ w;have au:=run_loadCells (P:=P) w dj n f (λj aj=>(hf j (cs[j]'(by omega)) (by simp)).1)
  refine⟨.agg ((zYj n).map f).toArray,?_,.agg _ _ (by simp;omega) λj y aj=>?_⟩
  ·simp[execOp,av,hc,Instr.loadAt,Instr.sureAddr,loadVar,aa,ae,au]
  ·rw[zYk]at aj
   split at aj
   ·have:=(hf j y aj).2
    rename_i sd;simpa[sd]using this
   ·cases aj
theorem NI(t:TypeId)(x:Operand)(av:o.op= .load t x)(aJ:scalar P t=true){y:aC}{cs:List aC}(ar:gj s.heap (aR G s x)=some (y::cs)):
 c8 P G o s y:=
 λ_ a w β ro ah=>by
  obtain⟨dj,hc,f,hf⟩:=Bo ah.heap ar (ah.eval x) (by simp)
  have aa:=AB aJ w;obtain⟨kF,dO⟩:=hf 0 y rfl;rw[show dj.add 0=dj from by simp[Addr.add]]at kF
  exact⟨f 0,by simp[execOp,av,hc,Instr.loadAt,Instr.sureAddr,loadVar,aa,run_load,kF],dO⟩
def uK(P:Program)(t:TypeId)(f:Nat):Option Nat:=
 match P.underlying t with
 |some (.struct fs)=>match fs[f]? with
  |some fd=>match P.info? fd.type with
   |some i=>if i.size=0 then none else some fd.offset
   |none=>none
  |none=>none
 |_=>none
def ku(k:Nat):aC->Option aC
 | .ad (.ptr cs)=>some (.ad (.ptr (cs.drop k)))| .ptr id off=>some (.ptr id (off+k))| .du id i off=>some (.du id i (off+k))|_=>none
theorem Wf{w:World}{ro:Nat->Prop}{σ:bK}{β:Nat->Value}{N:Nat}{p q:aC}{c:Value}{cs:List aC}{k:Nat}(ao:ku k p=some q)(ar:gj σ p=some cs)(hc:bN w ro σ β N p c):
 ∃a,c= .pointer (some a)/\bN w ro σ β N q (.pointer (some (a.add k))):=by
 cases hc with
 |ad x c hx=>
  cases hx with
  |v x=>simp[ku]at ao|ptr cs' a f aa ae=>
   simp only[ku,zYt]at ao;subst ao;refine⟨a,rfl,.ad _ _ (.ptr _ _ (λj=>f (k+j)) (λj x aj=>?_) (λj x aj=>?_))⟩
   ·rw[zYn]at aj
    rw[w8,Bm];exact aa _ _ aj
   ·rw[zYn]at aj
    exact ae _ _ aj
  |aq=>simp[ku]at ao|mp=>simp[ku]at ao|eE=>simp[ku]at ao|li=>simp[ku]at ao
 |ptr id off c bR hJ=>
  simp only[ku,zYt]at ao;subst ao;simp only[gj]at ar
  split at ar
  ·rename_i t cs' av
   obtain⟨b,af,rfl⟩:=hJ t cs' av;refine⟨_,rfl,.ptr _ _ _ bR λbr zoI l6=>⟨b,af,by rw[addLit]⟩⟩
  ·cases ar
 |du id i off c bR hJ=>
  simp only[ku,zYt]at ao;subst ao;simp only[gj]at ar
  split at ar
  ·rename_i t n es av
   obtain⟨b,l,h6,af,rfl⟩:=hJ false t n es av;refine⟨_,rfl,.du _ _ _ _ bR λh5 br b0 e2 l6=>⟨b,l,h6,af,?_⟩⟩;rw[av]at l6;simp only[zYt,ey.row.injEq]at l6;obtain⟨_,_,rfl,_⟩:=l6;rw[addLit,zYw]
  ·cases ar
 |agg=>simp[ku]at ao|tuple=>simp[ku]at ao|aq=>simp[ku]at ao|fn=>simp[ku]at ao|ref=>simp[ku]at ao|eb=>simp[ku]at ao|top=>simp[ku]at ao
theorem Wh{t f k:Nat}(h:uK P t f=some k)(a:Addr)(w:World):(Instr.fieldAt t (.pointer (some a)) f).run P w= .ok (.pointer (some (a.add k))) w:=by
 unfold uK at h
 split at h
 ·rename_i fs hu
  split at h
  ·rename_i fd hf
   split at h
   ·rename_i i hi
    split at h
    ·cases h
    ·rename_i aW
     simp only[zYt]at h;subst h;simp[Instr.fieldAt,run_underlying hu,hf,Instr.sureAddr,fieldPlace,sizeOf,typeInfo,hi,aW]
   ·cases h
  ·cases h
 ·cases h
def ka(σ:bK):aC->Bool
 | .ad (.ptr _)=>true| .ptr id _=>match aF σ id with
  |some (.box _ _)=>true|_=>false
 | .du id _ _=>match aF σ id with
  |some (.row _ _ _ _)=>true|_=>false
 |_=>false
def rN(k:Nat):aC->aC
 | .ad (.ptr cs)=>.ad (.ptr (cs.drop k))| .ptr id off=>.ptr id (off+k)| .du id i off=>.du id i (off+k)|x=>x
theorem EE{w:World}{ro:Nat->Prop}{σ:bK}{β:Nat->Value}{N:Nat}{x:aC}{c:Value}(hx:ka σ x=true)(h:bN w ro σ β N x c): ∃a,c= .pointer (some a)/\∀k,bN w ro σ β N (rN k x) (.pointer (some (a.add k))):=by
 cases h with
 |ad x c ah=>
  cases ah with
  |ptr cs a f aa ae=>
   refine⟨a,rfl,λk=>.ad _ _ (.ptr _ _ (λj=>f (k+j)) (λj x aj=>?_) (λj x aj=>?_))⟩
   ·rw[zYn]at aj
    rw[w8,Bm];exact aa _ _ aj
   ·rw[zYn]at aj
    exact ae _ _ aj
  |v=>simp[ka]at hx|aq=>simp[ka]at hx|mp=>simp[ka]at hx|eE=>simp[ka]at hx|li=>simp[ka]at hx
 |ptr id off c au ar=>
  simp only[ka]at hx
  split at hx
  ·rename_i t cs ai
   obtain⟨b,af,rfl⟩:=ar t cs ai;refine⟨_,rfl,λk=>.ptr id (off+k) _ au λbr cs' ee=>?_⟩;obtain⟨hL,hB,qc⟩:=ar br cs' ee;rw[af]at hB;simp only[Value.pointer.injEq,zYt,Addr.mk.injEq,and_true]at hB;subst hB;exact⟨b,af,by rw[addLit]⟩
  ·cases hx
 |du id i off c au ar=>
  simp only[ka]at hx
  split at hx
  ·rename_i z t n es ai
   obtain⟨b,l,h6,af,rfl⟩:=ar z t n es ai;refine⟨_,rfl,λk=>.du id i (off+k) _ au λh5 br b0 e2 ee=>?_⟩;rw[ai]at ee;simp only[zYt,ey.row.injEq]at ee;obtain⟨_,_,rfl,_⟩:=ee;exact⟨b,l,h6,af,by rw[addLit,zYw]⟩
  ·cases hx
 |_=>simp[ka]at hx
theorem Wi(t:TypeId)(x:Operand)(f:Nat)(av:o.op= .fieldAddr t x f){k:Nat}(an:uK P t f=some k)(ar:ka s.heap (aR G s x)=true):c8 P G o s (rN k (aR G s x)):=
 λ_ a w β ro ah=>by
  obtain⟨dj,hc,dO⟩:=EE ar (ah.eval x);exact⟨_,by simp[execOp,av,hc,Wh an],dO k⟩
theorem Wj(x:Operand)(av:o.op= .nilCheck x)(ar:ka s.heap (aR G s x)=true):c8 P G o s (aR G s x):=
 λ_ a w β ro ah=>by
  obtain⟨dj,hc,_⟩:=EE ar (ah.eval x);exact⟨_,by simp[execOp,av,hc],hc ▸ ah.eval x⟩
end
end Go.aH
namespace Go.aH
open Go
def jC(β:Nat->Value)(id:Nat)(v:Value):Nat->Value:=λk=>if k=id then v else β k
theorem fl(β:Nat->Value)(id:Nat)(v:Value):jC β id v id=v:=by simp[jC]
theorem dK(β:Nat->Value){id k:Nat}(v:Value)(h:k≠id):jC β id v k=β k:=by simp[jC,h]
section
variable {E:Entry} {G:aV} {s:aS} {a:Act} {w w':World} {β:Nat->Value} {ro:Nat->Prop}
theorem oM.keep{w w':World}{ro ro':Nat->Prop}{σ cZ:bK}{β cS:Nat->Value}{N oq:Nat}{id:Nat}{o:ey}(h:oM w ro σ β N id o)
 (hw: ∀b,ro b->w'.heap[b]? =w.heap[b]?)(cA: ∀b,ro b->ro' b)(m5:N<=oq)(b4:w.heap.size<=w'.heap.size)(bq:cS id=β id)(jo:o.live=true->∀b,cF (β id)=some b->w'.heap[b]? =w.heap[b]?)
 (ot: ∀id t cs,aF cZ id=some (.box t cs)->cS id=β id/\∃t cs,aF σ id=some (.box t cs))
 (ea: ∀id z t n es,aF cZ id=some (.row z t n es)->cS id=β id/\∃z t es,aF σ id=some (.row z t n es))
 (o5: ∀id bU,aF cZ id=some (.bW bU)->cS id=β id/\∃bU,aF σ id=some (.bW bU)):oM w' ro' cZ cS oq id o:=by
 cases h with
 |box t cs b arr aa ae aw aN=>
  exact .box t cs b arr (bq.trans aa) ((jo rfl b (by rw[aa];rfl)).trans ae) aw λj x aj=>(aN j x aj).keep hw cA m5 ot ea o5
 |row t n es xs aa ae aw=>
  exact .row t n es xs (by rw[bq];exact aa.keep (λb af=>jo rfl b af) b4) ae λj x aj=>(aw j x aj).keep hw cA
 |gH t n es aa=>exact .gH t n es (by rw[bq];exact aa.keep hw cA)|bW bU b o aa ae aw=>exact .bW bU b o (by rw[bq];exact aa) ((jo rfl b aa).trans ae) (by rw[bq];exact bU.mono _ _ _ _ (λx c h=>h.keep hw cA) aw)
theorem dy.new(h:dy E G s a w β ro)(id:Nat)(bq:aF s.heap id=none)(af:s.base<=id)(bR:s.next<=id)(o:ey)(val:Value)
 (sf:w'.os=w.os)(sg:w'.tape=w.tape)(jD:w'.output=w.output)(b4:w.heap.size<=w'.heap.size)(hw: ∀b,b<w.heap.size->w'.heap[b]? =w.heap[b]?)
 (jo: ∀b,cF val=some b->w.heap.size<=b)(_hlive:o.live=true)
 (eg:oM w' ro ((id,o)::s.heap) (jC β id val) (id+1) id o):dy E G {s with heap:=(id,o)::s.heap,next:=id+1} a w' (jC β id val) ro:=by
 have cA: ∀b,ro b->w'.heap[b]? =w.heap[b]? :=λb ah=>hw b (h.heap.lt b ah);have ai: ∀k,k≠id->aF ((id,o)::s.heap) k=aF s.heap k:=λk an=>by simp[aF,zYv an]
 have zc:aF ((id,o)::s.heap) id=some o:=by simp[aF]
 have EF: ∀k p b,aF s.heap k=some p->p.live=true->cF (β k)=some b->b<w.heap.size:=λk p b an ar bp=>(h.heap.dB k p an).jB ar bp
 have key: ∀x c,bN w ro s.heap β s.next x c->bN w' ro ((id,o)::s.heap) (jC β id val) (id+1) x c:=by
  intro x c hx
  induction hx with
  |ad x c hx=>exact .ad x c (hx.keep cA λ_ h=>h)
  |agg cs c ao _ bb=>exact .agg cs c ao bb|tuple cs c ao _ bb=>exact .tuple cs c ao bb|ptr k off c au ar=>
   have an:k≠id:=by omega
   exact .ptr k off c (by omega) λt cs bH=>by rw[dK _ _ an];rw[ai k an]at bH;exact ar t cs bH
  |eb k off c au ar=>
   have an:k≠id:=by omega
   exact .eb k off c (by omega) λt cs bH=>by rw[dK _ _ an];rw[ai k an]at bH;exact ar t cs bH
  |du k i off c au ar=>
   have an:k≠id:=by omega
   exact .du k i off c (by omega) λz t n es bH=>by rw[dK _ _ an];rw[ai k an]at bH;exact ar z t n es bH
  |aq k c au ar=>
   have an:k≠id:=by omega
   exact .aq k c (by omega) λz t n es bH=>by rw[dK _ _ an];rw[ai k an]at bH;exact ar z t n es bH
  |fn f p q c d aa ae _ _ h7 h8=>exact .fn f p q c d aa ae h7 h8|ref k c au ar=>
   have an:k≠id:=by omega
   exact .ref k c (by omega) λbU bH=>by rw[dK _ _ an];rw[ai k an]at bH;exact ar bU bH
  |top c=>exact .top c
 refine⟨h.defers,h.size,λi x hx=>key _ _ (h.slot i x hx),⟨λk p an=>?_,λk bl p ha b an fI ar iK bp e7=>?_,λb ah=>?_,λb ah=>zZw (h.heap.lt b ah) b4⟩,
  h.ix.keep cA λ_ h=>h,?_,h.base⟩
 ·by_cases bT:k=id
  ·subst bT
   rw[zc]at an;simp only[zYt]at an;subst an;exact eg
  ·rw[ai k bT]at an
   have gw:=h.heap.dB k p an
   cases gw with
   |box t cs b arr aa ae aw aN=>
    have k5:=EF k _ b an rfl (by rw[aa];rfl)
    exact .box t cs b arr (by rw[dK _ _ bT];exact aa) ((hw b k5).trans ae) aw λj x aj=>key _ _ (aN j x aj)
   |row t n es xs aa ae aw=>
    exact .row t n es xs (by rw[dK _ _ bT];exact aa.keep (λb af=>hw b (aa.jB af).1) b4) ae λj x aj=>(aw j x aj).keep cA λ_ h=>h
   |gH t n es aa=>exact .gH t n es (by rw[dK _ _ bT];exact aa.keep cA λ_ h=>h)
   |bW bU b o aa ae aw=>exact .bW bU b o (by rw[dK _ _ bT];exact aa) ((hw b (zYu.1 ae).1).trans ae) (by rw[dK _ _ bT];exact bU.mono _ _ _ _ (λx c h=>h.keep cA λ_ h=>h) aw)
 ·by_cases bT:k=id
  ·by_cases iL:bl=id
   ·rw[bT,iL]
   ·subst bT
    rw[fl]at bp;rw[dK _ _ iL]at e7;rw[ai bl iL]at fI;have aa:=jo b bp;have ae:=EF bl ha b fI iK e7;omega
  ·by_cases iL:bl=id
   ·subst iL
    rw[fl]at e7;rw[dK _ _ bT]at bp;rw[ai k bT]at an;have aa:=jo b e7;have ae:=EF k p b an ar bp;omega
   ·rw[dK _ _ bT]at bp
    rw[dK _ _ iL]at e7;rw[ai k bT]at an;rw[ai bl iL]at fI;exact h.heap.inj k bl p ha b an fI ar iK bp e7
 ·rintro⟨k,p,an,ar,bp⟩
  by_cases bT:k=id
  ·subst bT
   rw[fl]at bp;have aa:=jo b bp;have ae:=h.heap.lt b ah;omega
  ·rw[dK _ _ bT]at bp
   rw[ai k bT]at an;exact h.heap.fy b ah ⟨k,p,an,ar,bp⟩
 ·have t:=h.trans
  refine⟨sf.trans t.os,sg.trans t.tape,jD.trans t.output,zZx t.size b4,λb k5 hI=>?_,t.h9,t.hp,?_,λk an p bH=>?_,λk p bH=>?_,zZx h.base (zZx af (Nat.le_succ _))⟩
  ·rw[hw b (zZw k5 t.size)]
   exact t.frame b k5 hI
  ·rintro b ⟨k,p,an,ar,bp⟩
   by_cases bT:k=id
   ·subst bT
    rw[fl]at bp;exact .inr (zZx t.size (jo b bp))
   ·rw[dK _ _ bT]at bp
    rw[ai k bT]at an;exact t.gG b ⟨k,p,an,ar,bp⟩
  ·have bT:k≠id:=by have:=h.base;omega
   rw[ai k bT]at bH;rw[dK _ _ bT];exact t.er k an p bH
  ·by_cases bT:k=id
   ·subst bT;exact zYi _
   ·rw[ai k bT]at bH
    have:=t.new k p bH;show k<id+1;omega
theorem dy.write(h:dy E G s a w β ro)(id:Nat)(o ct:ey)(bq:aF s.heap id=some o)(Bq:o.live=true)(zoJ:ct.live=true)
 (EG:(∃t cs cs',o= .box t cs/\ct= .box t cs')\/(∃t n es e2,o= .row false t n es/\ct= .row false t n e2)\/(∃bU lv,o= .bW bU/\ct= .bW lv))
 (sf:w'.os=w.os)(sg:w'.tape=w.tape)(jD:w'.output=w.output)(b4:w.heap.size<=w'.heap.size)(hw: ∀b,b<w.heap.size->cF (β id)≠some b->w'.heap[b]? =w.heap[b]?)
 (eg:oM w' ro (eX s.heap id ct) β s.next id ct):dy E G {s with heap:=eX s.heap id ct} a w' β ro:=by
 have cA: ∀b,ro b->w'.heap[b]? =w.heap[b]? :=λb ah=>hw b (h.heap.lt b ah) λaf=>h.heap.fy b ah ⟨id,o,bq,Bq,af⟩;have ai:=wG s.heap id ct
 have own: ∀b,Own (eX s.heap id ct) β b->Own s.heap β b:=by
  rintro b ⟨k,p,an,ar,bp⟩
  rw[ai k]at an
  by_cases bT:id=k
  ·subst bT;exact⟨id,o,bq,Bq,bp⟩
  ·rw[if_neg bT]at an;exact⟨k,p,an,ar,bp⟩
 have tM: ∀k p b,aF s.heap k=some p->p.live=true->cF (β k)=some b->b<w.heap.size:=λk p b an ar bp=>(h.heap.dB k p an).jB ar bp
 have ot: ∀k t cs,aF (eX s.heap id ct) k=some (.box t cs)->β k=β k/\∃t cs,aF s.heap k=some (.box t cs):=by
  intro k t cs an;rw[ai k]at an
  by_cases bT:id=k
  ·subst bT
   rw[if_pos rfl]at an;simp only[zYt]at an
   rcases EG with⟨t1,aO,bz,rfl,rfl⟩|⟨t1,n,aE,bc,rfl,rfl⟩|⟨_,_,rfl,rfl⟩
   ·exact⟨rfl,t1,aO,bq⟩
   ·cases an
   ·cases an
  ·rw[if_neg bT]at an;exact⟨rfl,t,cs,an⟩
 have ea: ∀k z t n es,aF (eX s.heap id ct) k=some (.row z t n es)->β k=β k/\∃z t es,aF s.heap k=some (.row z t n es):=by
  intro k z t n es an;rw[ai k]at an
  by_cases bT:id=k
  ·subst bT
   rw[if_pos rfl]at an;simp only[zYt]at an
   rcases EG with⟨t1,aO,bz,rfl,rfl⟩|⟨t1,ib,aE,bc,rfl,rfl⟩|⟨_,_,rfl,rfl⟩
   ·cases an
   ·simp only[ey.row.injEq]at an
    obtain⟨_,_,rfl,_⟩:=an;exact⟨rfl,_,_,_,bq⟩
   ·cases an
  ·rw[if_neg bT]at an;exact⟨rfl,z,t,es,an⟩
 have o5: ∀k bU,aF (eX s.heap id ct) k=some (.bW bU)->β k=β k/\∃bU,aF s.heap k=some (.bW bU):=by
  intro k bU an;rw[ai k]at an
  by_cases bT:id=k
  ·subst bT
   rw[if_pos rfl]at an;simp only[zYt]at an
   rcases EG with⟨t1,aO,bz,rfl,rfl⟩|⟨t1,ib,aE,bc,rfl,rfl⟩|⟨zgV,_,rfl,rfl⟩
   ·cases an
   ·cases an
   ·exact⟨rfl,zgV,bq⟩
  ·rw[if_neg bT]at an;exact⟨rfl,bU,an⟩
 refine⟨h.defers,h.size,λi x hx=>(h.slot i x hx).keep cA (λ_ h=>h) (zZv _) ot ea o5,⟨λk p an=>?_,λk bl p ha b an fI ar iK bp e7=>?_,λb ah af=>h.heap.fy b ah (own b af),
  λb ah=>zZw (h.heap.lt b ah) b4⟩,h.ix.keep cA λ_ h=>h,?_,h.base⟩
 ·rw[ai k]at an
  by_cases bT:id=k
  ·subst bT
   rw[if_pos rfl]at an;simp only[zYt]at an;subst an;exact eg
  ·rw[if_neg bT]at an
   refine(h.heap.dB k p an).keep cA (λ_ h=>h) (zZv _) b4 rfl (λau b af=>hw b (tM k p b an au af) λmf=>bT (h.heap.inj id k o p b bq an Bq au mf af)) ot ea o5
 ·have aa: ∃q,aF s.heap k=some q/\q.live=true:=by
   rw[ai k]at an
   by_cases bT:id=k
   ·subst bT;exact⟨o,bq,Bq⟩
   ·rw[if_neg bT]at an;exact⟨p,an,ar⟩
  have ae: ∃q,aF s.heap bl=some q/\q.live=true:=by
   rw[ai bl]at fI
   by_cases bT:id=bl
   ·subst bT;exact⟨o,bq,Bq⟩
   ·rw[if_neg bT]at fI;exact⟨ha,fI,iK⟩
  obtain⟨q,aB,vh⟩:=aa;obtain⟨jA,zd,EH⟩:=ae;exact h.heap.inj k bl q jA b aB zd vh EH bp e7
 ·have t:=h.trans
  refine⟨sf.trans t.os,sg.trans t.tape,jD.trans t.output,zZx t.size b4,λb k5 hI=>?_,t.h9,t.hp,λb af=>t.gG b (own b af),λk an p bH=>?_,λk p bH=>?_,t.le⟩
  ·by_cases mf:cF (β id)=some b
   ·rcases t.gG b ⟨id,o,bq,Bq,mf⟩with hc|hc
    ·exact absurd hc hI
    ·omega
   ·rw[hw b (zZw k5 t.size) mf]
    exact t.frame b k5 hI
  ·rw[ai k]at bH
   by_cases bT:id=k
   ·subst bT;exact t.er id an o bq
   ·rw[if_neg bT]at bH;exact t.er k an p bH
  ·rw[ai k]at bH
   by_cases bT:id=k
   ·subst bT;exact t.new id o bq
   ·rw[if_neg bT]at bH;exact t.new k p bH
end
end Go.aH
namespace Go.aH
open Go
def dc:aC->List aC
 | .agg cs=>cs|x=>[x]
section
variable {w:World} {ro:Nat->Prop} {σ:bK} {β:Nat->Value} {N:Nat}
def fp(σ:bK):aC->Bool
 | .ad _| .fn _ _ _=>true| .ptr id _=>match aF σ id with
  |some (.box _ _)=>true|_=>false
 | .aq id=>match aF σ id with
  |some (.row _ _ _ _)=>true|_=>false
 | .du id _ _=>match aF σ id with
  |some (.row _ _ _ _)=>true|_=>false
 |_=>false
theorem I3(a8:hA w ro σ β N){x:aC}{c:Value}(hx:fp σ x=true)(h:bN w ro σ β N x c):c.oneCell'=true:=by
 cases h with
 |ad x c h=>exact h.one|agg=>simp[fp]at hx|tuple=>simp[fp]at hx|ptr id off c au ar=>
  simp only[fp]at hx
  split at hx
  ·rename_i t cs ai
   obtain⟨b,_,rfl⟩:=ar t cs ai;rfl
  ·cases hx
 |du id i off c au ar=>
  simp only[fp]at hx
  split at hx
  ·rename_i z t n es ai
   obtain⟨b,l,h6,_,rfl⟩:=ar z t n es ai;rfl
  ·cases hx
 |aq id c au ar=>
  simp only[fp]at hx
  split at hx
  ·rename_i z t n es ai
   rw[ar z t n es ai];have:=a8.dB id _ ai
   cases this with
   |row _ _ _ xs aa=>
    rcases aa.2 with⟨⟨_,az,_⟩,_⟩|⟨g,cap,cur,az,_⟩<;>rw[az]<;>rfl
   |gH _ _ _ aa=>exact aa.one
  ·cases hx
 |fn=>rfl|ref=>simp[fp]at hx|eb=>simp[fp]at hx|top=>simp[fp]at hx
theorem bN.dc{x:aC}{c:Value}(h:bN w ro σ β N x c)(fE:(dc x).all (fp σ)=true)(a8:hA w ro σ β N):
 c.cells.size=(dc x).length/\(∀j y,(Go.aH.dc x)[j]? =some y->bN w ro σ β N y (c.cells.getD j undef))/\∀u∈c.cells.toList,u.oneCell'=true:=by
 cases h with
 |agg cs c ao hc=>
  refine⟨ao,hc,λu hu=>?_⟩;obtain⟨j,aj,rfl⟩:=List.mem_iff_getElem.1 hu;have Wk:j<cs.length:=by simpa[Value.cells,ao]using aj
  have aa:=hc j cs[j] (zZa Wk)
  have ae:fp σ cs[j]=true:=by
   simp only[Go.aH.dc,zZ2]at fE;exact fE _ (List.getElem_mem Wk)
  have aw:=I3 a8 ae aa;have EI:j<c.size:=by omega
  simpa[Value.cells,EI]using aw
 |ad x c hx=>
  have aa:c.cells= #[c]:=by have:=hx.one;cases c<;>simp_all[Value.cells,Value.oneCell']
  refine⟨by simp[aa,Go.aH.dc],λj y aj=>?_,λu hu=>?_⟩
  ·cases j with
   |zero=>simp[Go.aH.dc]at aj;subst aj;simpa[aa]using bN.ad x c hx|succ j=>simp[Go.aH.dc]at aj
  ·simp[aa]at hu;subst hu;exact hx.one
 |tuple cs c ao hc=>simp[Go.aH.dc,fp]at fE|top c=>simp[Go.aH.dc,fp]at fE|ref id c=>simp[Go.aH.dc,fp]at fE|eb id n c=>simp[Go.aH.dc,fp]at fE|ptr id off c au ar=>
  have hx:fp σ (.ptr id off)=true:=by simpa[Go.aH.dc]using fE
  have vi:=I3 a8 hx (bN.ptr (w:=w) (ro:=ro) id off c au ar);have aa:c.cells= #[c]:=by cases c<;>simp_all[Value.cells,Value.oneCell']
  refine⟨by simp[aa,Go.aH.dc],λj y aj=>?_,λu hu=>?_⟩
  ·cases j with
   |zero=>simp[Go.aH.dc]at aj;subst aj;simpa[aa]using bN.ptr id off c au ar|succ j=>simp[Go.aH.dc]at aj
  ·simp[aa]at hu;subst hu;exact vi
 |du id i off c au ar=>
  have hx:fp σ (.du id i off)=true:=by simpa[Go.aH.dc]using fE
  have vi:=I3 a8 hx (bN.du (w:=w) (ro:=ro) id i off c au ar);have aa:c.cells= #[c]:=by cases c<;>simp_all[Value.cells,Value.oneCell']
  refine⟨by simp[aa,Go.aH.dc],λj y aj=>?_,λu hu=>?_⟩
  ·cases j with
   |zero=>simp[Go.aH.dc]at aj;subst aj;simpa[aa]using bN.du id i off c au ar|succ j=>simp[Go.aH.dc]at aj
  ·simp[aa]at hu;subst hu;exact vi
 |aq id c au ar=>
  have hx:fp σ (.aq id)=true:=by simpa[Go.aH.dc]using fE
  have vi:=I3 a8 hx (bN.aq (w:=w) (ro:=ro) id c au ar);have aa:c.cells= #[c]:=by cases c<;>simp_all[Value.cells,Value.oneCell']
  refine⟨by simp[aa,Go.aH.dc],λj y aj=>?_,λu hu=>?_⟩
  ·cases j with
   |zero=>simp[Go.aH.dc]at aj;subst aj;simpa[aa]using bN.aq id c au ar|succ j=>simp[Go.aH.dc]at aj
  ·simp[aa]at hu;subst hu;exact vi
 |fn f p q c d aa ae aw aN=>
  refine⟨by simp[Value.cells,Go.aH.dc],λj y aj=>?_,λu hu=>?_⟩
  ·cases j with
   |zero=>simp[Go.aH.dc]at aj;subst aj;simpa[Value.cells]using bN.fn f p q c d aa ae aw aN|succ j=>simp[Go.aH.dc]at aj
  ·simp[Value.cells]at hu;subst hu;rfl
end
section
variable {P:Program} {G:aV} {o:Oper} {s:aS}
theorem Wl(t:TypeId)(c:Value)(w:World):(newVar t c).run P w= .ok ⟨w.heap.size,0,none⟩ (w.alloc (.cells c.cells t)):=by
 simp[newVar,newRow]
theorem pb.Wm{t:TypeId}{cs:List aC}(h: ∀E a w β ro,dy E G s a w β ro->∃arr:Array Value,(execOp a.eval o).run P w= .ok (.value (.pointer (some ⟨w.heap.size,0,none⟩))) (w.alloc (.cells arr t))/\
      arr.size=cs.length/\∀j x,cs[j]? =some x->bN w ro s.heap β s.next x (arr.getD j undef))(af:s.base<=s.next):
    pb P G o s ({s with heap:=(s.next,.box t cs)::s.heap,next:=s.next+1}.put o.dst (.ptr s.next 0)):=by
  intro E a w ⟨β,ro,ah⟩ K Q hK;obtain⟨arr,cE,b4,fW⟩:=h E a w β ro ah;unfold Oper.wp;rw[cE]
  have lB:aF s.heap s.next=none:=by
    cases ai:aF s.heap s.next with
    |none=>rfl|some p=>have:=ah.trans.new _ _ ai;omega
  have gS:dy E G {s with heap:=(s.next,.box t cs)::s.heap,next:=s.next+1} a (w.alloc (.cells arr t)) (jC β s.next (.pointer (some ⟨w.heap.size,0,none⟩))) ro:=by
    refine ah.new s.next lB af (zZv _) _ _ rfl rfl rfl (by simp) (λb af=>Go.RowKit.Below.heap_alloc w _ b af) (λb af=>by simp[cF]at af;omega) rfl ?_
    refine .box t cs w.heap.size arr (fl _ _ _) (heap_alloc_new w _) b4 λj x aj=>?_;have hx:=fW j x aj;have cA: ∀b,ro b->(w.alloc (.cells arr t)).heap[b]? =w.heap[b]? :=λb af=>Go.RowKit.Below.heap_alloc w _ b (ah.heap.lt b af);clear aj fW;generalize arr.getD j undef=c at hx
    induction hx with
    |ad x c hx=>exact .ad x c (hx.keep cA λ_ h=>h)
    |agg cs c ao _ bb=>exact .agg cs c ao bb|tuple cs c ao _ bb=>exact .tuple cs c ao bb|ptr k off c au ar=>
      have an:k≠s.next:=by omega
      exact .ptr k off c (by omega) λt cs bH=>by rw[dK _ _ an];simp only[aF,if_neg (zYv an)]at bH;exact ar t cs bH
    |eb k off c au ar=>
      have an:k≠s.next:=by omega
      exact .eb k off c (by omega) λt cs bH=>by rw[dK _ _ an];simp only[aF,if_neg (zYv an)]at bH;exact ar t cs bH
    |du k i off c au ar=>
      have an:k≠s.next:=by omega
      exact .du k i off c (by omega) λz t n es bH=>by rw[dK _ _ an];simp only[aF,if_neg (zYv an)]at bH;exact ar z t n es bH
    |aq k c au ar=>
      have an:k≠s.next:=by omega
      exact .aq k c (by omega) λz t n es bH=>by rw[dK _ _ an];simp only[aF,if_neg (zYv an)]at bH;exact ar z t n es bH
    |fn f p q c d aa ae _ _ h7 h8=>exact .fn f p q c d aa ae h7 h8|ref k c au ar=>
      have an:k≠s.next:=by omega
      exact .ref k c (by omega) λbU bH=>by rw[dK _ _ an];simp only[aF,if_neg (zYv an)]at bH;exact ar bU bH
    |top c=>exact .top c
  refine hK _ _ ⟨_,ro,gS.put o.dst _ _ ?_⟩ λb af=>Go.RowKit.Below.heap_alloc w _ b af;refine .ptr _ _ _ (zYi _) λbr cs' ai=>⟨w.heap.size,fl _ _ _,rfl⟩
theorem Wn(t:TypeId)(x:Operand)(av:o.op= .box t x)(af:s.base<=s.next)(fE:(dc (aR G s x)).all (fp s.heap)=true):
 pb P G o s ({s with heap:=(s.next,.box t (dc (aR G s x)))::s.heap,next:=s.next+1}.put o.dst (.ptr s.next 0)):=
 .Wm (λ_ a w β ro ah=>by
  obtain⟨aa,ae,_⟩:=(ah.eval x).dc fE ah.heap
  exact⟨(a.eval x).cells,by simp[execOp,av,Instr.box,Wl],aa,ae⟩) af
theorem Mz(t:TypeId)(x:Operand)(av:o.op= .box t x)(af:s.base<=s.next)(fE:(dc (aR G s x)).all (fp s.heap)=true):
 eL P G o s ({s with heap:=(s.next,.box t (dc (aR G s x)))::s.heap,next:=s.next+1}.put o.dst (.ptr s.next 0)):=(Wn t x av af fE).op
def zeroCells(P:Program)(t:TypeId):Option (List Value):=
 match P.info? t with
 |some i=>match i.zero with
  |some z=>some z.cells.toList|none=>none
 |none=>none
theorem Br{t:TypeId}{zs:List Value}(h:zeroCells P t=some zs)(w:World): ∃z:Value,(zeroValue t).run P w= .ok z w/\z.cells=zs.toArray/\∃i,P.info? t=some i/\i.zero=some z:=by
 unfold zeroCells at h
 cases hi:P.info? t with
 |none=>simp[hi]at h|some i=>
  cases aW:i.zero with
  |none=>simp[hi,aW]at h|some z=>
   simp[hi,aW]at h;exact⟨z,by simp[zeroValue,typeInfo,hi,aW],by rw[<-h],i,rfl,aW⟩
theorem Wo(t:TypeId)(av:o.op= .alloc t)(af:s.base<=s.next){zs:List Value}(aW:zeroCells P t=some zs)(fE:zs.all Value.oneCell'=true):
 pb P G o s ({s with heap:=(s.next,.box t (zs.map λz=>.ad (.v z)))::s.heap,next:=s.next+1}.put o.dst (.ptr s.next 0)):=
 .Wm (λ_ a w β ro ah=>by
  obtain⟨z,cE,qd,_⟩:=Br aW w;refine⟨z.cells,by simp[execOp,av,Instr.alloc,cE,Wl],by simp[qd],λj x aj=>?_⟩
  rw[zYo]at aj
  cases vj:zs[j]? with
  |none=>simp[vj]at aj|some y=>
   simp[vj]at aj;subst aj
   have:y.oneCell'=true:=by
    rw[zZ2]at fE;exact fE y (zZ4 vj)
   rw[qd]
   simpa[vj]using bN.ad (w:=w) (ro:=ro) (σ:=s.heap) (β:=β) (N:=s.next) _ _ (.v y this)) af
theorem My(t:TypeId)(av:o.op= .alloc t)(af:s.base<=s.next){zs:List Value}(aW:zeroCells P t=some zs)(fE:zs.all Value.oneCell'=true):
 eL P G o s ({s with heap:=(s.next,.box t (zs.map λz=>.ad (.v z)))::s.heap,next:=s.next+1}.put o.dst (.ptr s.next 0)):=(Wo t av af aW fE).op
end
end Go.aH
namespace Go.aH
open Go
section
variable {P:Program} {G:aV} {o:Oper} {s:aS}
theorem NJ{w w':World}{ro:Nat->Prop}{σ:bK}{β:Nat->Value}{N id:Nat}{t:TypeId}{cs cs':List aC}(bq:aF σ id=some (.box t cs)){x:aC}{c:Value}
 (h:bN w ro σ β N x c)(cA: ∀b,ro b->w'.heap[b]? =w.heap[b]?):bN w' ro (eX σ id (.box t cs')) β N x c:=by
 refine h.keep cA (λ_ h=>h) (zZv _) (λk t1 aO an=>?_) (λk z t1 n es an=>?_) (λk bU an=>?_)
 ·rw[wG]at an
  by_cases bT:id=k
  ·subst bT;exact⟨rfl,t,cs,bq⟩
  ·rw[if_neg bT]at an;exact⟨rfl,t1,aO,an⟩
 ·rw[wG]at an
  by_cases bT:id=k
  ·subst bT;rw[if_pos rfl]at an;cases an
  ·rw[if_neg bT]at an;exact⟨rfl,z,t1,es,an⟩
 ·rw[wG]at an
  by_cases bT:id=k
  ·subst bT;rw[if_pos rfl]at an;cases an
  ·rw[if_neg bT]at an;exact⟨rfl,bU,an⟩
def eJ{α:Type}(cs:List α)(off:Nat)(vs:List α):List α:=cs.take off++(vs++cs.drop (off+vs.length))
theorem q4{α:Type}(cs:List α)(off:Nat)(vs:List α)(h:off+vs.length<=cs.length):(eJ cs off vs).length=cs.length:=by
 simp[eJ];omega
theorem I4{α β:Type}(R:α->β->Prop)(d:β){cs vs:List α}{xs ys:List β}{off:Nat}(au:cs.length<=xs.length)(az:vs.length=ys.length)(EJ:off+vs.length<=cs.length)
 (aa: ∀j x,cs[j]? =some x->R x (xs.getD j d))(ae: ∀j x,vs[j]? =some x->R x (ys.getD j d)): ∀j x,(eJ cs off vs)[j]? =some x->R x ((eJ xs off ys).getD j d):=by
 intro j x aj;unfold eJ at*
 by_cases ba:j<off
 ·rw[zYr (by simp;omega),zYk,if_pos ba]at aj
  have:=aa j x aj;rw[zZ8,zYr (by simp;omega),zYk,if_pos ba]
  exact this
 ·have aE:(cs.take off).length=off:=by simp;omega
  have bc:(xs.take off).length=off:=by simp;omega
  rw[zYq (by omega),aE]at aj
  rw[zZ8,zYq (by omega),bc]
  by_cases af:j-off<vs.length
  ·rw[zYr af]at aj
   rw[zYr (by omega)]
   exact ae _ _ aj
  ·rw[zYq (by omega),zYn]at aj
   rw[zYq (by omega),zYn]
   have cJ:off+vs.length+(j-off-vs.length)=j:=by omega
   have ek:off+ys.length+(j-off-ys.length)=j:=by omega
   rw[cJ]at aj;rw[ek];exact aa j x aj
theorem Wp(t:TypeId)(b off:Nat)(c:Value)(w:World)(bt:TypeId)(arr:Array Value)(ai:w.heap[b]? =some (.cells arr bt (0,0)))(b4:(P.info? t).map (·.size)=some c.cells.size)
 (w9:off+c.cells.size<=arr.size)(aa: ∀u∈c.cells.toList,u.oneCell'=true):
 (Instr.storeAt t (.pointer (some ⟨b,off,none⟩)) c).run P w= .ok () (w.setRow b (eJ arr.toList off c.cells.toList).toArray):=by
 have e1:=run_storeCells_at P b off bt c.cells.toList 0 arr w ai (by simpa using w9) aa
 cases hi:P.info? t with
 |none=>simp[hi]at b4|some i=>
  have ao:i.size=c.cells.size:=by simpa[hi]using b4
  simp only[zYh,List.append_assoc]at e1;simp only[Instr.storeAt,Instr.sureAddr,storeVar,sizeOf,typeInfo,Sem.run_bind,Sem.run_pure,Result.andThen_ok,eJ];simp[hi,ao,e1]
theorem Mv(t:TypeId)(p x:Operand)(av:o.op= .store t p x){id off:Nat}(ar:aR G s p= .ptr id off){bt:TypeId}{cs:List aC}(bq:aF s.heap id=some (.box bt cs))
 {vs:List aC}(az:dc (aR G s x)=vs)(fE:vs.all (fp s.heap)=true)(b4:(P.info? t).map (·.size)=some vs.length)(w9:off+vs.length<=cs.length):
 eL P G o s ({s with heap:=eX s.heap id (.box bt (eJ cs off vs))}.put o.dst .top):=by
 intro E a w ⟨β,ro,ah⟩ K Q hK;subst az;obtain⟨aa,ae,aw⟩:=(ah.eval x).dc fE ah.heap;have vk:=ah.eval p;rw[ar]at vk;have eg:=ah.heap.dB id _ bq
 cases eg with
 |box _ _ b arr af ai zgW fW=>
  generalize NK:a.eval p=iY at vk
  cases vk with
  |ptr _ _ c au hc=>
   obtain⟨hL,hB,rfl⟩:=hc _ _ bq;rw[af]at hB;simp only[Value.pointer.injEq,zYt,Addr.mk.injEq,and_true]at hB;subst hB;have cE:=Wp (P:=P) t b off (a.eval x) w bt arr ai (by rw[b4,aa]) (by omega) aw
   unfold Oper.wp;simp only[execOp,av,NK,Sem.run_bind,cE,Result.andThen_ok,Sem.run_pure]
   have lG: ∀k,k<w.heap.size->cF (β id)≠some k->(w.setRow b (eJ arr.toList off (a.eval x).cells.toList).toArray).heap[k]? =w.heap[k]? :=λk _ an=>
    setRow_other w b k _ (λe=>an (by rw[af,e];rfl))
   have cA: ∀k,ro k->(w.setRow b (eJ arr.toList off (a.eval x).cells.toList).toArray).heap[k]? =w.heap[k]? :=λk an=>
    lG k (ah.heap.lt k an) λbp=>ah.heap.fy k an ⟨id,_,bq,rfl,bp⟩
   refine hK _ _ ⟨β,ro,(ah.write (w':=w.setRow b (eJ arr.toList off (a.eval x).cells.toList).toArray) id _ (.box bt (eJ cs off (dc (aR G s x)))) bq rfl rfl (.inl ⟨_,_,_,rfl,rfl⟩) rfl rfl rfl (by simp) lG ?_).put o.dst _ _ (.top _)⟩
   refine .box bt _ b _ af (setRow_heap w b arr _ bt (0,0) ai) ?_ λj y aj=>?_
   ·rw[zZc,q4 _ _ _ (by simp only[zYg];omega),q4 _ _ _ w9,zYg,zgW]
   ·have ao:=I4 (bN w ro s.heap β s.next) undef (cs:=cs) (vs:=dc (aR G s x)) (xs:=arr.toList) (ys:=(a.eval x).cells.toList) (off:=off) (by simp only[zYg];omega) (by simp only[zYg];omega) w9
     (λj x aj=>by have:=fW j x aj;simpa[zYf,zZ8]using this)
     (λj x aj=>by have:=ae j x aj;simpa[zYf,zZ8]using this) j y aj
    have gr:=NJ (cs':=eJ cs off (dc (aR G s x))) bq ao cA;simpa[zYf,zZ8]using gr
def jU:List aC->Option (List a7)
 |[]=>some []| .ad x::r=>match jU r with
  |some l=>some (x::l)|none=>none
 |_::_=>none
theorem AA: ∀{vs:List aC} {l:List a7},jU vs=some l->vs=l.map .ad
 |[],l,h=>by simp[jU]at h;subst h;rfl| .ad x::r,l,h=>by
  simp only[jU]at h
  cases ah:jU r with
  |none=>simp[ah]at h|some dF=>
   simp[ah]at h;subst h;simp[AA ah]
 | .agg _::_,_,h=>by simp[jU]at h| .tuple _::_,_,h=>by simp[jU]at h| .ptr _ _::_,_,h=>by simp[jU]at h| .eb _ _::_,_,h=>by simp[jU]at h| .du _ _ _::_,_,h=>by simp[jU]at h| .aq _::_,_,h=>by simp[jU]at h| .fn _ _ _::_,_,h=>by simp[jU]at h| .ref _::_,_,h=>by simp[jU]at h| .top::_,_,h=>by simp[jU]at h
theorem Wq{α:Type}{n:Nat}: ∀{es:List (List α)},(∀e∈es,e.length=n)->∀{i:Nat} {e aD:List α},es[i]? =some e->aD.length=n->(es.set i aD).flatten=es.flatten.take (i*n)++(aD++es.flatten.drop (i*n+n))
 |[],_,i,e,aD,h,_=>by simp at h|x::r,hn,i,e,aD,h,he=>by
  have hx:x.length=n:=hn x (by simp)
  cases i with
  |zero=>simp[hx]|succ i=>
   simp at h;have bb:=Wq (es:=r) (λe he=>hn e (by simp[he])) h he
   simp only[List.set_cons_succ,zYs,bb];have aE:(i+1)*n=x.length+i*n:=by rw[zYp];omega
   have bc:(i+1)*n+n=x.length+(i*n+n):=by rw[zYp];omega
   have cJ:x.length+(i*n+n)-x.length=i*n+n:=by omega
   have ek:x.length+i*n-x.length=i*n:=by omega
   rw[bc,aE,zYe,List.drop_append,cJ,ek,zYd (l:=x) (by omega),List.drop_of_length_le (l:=x) (by omega)]
   simp
theorem zgX{α:Type}(l:List α)(p n k:Nat)(vs:List α)(e:List α)(he:e.length=n)(au: ∀j,j<n->l[p+j]? =e[j]?)(an:k+vs.length<=n)(ar:p+n<=l.length):
 eJ l (p+k) vs=l.take p++(eJ e k vs++l.drop (p+n)):=by
 apply List.ext_getElem?;intro j;have ao:(eJ e k vs).length=n:=by rw[q4 _ _ _ (by omega),he]
 unfold eJ at*
 by_cases aa:j<p
 ·rw[zYr (by simp;omega),zYk,if_pos (by omega),zYr (by simp;omega),zYk,if_pos aa]
 ·have aE:(l.take p).length=p:=by simp;omega
  have bc:(l.take (p+k)).length=p+k:=by simp;omega
  rw[zYq (l₁:=l.take p) (by omega),aE]
  by_cases ae:j<p+k
  ·rw[zYr (by omega),zYk,if_pos ae,zYr (by omega),zYr (by simp;omega),zYk,if_pos (by omega),<-au _ (by omega)]
   congr 1;omega
  ·rw[zYq (by omega),bc]
   have cJ:(e.take k).length=k:=by simp;omega
   by_cases aw:j<p+k+vs.length
   ·rw[zYr (by omega),zYr (by omega),zYq (by omega),cJ,zYr (by omega)]
    congr 1;omega
   ·rw[zYq (by omega),zYn]
    by_cases aN:j<p+n
    ·rw[zYr (by omega),zYq (by omega),cJ,zYq (by omega),zYn,<-au _ (by omega)]
     congr 1;omega
    ·rw[zYq (by omega),ao,zYn]
     congr 1;omega
theorem Wr{α:Type}(l:List α)(off m:Nat)(ys:List α)(h:off+ys.length<=m)(hm:m<=l.length):(eJ l off ys).take m=eJ (l.take m) off ys:=by
 have aE:min m off=off:=by omega
 have bc:min off m=off:=by omega
 have cJ:min off l.length=off:=by omega
 have ek:zYc (m-off) ys=ys:=zYd (by omega)
 have j0:m-off-ys.length=m-(off+ys.length):=by omega
 simp only[eJ,zYe,List.take_take,List.length_take,List.drop_take,aE,bc,cJ,ek,j0]
theorem Mw(t:TypeId)(p x:Operand)(av:o.op= .store t p x){id i off:Nat}(ar:aR G s p= .du id i off){bt:TypeId}{n:Nat}{es:List (List a7)}(bq:aF s.heap id=some (.row false bt n es))
 {e:List a7}(qb:es[i]? =some e){vs:List a7}(az:jU (dc (aR G s x))=some vs)(b4:(P.info? t).map (·.size)=some vs.length)(w9:off+vs.length<=n):
 eL P G o s ({s with heap:=eX s.heap id (.row false bt n (es.set i (eJ e off vs)))}.put o.dst .top):=by
 intro E a w ⟨β,ro,ah⟩ K Q hK;have Ws:=AA az;have fE:(dc (aR G s x)).all (fp s.heap)=true:=by rw[Ws];simp[zZ2,fp]
 obtain⟨aa,ae,aw⟩:=(ah.eval x).dc fE ah.heap;rw[Ws]at aa ae;rw[List.length_map]at aa;have vk:=ah.eval p;rw[ar]at vk;have eg:=ah.heap.dB id _ bq
 cases eg with
 |row _ _ _ xs iS hn fW=>
  generalize NK:a.eval p=iY at vk
  cases vk with
  |du _ _ _ c au hc=>
   obtain⟨b,l,h6,af,rfl⟩:=hc _ _ _ _ bq;have zoK:=iS;rw[af]at iS;obtain⟨Bp,oN⟩:=iS
   rcases oN with⟨⟨_,h,_⟩,aW⟩|⟨g,cap,cur,Bs,EK,ai,hle,kE,fH,nh⟩
   ·have:=(zZ1.1 qb).1;omega
   ·simp only[Value.slice.injEq,zYt,Addr.mk.injEq,and_true]at Bs
    obtain⟨rfl,rfl,rfl⟩:=Bs;have q3:e.length=n:=hn e (zZ4 qb);have zgY:i<es.length:=(zZ1.1 qb).1;have I5:i*n+n<=es.length*n:=by rw[<-zYp];exact zYb n zgY
    have zgZ:es.length*n<=h6*n:=zYb n hle;have cE:=Wp (P:=P) t b (i*n+off) (a.eval x) w bt cur ai (by rw[b4,aa]) (by omega) aw
    unfold Oper.wp;simp only[execOp,av,NK,Sem.run_bind,cE,Result.andThen_ok,Sem.run_pure]
    have lG: ∀k,k<w.heap.size->cF (β id)≠some k->(w.setRow b (eJ cur.toList (i*n+off) (a.eval x).cells.toList).toArray).heap[k]? =w.heap[k]? :=λk _ an=>
     setRow_other w b k _ (λe=>an (by rw[af,e];simp[cF,Nat.ne_of_gt EK]))
    have cA: ∀k,ro k->(w.setRow b (eJ cur.toList (i*n+off) (a.eval x).cells.toList).toArray).heap[k]? =w.heap[k]? :=λk an=>
     lG k (ah.heap.lt k an) λbp=>ah.heap.fy k an ⟨id,_,bq,rfl,bp⟩
    have xa:(eJ e off vs).length=n:=by rw[q4 _ _ _ (by omega),q3]
    refine hK _ _ ⟨β,ro,(ah.write (w':=w.setRow b (eJ cur.toList (i*n+off) (a.eval x).cells.toList).toArray) id _ (.row false bt n (es.set i (eJ e off vs))) bq rfl rfl (.inr (.inl ⟨_,_,_,_,rfl,rfl⟩)) rfl rfl rfl (by simp) lG ?_).put o.dst _ _ (.top _)⟩
    have fv:(a.eval x).cells.toList.length=vs.length:=by simpa using aa
    refine .row bt n _ (eJ xs (i*n+off) (a.eval x).cells.toList) ?_ (λaD jq=>?_) (λj y aj=>?_)
    ·rw[af,List.length_set]
     refine⟨by rw[q4 _ _ _ (by omega)];exact Bp,.inr ⟨b,h6,_,rfl,EK,setRow_heap w b cur _ bt (0,0) ai,hle,kE,?_,?_⟩⟩
     ·rw[zZc,q4 _ _ _ (by simp;omega)];simpa using fH
     ·show zYc (es.length*n) (eJ cur.toList (i*n+off) (a.eval x).cells.toList)=_
      rw[Wr _ _ _ _ (by omega) (by simp;omega),nh]
    ·rcases List.mem_or_eq_of_mem_set jq with h|h
     ·exact hn aD h
     ·rw[h];exact xa
    ·rw[Wq hn qb xa,<-zgX es.flatten (i*n) n off vs e q3 (λj aj=>q2 hn qb j aj) w9 (by rw[jZ hn];exact I5)]at aj
     have ao:=I4 (dq w ro) undef (cs:=es.flatten) (vs:=vs) (xs:=xs) (ys:=(a.eval x).cells.toList) (off:=i*n+off) (by rw[jZ hn];omega) (by omega) (by rw[jZ hn];omega)
      (λj x aj=>fW j x aj)
      (λj y aj=>by
       have:=ae j (.ad y) (by simp[aj])
       cases this with
       |ad _ _ h=>simpa[zYf,zZ8]using h) j y aj
     exact ao.keep cA λ_ h=>h
end
end Go.aH
namespace Go.aH
open Go
def gv(a b:ByteArray):Bool:=a.data.toList==b.data.toList
theorem I6(a b:ByteArray):gv a b=decide (a=b):=by
 unfold gv;obtain⟨⟨x⟩⟩:=a;obtain⟨⟨y⟩⟩:=b;rw[Bool.eq_iff_iff];simp
theorem Wt(a b:ByteArray):(a.toList==b.toList)=gv a b:=by rw[ByteArray.toList_eq,ByteArray.toList_eq];rfl
@[simp] theorem L7{a b:ByteArray}:gv a b=true↔a=b:=by rw[I6];simp
@[simp] theorem zoL{a b:ByteArray}:gv a b=false↔a≠b:=by rw[I6];simp
@[simp] theorem zoM(a:ByteArray):gv a a=true:=by simp
def vl(a b:ByteArray):Bool:=Op.bytesLess a.data.toList b.data.toList
theorem zg0(a b:ByteArray):Op.bytesLess a.toList b.toList=vl a b:=by rw[ByteArray.toList_eq,ByteArray.toList_eq];rfl
def I7(op:BinOp)(a b:Int):Option Value:=
 match op with
 | .eql=>some (.bool (a==b))| .neq=>some (.bool (a != b))| .lss=>some (.bool (decide (a<b)))| .leq=>some (.bool (decide (a<=b)))| .gtr=>some (.bool (decide (a>b)))| .geq=>some (.bool (decide (a>=b)))|_=>none
def kv(op:BinOp):Value->Value->Option Value
 | .int k a,.int bl b=>
  match op with
  | .shl=>if b<0 then none else some (.int k (k.wrap (a*2^(min b.toNat k.bits))))
  | .shr=>if b<0 then none else some (.int k (a.fdiv (2^(min b.toNat k.bits))))
  |op=>if k=bl then match op with
   | .add=>some (.int k (k.wrap (a+b)))| .sub=>some (.int k (k.wrap (a-b)))| .mul=>some (.int k (k.wrap (a*b)))| .quo=>if b=0 then none else some (.int k (k.wrap (a.tdiv b)))
   | .rem=>if b=0 then none else some (.int k (a.tmod b))
   |op=>I7 op a b
   else none
 | .string a,.string b=>
  match op with
  | .add=>if((a.size+b.size:Nat):Int)>IntKind.i64.max then none else some (.string (a++b))
  | .eql=>some (.bool (gv a b))| .neq=>some (.bool (!gv a b))| .lss=>some (.bool (vl a b))| .leq=>some (.bool (vl a b||gv a b))
  | .gtr=>some (.bool (!(vl a b||gv a b)))
  | .geq=>some (.bool (!vl a b))|_=>none
 |_,_=>none
theorem NL {P : Program} {op : BinOp} {x y c : Value} (h : kv op x y = some c) (t : TypeId) (p q : Operand) (w : World) :
    (eqGuard op t p q x y).run P w = .ok () w /\ (binOp op t x y).run P w = .ok c w /\ c.oneCell' = true := by
  cases x with
  | int k a =>
    cases y with
    | int bl b =>
      simp only [kv] at h; refine ⟨by rw [eqGuard_at_int]; rfl, ?_⟩
      cases op
      all_goals first
        | (simp only at h
           split at h
           · cases h
           · rename_i hn
             simp only [zYt] at h; subst h; refine ⟨?_, rfl⟩
             simp [binOp, Op.shift, hn]; done)
        | (simp only at h
           split at h
           · rename_i an
             subst an
             first
               | (simp only [zYt, I7] at h; subst h; exact ⟨by simp [binOp, Op.intArith, Op.intCmp], rfl⟩)
               | (split at h
                  · cases h
                  · rename_i aW
                    simp only [zYt] at h; subst h
                    exact ⟨by simp [binOp, Op.intDiv, aW], rfl⟩)
               | (simp [I7] at h; done)
           · cases h)
    | _ => simp [kv] at h
  | string a =>
    cases y with
    | string b =>
      simp only [kv] at h; refine ⟨by rw [eqGuard_at_string]; rfl, ?_⟩
      cases op <;> simp only at h
      all_goals first
        | cases h; done
        | (split at h
           · cases h
           · rename_i hn
             simp only [zYt] at h; subst h
             exact ⟨by simp only [binOp_string_add, Op.stringOp, hn, if_false] <;> rfl, rfl⟩)
        | (simp only [zYt] at h; subst h; exact ⟨by simp only [binOp, Op.stringOp, Wt, zg0] <;> rfl, rfl⟩)
    | _ => simp [kv] at h
  | _ => simp [kv] at h
section
variable {P:Program} {G:aV} {o:Oper} {s:aS}
theorem bN.val{w:World}{ro:Nat->Prop}{σ:bK}{β:Nat->Value}{N:Nat}{x c:Value}(h:bN w ro σ β N (.ad (.v x)) c):c=x:=by
 cases h with
 |ad _ _ h=>cases h;rfl
theorem dy.ef{E:Entry}{a:Act}{w:World}{β:Nat->Value}{ro:Nat->Prop}(h:dy E G s a w β ro){x:Operand}{v:Value}(hx:aR G s x= .ad (.v v)):a.eval x=v:=
 bN.val (hx ▸ h.eval x)
theorem bN.fu{w:World}{ro:Nat->Prop}{σ:bK}{β:Nat->Value}{N:Nat}{c:Value}(h:c.oneCell'=true):bN w ro σ β N (.ad (.v c)) c:=.ad _ _ (.v _ h)
theorem q5(op:BinOp)(cR ty:TypeId)(x y:Operand)(av:o.op= .binOp op cR x y ty){u v c:Value}(hx:aR G s x= .ad (.v u))(aA:aR G s y= .ad (.v v))(hc:kv op u v=some c):
 c8 P G o s (.ad (.v c)):=
 λ_ a w β ro ah=>by
  obtain⟨aa,ae,aw⟩:=NL (P:=P) hc cR x y w;exact⟨c,by simp[execOp,av,ah.ef hx,ah.ef aA,aa,ae],.fu aw⟩
theorem Wu(cR ty:TypeId)(x y:Operand)(av:o.op= .binOp .eql cR x y ty)(aJ:P.underlying cR=some .bool){u v:Bool}(hx:aR G s x= .ad (.v (.bool u)))(aA:aR G s y= .ad (.v (.bool v))):
 c8 P G o s (.ad (.v (.bool (u==v)))):=
 λ_ a w β ro ah=>⟨.bool (u==v),by simp[execOp,av,ah.ef hx,ah.ef aA,eqGuard_at_bool,run_eql_bool w cR u v aJ],.fu rfl⟩
theorem Wv(cR ty:TypeId)(x y:Operand)(av:o.op= .binOp .neq cR x y ty)(aJ:P.underlying cR=some .bool){u v:Bool}(hx:aR G s x= .ad (.v (.bool u)))(aA:aR G s y= .ad (.v (.bool v))):
 c8 P G o s (.ad (.v (.bool (!(u==v))))):=
 λ_ a w β ro ah=>⟨.bool (!(u==v)),by simp[execOp,av,ah.ef hx,ah.ef aA,eqGuard_at_bool,run_neq_bool w cR u v aJ],.fu rfl⟩
def qe:Value->Value->Option Bool
 | .int k a,.int bl b=>if k=bl then some (a==b)else none
 | .bool a,.bool b=>some (a==b)| .string a,.string b=>some (gv a b)|_,_=>none
def vm(P:Program)(t:TypeId):Value->Bool
 | .int k _=>match P.underlying t with
  |some (.int bl)=>decide (k=bl)|_=>false
 | .bool _=>match P.underlying t with
  |some .bool=>true|_=>false
 | .string _=>match P.underlying t with
  |some .string=>true|_=>false
 |_=>false
def Ww(e:TypeId)(c i:Nat):Field:={(default:Field)with name:= "e",type:=e,offset:=i*c}
theorem NM(d:Nat)(e:TypeId)(c:Nat)(X Y:Array Value): ∀(is:List Nat),Op.eqFields d X Y (is.map (Ww e c))=Op.eqItems d e c X Y is
 |[]=>rfl|i::is=>by
  simp only[List.map_cons,Op.eqFields,Op.eqItems,NM d e c X Y is];rfl
def o4(P:Program)(t:TypeId):Option (List Field):=
 match P.underlying t with
 |some (.struct fs)=>if P.stoodInHeld t||P.eqGuardType P.depth t then none else some fs.toList
 |some (.array n e)=>match P.info? e with
  |some _=>if P.eqGuardType P.depth t then none else some ((zYj n).map (Ww e (P.cellsOf e)))
  |none=>none
 |_=>none
theorem zg1{P:Program}{t:TypeId}{gs:List Field}(h:o4 P t=some gs)(D:Nat)(p q:Array Value)(w:World):
 (Op.equalIn (D+1) t (.agg p) (.agg q)).run P w=(Op.eqFields D p q gs).run P w/\(isAgg t).run P w= .ok true w:=by
 unfold o4 at h
 split at h
 ·rename_i I8 hu
  split at h
  ·cases h
  ·rename_i hc
   simp only[zZg,not_or,zYa]at hc;simp only[zYt]at h;subst h;have tN:P.fieldsOf t=I8:=by simp[Program.fieldsOf,hu]
   exact⟨by rw[run_equalIn_struct w D t p q (by rw[tN];exact hu) hc.1,tN],by simp[isAgg,run_underlying hu]⟩
 ·rename_i n e hu
  split at h
  ·rename_i inf Bt
   split at h
   ·cases h
   ·simp only[zYt]at h
    subst h;exact⟨by rw[run_equalIn_array w D p q hu Bt,<-NM],by simp[isAgg,run_underlying hu]⟩
  ·cases h
 ·cases h
def tO(P:Program):Nat->Nat->List Field->List Value->List Value->Option Bool
 |0,_,_,_,_=>none|_+1,_,[],_,_=>some true|d+1,k,f::fs,xs,ys=>
  if f.name= "_" ||f.offset != k then none
  else match o4 P f.type with
   |some gs=>match P.info? f.type with
    |some inf=>match tO P d 0 gs (xs.take inf.size) (ys.take inf.size),tO P d (k+inf.size) fs (xs.drop inf.size) (ys.drop inf.size)with
     |some a,some b=>some (a&&b)|_,_=>none
    |none=>none
   |none=>match xs,ys with
    |x::xs,y::ys=>if vm P f.type x then match qe x y,tO P d (k+1) fs xs ys with
     |some a,some b=>some (a&&b)|_,_=>none
     else none
    |_,_=>none
def Av(P:Program)(k:Nat)(fs:List Field)(xs ys:List Value):Option Bool:=tO P 64 k fs xs ys
theorem zg2{t:TypeId}{x y:Value}{b:Bool}(h:qe x y=some b)(hf:vm P t x=true)(d:Nat)(w:World):(Op.equalIn (d+1) t x y).run P w= .ok b w/\x.oneCell'=true/\y.oneCell'=true/\(isAgg t).run P w= .ok false w:=by
 cases x with
 |int k a=>
  cases y with
  |int bl hL=>
   simp only[qe]at h
   split at h
   ·rename_i an
    subst an;simp only[zYt]at h;subst h;simp only[vm]at hf
    split at hf
    ·rename_i eO hu
     exact⟨run_equalIn_int w d t k eO a hL hu,rfl,rfl,by simp[isAgg,run_underlying hu]⟩
    ·cases hf
   ·cases h
  |_=>simp[qe]at h
 |bool a=>
  cases y with
  |bool hL=>
   simp only[qe,zYt]at h;subst h;simp only[vm]at hf
   split at hf
   ·rename_i hu
    exact⟨run_equalIn_bool w d t a hL hu,rfl,rfl,by simp[isAgg,run_underlying hu]⟩
   ·cases hf
  |_=>simp[qe]at h
 |string a=>
  cases y with
  |string hL=>
   simp only[qe,zYt]at h;subst h;simp only[vm]at hf
   split at hf
   ·rename_i hu
    refine⟨?_,rfl,rfl,by simp[isAgg,run_underlying hu]⟩
    rw[run_equalIn_string w d t a hL hu,Wt]
   ·cases hf
  |_=>simp[qe]at h
 |_=>simp[qe]at h
theorem Wx{xs:List Value}{X:Array Value}{k n:Nat}(ik: ∀j x,xs[j]? =some x->X[k+j]? =some x): ∀j x,(xs.take n)[j]? =some x->(X.extract k (k+n))[0+j]? =some x:=by
 intro j x aj;rw[zYk]at aj
 split at aj
 ·rename_i sd
  have:=ik j x aj;rw[zZ0,Array.getElem?_extract];have bR:k+j<X.size:=(zYu.1 this).1;rw[if_pos (by omega)]
  exact this
 ·cases aj
theorem I9: ∀(d:Nat) (fs:List Field) (k:Nat) (xs ys:List Value) (X Y:Array Value) (b:Bool) (D:Nat) (w:World),tO P d k fs xs ys=some b->d<=D->(∀j x,xs[j]? =some x->X[k+j]? =some x)->(∀j y,ys[j]? =some y->Y[k+j]? =some y)->
 (Op.eqFields D X Y fs).run P w= .ok b w
 |0,_,k,xs,ys,X,Y,b,D,w,h,_,_,_=>by simp[tO]at h|d+1,[],k,xs,ys,X,Y,b,D,w,h,_,ik,sh=>by
  simp[tO]at h;subst h;simp[Op.eqFields]
 |d+1,f::fs,k,xs,ys,X,Y,b,0,w,h,kA,_,_=>by omega|d+1,f::fs,k,xs,ys,X,Y,b,D+1,w,h,kA,ik,sh=>by
  unfold tO at h
  split at h
  ·cases h
  ·rename_i hc
   simp only[zZg,decide_eq_true_eq,bne_iff_ne,ne_eq,not_or,Decidable.not_not]at hc;obtain⟨tn,EJ⟩:=hc
   split at h
   ·rename_i gs ai
    split at h
    ·rename_i inf Bt
     split at h
     ·rename_i e6 gl aa ae
      simp only[zYt]at h;subst h;have ji:=I9 d gs 0 _ _ (X.extract k (k+inf.size)) (Y.extract k (k+inf.size)) e6 D w aa (by omega) (Wx ik) (Wx sh)
      have mg:=I9 d fs (k+inf.size) _ _ X Y gl (D+1) w ae (by omega) (λj x aj=>by rw[zYn]at aj;have:=ik _ x aj;rwa[show k+(inf.size+j)=k+inf.size+j from by omega]at this) (λj x aj=>by rw[zYn]at aj;have:=sh _ x aj;rwa[show k+(inf.size+j)=k+inf.size+j from by omega]at this)
      obtain⟨aE,bc⟩:=zg1 ai D (X.extract k (k+inf.size)) (Y.extract k (k+inf.size)) w;have fH:P.cellsOf f.type=inf.size:=by simp[Program.cellsOf,Bt]
      simp only[Op.eqFields,Sem.run_bind,tn,ne_eq,not_false_eq_true,if_true,part,bc,Result.andThen_ok,run_sizeOf w Bt,fH,EJ,Sem.run_pure,aE,ji]
      cases e6
      ·simp
      ·simpa using mg
     ·cases h
    ·cases h
   ·split at h
    ·rename_i x Dt y zg3
     split at h
     ·rename_i w9
      split at h
      ·rename_i e6 gl he ah
       simp only[zYt]at h;subst h;obtain⟨aa,_,_,aN⟩:=zg2 he w9 D w;have Wy:=ik 0 x rfl;have Ja:=sh 0 y rfl;have bb:=I9 d fs (k+1) Dt zg3 X Y gl (D+1) w ah (by omega) (λj x aj=>by have:=ik (j+1) x aj;rwa[show k+(j+1)=k+1+j from by omega]at this) (λj x aj=>by have:=sh (j+1) x aj;rwa[show k+(j+1)=k+1+j from by omega]at this)
       simp only[zYh]at Wy Ja;simp only[Op.eqFields,Sem.run_bind,tn,ne_eq,not_false_eq_true,if_true,part,aN,Result.andThen_ok,Bool.false_eq_true,if_false,EJ,Wy,Ja,Sem.run_pure,aa]
       cases e6
       ·simp
       ·simpa using bb
      ·cases h
     ·cases h
    ·cases h
theorem Wz(fs:List Field)(k:Nat)(xs ys:List Value)(X Y:Array Value)(b:Bool)(d:Nat)(w:World)(h:Av P k fs xs ys=some b)(hd:64<=d+1)(ik: ∀j x,xs[j]? =some x->X[k+j]? =some x)(sh: ∀j y,ys[j]? =some y->Y[k+j]? =some y):
 (Op.eqFields (d+1) X Y fs).run P w= .ok b w:=I9 64 fs k xs ys X Y b (d+1) w h hd ik sh
def iP:List aC->Option (List Value)
 |[]=>some []| .ad (.v x)::r=>match iP r with
  |some l=>some (x::l)|none=>none
 |_::_=>none
theorem EL{w:World}{ro:Nat->Prop}{σ:bK}{β:Nat->Value}{N:Nat}: ∀{cs:List aC} {l:List Value} {c:Nat->Value},iP cs=some l->(∀j x,cs[j]? =some x->bN w ro σ β N x (c j))->l.length=cs.length/\∀j x,l[j]? =some x->c j=x
 |[],l,c,h,_=>by simp[iP]at h;subst h;simp| .ad (.v x)::r,l,c,h,hc=>by
  simp only[iP]at h
  cases ah:iP r with
  |none=>simp[ah]at h|some dF=>
   simp[ah]at h;subst h;obtain⟨aa,ae⟩:=EL (c:=λj=>c (j+1)) ah λj x aj=>hc (j+1) x aj;refine⟨by simp[aa],λj y aj=>?_⟩
   cases j with
   |zero=>simp at aj;subst aj;exact bN.val (hc 0 _ rfl)|succ j=>exact ae j y aj
 | .ad (.ptr _)::_,_,_,h,_=>by simp[iP]at h| .ad (.aq _ _)::_,_,_,h,_=>by simp[iP]at h| .agg _::_,_,_,h,_=>by simp[iP]at h| .tuple _::_,_,_,h,_=>by simp[iP]at h| .ptr _ _::_,_,_,h,_=>by simp[iP]at h| .eb _ _::_,_,_,h,_=>by simp[iP]at h| .du _ _ _::_,_,_,h,_=>by simp[iP]at h| .aq _::_,_,_,h,_=>by simp[iP]at h| .fn _ _ _::_,_,_,h,_=>by simp[iP]at h| .ref _::_,_,_,h,_=>by simp[iP]at h| .top::_,_,_,h,_=>by simp[iP]at h
theorem WA{t:TypeId}{fs:List Field}(h:o4 P t=some fs){cs ds:List aC}{xs ys:List Value}{b:Bool}(q6:iP cs=some xs)(pq:iP ds=some ys)(af:Av P 0 fs xs ys=some b)
 {w:World}{ro:Nat->Prop}{σ:bK}{β:Nat->Value}{N:Nat}{X Y:Value}(ik:bN w ro σ β N (.agg cs) X)(sh:bN w ro σ β N (.agg ds) Y):
 ∃p q,X= .agg p/\Y= .agg q/\P.eqGuardType P.depth t=false/\(Op.equalIn 10000 t (.agg p) (.agg q)).run P w= .ok b w:=by
 unfold o4 at h
 split at h
 ·rename_i I8 hu
  split at h
  ·cases h
  ·rename_i hc
   simp only[zZg,not_or,zYa]at hc;simp only[zYt]at h;subst h
   cases ik with
   |agg _ p ar NN=>
    cases sh with
    |agg _ q aB NO=>
     refine⟨p,q,rfl,rfl,hc.2,?_⟩;have tN:P.fieldsOf t=I8:=by simp[Program.fieldsOf,hu]
     rw[run_equalIn_struct w 9999 t p q (by rw[tN];exact hu) hc.1,tN]
     obtain⟨aa,ae⟩:=EL (c:=λj=>p.getD j undef) q6 NN;obtain⟨aw,aN⟩:=EL (c:=λj=>q.getD j undef) pq NO;refine Wz I8.toList 0 xs ys p q b 9998 w af (by omega) (λj x aj=>?_) (λj x aj=>?_)
     ·have bR:j<p.size:=by
       rcases zYm j xs.length with h|h
       ·omega
       ·rw[zYl h]at aj;cases aj
      have:=ae j x aj;simp[bR]at this;simp[bR,this]
     ·have bR:j<q.size:=by
       rcases zYm j ys.length with h|h
       ·omega
       ·rw[zYl h]at aj;cases aj
      have:=aN j x aj;simp[bR]at this;simp[bR,this]
 ·rename_i n e hu
  split at h
  ·rename_i inf Bt
   split at h
   ·cases h
   ·rename_i hc
    simp only[zYa]at hc;simp only[zYt]at h;subst h
    cases ik with
    |agg _ p ar NN=>
     cases sh with
     |agg _ q aB NO=>
      refine⟨p,q,rfl,rfl,hc,?_⟩;rw[run_equalIn_array w 9999 p q hu Bt,<-NM];obtain⟨aa,ae⟩:=EL (c:=λj=>p.getD j undef) q6 NN;obtain⟨aw,aN⟩:=EL (c:=λj=>q.getD j undef) pq NO;refine Wz _ 0 xs ys p q b 9998 w af (by omega) (λj x aj=>?_) (λj x aj=>?_)
      ·have bR:j<p.size:=by
        rcases zYm j xs.length with h|h
        ·omega
        ·rw[zYl h]at aj;cases aj
       have:=ae j x aj;simp[bR]at this;simp[bR,this]
      ·have bR:j<q.size:=by
        rcases zYm j ys.length with h|h
        ·omega
        ·rw[zYl h]at aj;cases aj
       have:=aN j x aj;simp[bR]at this;simp[bR,this]
  ·cases h
 ·cases h
theorem WB(cR ty:TypeId)(x y:Operand)(av:o.op= .binOp .eql cR x y ty){fs:List Field}(h:o4 P cR=some fs){cs ds:List aC}(hx:aR G s x= .agg cs)(aA:aR G s y= .agg ds)
 {xs ys:List Value}{b:Bool}(q6:iP cs=some xs)(pq:iP ds=some ys)(af:Av P 0 fs xs ys=some b):c8 P G o s (.ad (.v (.bool b))):=
 λ_ a w β ro ah=>by
  obtain⟨p,q,aa,ae,aw,aN⟩:=WA h q6 pq af (hx ▸ ah.eval x) (aA ▸ ah.eval y);exact⟨.bool b,by simp only[execOp,av,aa,ae,Sem.run_bind,run_eqGuard_agg w .eql cR x y p q aw,Result.andThen_ok,run_eql_struct,aN,Sem.run_pure],.fu rfl⟩
theorem WC(cR ty:TypeId)(x y:Operand)(av:o.op= .binOp .neq cR x y ty){fs:List Field}(h:o4 P cR=some fs){cs ds:List aC}(hx:aR G s x= .agg cs)(aA:aR G s y= .agg ds)
 {xs ys:List Value}{b:Bool}(q6:iP cs=some xs)(pq:iP ds=some ys)(af:Av P 0 fs xs ys=some b):c8 P G o s (.ad (.v (.bool (!b)))):=
 λ_ a w β ro ah=>by
  obtain⟨p,q,aa,ae,aw,aN⟩:=WA h q6 pq af (hx ▸ ah.eval x) (aA ▸ ah.eval y);exact⟨.bool (!b),by simp only[execOp,av,aa,ae,Sem.run_bind,run_eqGuard_agg w .neq cR x y p q aw,Result.andThen_ok,run_neq_struct,aN,Sem.run_pure],.fu rfl⟩
theorem WD(t:TypeId)(x:Operand)(av:o.op= .unOp .not t x){b:Bool}(hx:aR G s x= .ad (.v (.bool b))):c8 P G o s (.ad (.v (.bool (!b)))):=
 λ_ a w β ro ah=>⟨.bool (!b),by simp[execOp,av,ah.ef hx,Op.unary],.fu rfl⟩
theorem WE(t:TypeId)(x:Operand)(av:o.op= .unOp .neg t x){k:IntKind}{n:Int}(hx:aR G s x= .ad (.v (.int k n))):c8 P G o s (.ad (.v (.int k (k.wrap (0-n))))):=
 λ_ a w β ro ah=>⟨.int k (k.wrap (0-n)),by simp[execOp,av,ah.ef hx,Op.unary,Op.intArith],.fu rfl⟩
theorem EM(c x y:Operand)(av:o.op= .pick c x y){b:Bool}(hc:aR G s c= .ad (.v (.bool b))){v:aC}(az:(if b then aR G s x else aR G s y)=v):c8 P G o s v:=
 λ_ a w β ro ah=>⟨if b then a.eval x else a.eval y,by simp[execOp,av,ah.ef hc,asBool],by
  subst az
  cases b
  ·simpa using ah.eval y
  ·simpa using ah.eval x⟩
theorem WG(x:Operand)(i:Nat)(av:o.op= .extract x i){cs:List aC}(hx:aR G s x= .tuple cs){v:aC}(az:cs[i]? =some v):c8 P G o s v:=
 λ_ a w β ro ah=>by
  have h:=ah.eval x;rw[hx]at h;generalize he:a.eval x=c at h
  cases h with
  |tuple _ c ao hc=>
   have bR:i<c.size:=by have:=(zZ1.1 az).1;omega
   refine⟨c[i],?_,?_⟩
   ·simp[execOp,av,Instr.extract,he,bR]
   ·simpa[bR]using hc i v az
end
end Go.aH
