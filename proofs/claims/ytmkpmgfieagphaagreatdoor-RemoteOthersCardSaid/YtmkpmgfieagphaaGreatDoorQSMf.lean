/- The AV calculus, part A: values as trees, the relation between a symbolic state and a world, and how it is kept. Conditions: none; nothing here speaks of a particular program. -/
import Derived.Test.YtmkpmgfieagphaaGreatDoorQST0
import Derived.Laws.StructEq
import Derived.ChangeKeysEq
namespace Go.aK
open Go
theorem pK(a:Addr)(n:Nat):(a.add n).block=a.block:=by unfold Addr.add;split<;>rfl
theorem yy(a:Addr)(i j:Nat):(a.add i).add j=a.add (i+j):=by
 unfold Addr.add
 by_cases hi:i=0<;>by_cases af:j=0<;>simp[hi,af,Nat.add_assoc]
theorem addLit(b o n:Nat):(⟨b,o,none⟩:Addr).add n=⟨b,o+n,none⟩:=by
 unfold Addr.add;split
 ·rename_i h;subst h;rfl
 ·rfl
inductive aC where
 |au (x:a1)
 |agg (cs:List aC)
 |tuple (cs:List aC)
 |ptr (id off:Nat)
 |cV (id i off:Nat)
 |aM (id:Nat)
 |fn (f:Fn) (first captured:List aC)
 |ref (id:Nat)
 |dx (id n:Nat)
 |top
def Pr(agg:Bool)(n:Nat)(v:Value)(p:Nat→Value):Prop:=
 match agg with
 |true=>∃c:Array Value,v= .agg c∧c.size=n∧∀i,i<n→c.getD i undef=p i
 |false=>n=1∧v=p 0
inductive cN (w:World) (ro:Nat→Prop):a1→Value→Prop where
 |v (x:Value):x.oneCell'=true→cN w ro (.v x) x
 |ptr (cs:List a1) (a:Addr) (c:Nat→Value):(∀j x,cs[j]? =some x→ro a.block∧w.cell? (a.add j)=some (c j))→
  (∀j x,cs[j]? =some x→cN w ro x (c j))→cN w ro (.ptr cs) (.pointer (some a))
 |aM (n:Nat) (es:List (List a1)) (b:Option Addr) (cap:Nat) (c:Nat→Value):es.length≤cap→cap≤maxLen→(∀e∈es,e.length=n)→
  (0<es.length→∃a,b=some a∧∀j,j<es.length*n→ro a.block∧w.cell? (a.add j)=some (c j))→
  (∀j x,es.flatten[j]? =some x→cN w ro x (c j))→cN w ro (.aM n es) (.slice b es.length cap)
 |mp (agg:Bool) (ks:List Value) (vs:List (List a1)) (r:Nat) (es:Array MapEntry) (clock:Nat) (p:Nat→Nat→Value):ro r→w.heap[r]? =some (.map es clock)→es.size=ks.length→vs.length=ks.length→ks.Nodup→
  (∀j k cs,ks[j]? =some k→vs[j]? =some cs→∃e:MapEntry,es[j]? =some e∧e.key=k∧Pr agg cs.length e.val (p j))→
  (∀j cs i x,vs[j]? =some cs→cs[i]? =some x→cN w ro x (p j i))→cN w ro (.mp agg ks vs) (.map (some r))
 |li (i:bF) (l:List (fO i)) (c:Value):cN w ro (.aM (bZ i) (l.map (b9 i))) c→cN w ro (.li i l) c
 |ek (t:TypeId) (agg:Bool) (cs:List a1) (v:Value) (p:Nat→Value):Pr agg cs.length v p→(∀i x,cs[i]? =some x→cN w ro x (p i))→cN w ro (.ek t agg cs) (.iface t v)
theorem cN.one{w:World}{ro:Nat→Prop}{x:a1}{c:Value}(h:cN w ro x c):c.oneCell'=true:=by
 induction h with
 |v x hx=>exact hx
 |ptr=>rfl
 |aM=>rfl
 |mp=>rfl
 |li i l c h aZ=>exact aZ
 |ek=>rfl
theorem cN.keep{w w':World}{ro ro':Nat→Prop}{x:a1}{c:Value}(h:cN w ro x c)
 (hw: ∀b,ro b→w'.heap[b]? =w.heap[b]?)(cc: ∀b,ro b→ro' b):cN w' ro' x c:=by
 induction h with
 |v x hx=>exact .v x hx
 |ptr cs a c aa _ aZ=>
  exact .ptr cs a c (fun j x af=>⟨cc _ (aa j x af).1,by
   rw[World.cell?_of_block (w:=w) (by rw[pK];exact hw _ (aa j x af).1)];exact(aa j x af).2⟩) aZ
 |aM n es b cap c aa ae av aQ _ aZ=>
  refine .aM n es b cap c aa ae av (fun ak=>?_) aZ
  obtain⟨a,ad,hc⟩:=aQ ak
  exact⟨a,ad,fun j af=>⟨cc _ (hc j af).1,by
   rw[World.cell?_of_block (w:=w) (by rw[pK];exact hw _ (hc j af).1)];exact(hc j af).2⟩⟩
 |mp agg ks vs r es clock p aa ae av aQ bL cT _ aZ=>exact .mp agg ks vs r es clock p (cc _ aa) ((hw _ aa).trans ae) av aQ bL cT aZ
 |li i l c _ aZ=>exact .li i l c aZ
 |ek t agg cs v p aa _ aZ=>exact .ek t agg cs v p aa aZ
def b5:Value→Option Nat
 | .pointer (some a)=>some a.block
 | .slice (some a) _ cap=>if cap=0 then none else some a.block
 | .map (some r)=>some r
 |_=>none
structure vK where
 holds:(a1→Value→Prop)→Value→Obj→Prop
 mono: ∀(R qE:a1→Value→Prop) v o,(∀x c,R x c→qE x c)→holds R v o→holds qE v o
 view:Option a1
 Ps: ∀au,view=some au→∀(w:World) (ro ro':Nat→Prop) (v:Value) (o:Obj) (b:Nat),holds (cN w ro) v o→b5 v=some b→w.heap[b]? =some o→(∀x,ro x→ro' x)→ro' b→cN w ro' au v
inductive eg where
 |box (t:TypeId) (cs:List aC)
 |row (Pt:Bool) (t:TypeId) (n:Nat) (es:List (List a1))
 |bK (bM:vK)
def eg.live:eg→Bool
 | .box _ _=>true
 | .row Pt _ _ _=>!Pt
 | .bK _=>true
abbrev Heap:=List (Nat × eg)
def aD:Heap→Nat→Option eg
 |[],_=>none
 |(k,o)::r,id=>if k=id then some o else aD r id
def eL:Heap→Nat→eg→Heap
 |[],id,o=>[(id,o)]
 |(k,x)::r,id,o=>if k=id then(k,o)::r else(k,x)::eL r id o
def gm:Heap→Nat→Heap
 |[],_=>[]
 |(k,x)::r,id=>if k=id then gm r id else(k,x)::gm r id
theorem vL(h:Heap)(id:Nat)(o:eg)(k:Nat):aD (eL h id o) k=if id=k then some o else aD h k:=by
 induction h with
 |nil=>simp[eL,aD]
 |cons p r aZ=>
  obtain⟨j,x⟩:=p
  by_cases af:j=id
  ·subst af
   by_cases aj:j=k<;>simp[eL,aD,aj]
  ·by_cases aj:j=k
   ·subst aj
    simp[eL,aD,af,Ne.symm af]
   ·simp[eL,aD,af,aj,aZ]
theorem yz(h:Heap)(id k:Nat):aD (gm h id) k=if id=k then none else aD h k:=by
 induction h with
 |nil=>simp[gm,aD]
 |cons p r aZ=>
  obtain⟨j,x⟩:=p
  by_cases af:j=id
  ·subst af
   by_cases aj:j=k
   ·subst aj;simp[gm,aZ]
   ·simp[gm,aD,aj,aZ]
  ·by_cases aj:j=k
   ·subst aj
    simp[gm,aD,af,Ne.symm af]
   ·simp[gm,aD,af,aj,aZ]
def h2(w:World)(t:TypeId)(n:Nat)(v:Value)(len:Nat)(xs:List Value):Prop:=
 xs.length=len*n∧(((∃b,v= .slice b 0 0∧∀a,b=some a→a.block<w.heap.size)∧len=0)∨
  ∃g cap cur,v= .slice (some ⟨g,0,none⟩) len cap∧0<cap∧w.heap[g]? =some (.cells cur t (0,0))∧len≤cap∧cap≤maxLen∧cur.size=cap*n∧cur.toList.take (len*n)=xs)
inductive bp (w:World) (ro:Nat→Prop) (σ:Heap) (β:Nat→Value) (N:Nat):aC→Value→Prop where
 |au (x:a1) (c:Value):cN w ro x c→bp w ro σ β N (.au x) c
 |agg (cs:List aC) (c:Array Value):c.size=cs.length→(∀j x,cs[j]? =some x→bp w ro σ β N x (c.getD j undef))→bp w ro σ β N (.agg cs) (.agg c)
 |tuple (cs:List aC) (c:Array Value):c.size=cs.length→(∀j x,cs[j]? =some x→bp w ro σ β N x (c.getD j undef))→bp w ro σ β N (.tuple cs) (.tuple c)
 |ptr (id off:Nat) (c:Value):id<N→(∀t cs,aD σ id=some (.box t cs)→∃b,β id= .pointer (some ⟨b,0,none⟩)∧c= .pointer (some ⟨b,off,none⟩))→bp w ro σ β N (.ptr id off) c
 |dx (id n:Nat) (c:Value):id<N→(∀t cs,aD σ id=some (.box t cs)→∃b,β id= .pointer (some ⟨b,0,none⟩)∧c= .slice (some ⟨b,0,none⟩) n n)→bp w ro σ β N (.dx id n) c
 |cV (id i off:Nat) (c:Value):id<N→(∀z t n es,aD σ id=some (.row z t n es)→∃b l hT,β id= .slice (some ⟨b,0,none⟩) l hT∧c= .pointer (some ⟨b,i*n+off,none⟩))→bp w ro σ β N (.cV id i off) c
 |aM (id:Nat) (c:Value):id<N→(∀z t n es,aD σ id=some (.row z t n es)→c=β id)→bp w ro σ β N (.aM id) c
 |fn (f:Fn) (p q:List aC) (c d:Array Value):c.size=p.length→d.size=q.length→(∀j x,p[j]? =some x→bp w ro σ β N x (c.getD j undef))→
  (∀j x,q[j]? =some x→bp w ro σ β N x (d.getD j undef))→bp w ro σ β N (.fn f p q) (.func f c d)
 |ref (id:Nat) (c:Value):id<N→(∀bM,aD σ id=some (.bK bM)→c=β id)→bp w ro σ β N (.ref id) c
 |top (c:Value):bp w ro σ β N .top c
inductive kN (w:World) (ro:Nat→Prop) (σ:Heap) (β:Nat→Value) (N:Nat) (id:Nat):eg→Prop where
 |box (t:TypeId) (cs:List aC) (b:Nat) (arr:Array Value):β id= .pointer (some ⟨b,0,none⟩)→w.heap[b]? =some (.cells arr t (0,0))→arr.size=cs.length→
  (∀j x,cs[j]? =some x→bp w ro σ β N x (arr.getD j undef))→kN w ro σ β N id (.box t cs)
 |row (t:TypeId) (n:Nat) (es:List (List a1)) (xs:List Value):h2 w t n (β id) es.length xs→(∀e∈es,e.length=n)→
  (∀j x,es.flatten[j]? =some x→cN w ro x (xs.getD j undef))→kN w ro σ β N id (.row false t n es)
 |gb (t:TypeId) (n:Nat) (es:List (List a1)):cN w ro (.aM n es) (β id)→kN w ro σ β N id (.row true t n es)
 |bK (bM:vK) (b:Nat) (o:Obj):b5 (β id)=some b→w.heap[b]? =some o→bM.holds (cN w ro) (β id) o→kN w ro σ β N id (.bK bM)
theorem h2.hB{w:World}{t:TypeId}{n:Nat}{v:Value}{len:Nat}{xs:List Value}(h:h2 w t n v len xs){b:Nat}(ad:b5 v=some b):
 b<w.heap.size∧∃cap cur,v= .slice (some ⟨b,0,none⟩) len cap∧w.heap[b]? =some (.cells cur t (0,0)):=by
 rcases h.2 with⟨⟨c,rfl,_⟩,_⟩|⟨g,cap,cur,rfl,hc,ah,_⟩
 ·cases c<;>simp[b5]at ad
 ·have:cap≠0:=by omega
  simp[b5,this]at ad;subst ad;exact⟨(Array.getElem?_eq_some_iff.1 ah).1,cap,cur,rfl,ah⟩
theorem h2.keep{w w':World}{t:TypeId}{n:Nat}{v:Value}{len:Nat}{xs:List Value}(h:h2 w t n v len xs)(hw: ∀b,b5 v=some b→w'.heap[b]? =w.heap[b]?)(bQ:w.heap.size≤w'.heap.size):h2 w' t n v len xs:=by
 refine⟨h.1,?_⟩
 rcases h.2 with⟨⟨b,aw,ad⟩,ar⟩|⟨g,cap,cur,aw,hc,ah,rest⟩
 ·exact .inl ⟨⟨b,aw,fun a a6=>Nat.lt_of_lt_of_le (ad a a6) bQ⟩,ar⟩
 ·have:cap≠0:=by omega
  exact .inr ⟨g,cap,cur,aw,hc,(hw g (by rw[aw];simp[b5,this])).trans ah,rest⟩
theorem kN.hB{w:World}{ro:Nat→Prop}{σ:Heap}{β:Nat→Value}{N id:Nat}{o:eg}(h:kN w ro σ β N id o)(ar:o.live=true){b:Nat}(ad:b5 (β id)=some b):b<w.heap.size:=by
 cases h with
 |box t cs b' arr aa ae=>rw[aa]at ad;simp[b5]at ad;subst ad;exact(Array.getElem?_eq_some_iff.1 ae).1
 |row t n es xs aa=>exact(aa.hB ad).1
 |gb=>simp[eg.live]at ar
 |bK bM b' o aa ae=>rw[aa]at ad;simp only[Option.some.injEq]at ad;subst ad;exact(Array.getElem?_eq_some_iff.1 ae).1
def Own(σ:Heap)(β:Nat→Value)(b:Nat):Prop:=∃id o,aD σ id=some o∧o.live=true∧b5 (β id)=some b
structure gX (w:World) (ro:Nat→Prop) (σ:Heap) (β:Nat→Value) (N:Nat):Prop where
 c6: ∀id o,aD σ id=some o→kN w ro σ β N id o
 inj: ∀id gp o cy b,aD σ id=some o→aD σ gp=some cy→o.live=true→cy.live=true→b5 (β id)=some b→b5 (β gp)=some b→id=gp
 fe: ∀b,ro b→¬Own σ β b
 lt: ∀b,ro b→b<w.heap.size
abbrev a8:=Nat→Option (List a1)
def rK(w:World)(ro:Nat→Prop)(G:a8):Prop:=∀g cs,G g=some cs→cN w ro (.ptr cs) (.pointer (some ⟨g,0,none⟩))∧ro g∧∃arr t sZ,w.heap[g]? =some (.cells arr t sZ)∧arr.size=cs.length
structure Entry where
 w:World
 ro:Nat→Prop
 σ:Heap
 β:Nat→Value
 n:Nat
structure Trans (E:Entry) (w:World) (ro:Nat→Prop) (σ:Heap) (β:Nat→Value) (n:Nat):Prop where
 os:w.os=E.w.os
 tape:w.tape=E.w.tape
 output:w.output=E.w.output
 size:E.w.heap.size≤w.heap.size
 frame: ∀b,b<E.w.heap.size→¬Own E.σ E.β b→w.heap[b]? =E.w.heap[b]?
 jb: ∀b,ro b→E.ro b∨Own E.σ E.β b∨E.w.heap.size≤b
 jR: ∀b,E.ro b→ro b
 gY: ∀b,Own σ β b→Own E.σ E.β b∨E.w.heap.size≤b
 dJ: ∀id,id<E.n→∀o,aD σ id=some o→aD E.σ id≠none∧β id=E.β id
 new: ∀id o,aD σ id=some o→id<n
 le:E.n≤n
structure aO where
 cO:List aC
 heap:Heap
 next:Nat
 base:Nat
structure c3 (E:Entry) (G:a8) (s:aO) (a:Act) (w:World) (β:Nat→Value) (ro:Nat→Prop):Prop where
 defers:a.defers=[]
 size:a.tmps.size=s.cO.length
 slot: ∀i x,s.cO[i]? =some x→bp w ro s.heap β s.next x (a.tmps.getD i undef)
 heap:gX w ro s.heap β s.next
 h3:rK w ro G
 trans:Trans E w ro s.heap β s.next
 base:E.n≤s.base
def Rel(E:Entry)(G:a8)(s:aO)(a:Act)(w:World):Prop:=∃β ro,c3 E G s a w β ro
theorem bp.keep{w w':World}{ro ro':Nat→Prop}{σ eU:Heap}{β dK:Nat→Value}{N oh:Nat}{x:aC}{c:Value}(h:bp w ro σ β N x c)
 (hw: ∀b,ro b→w'.heap[b]? =w.heap[b]?)(cc: ∀b,ro b→ro' b)(ob:N≤oh)
 (ng: ∀id t cs,aD eU id=some (.box t cs)→dK id=β id∧∃t cs,aD σ id=some (.box t cs))
 (cZ: ∀id z t n es,aD eU id=some (.row z t n es)→dK id=β id∧∃z t es,aD σ id=some (.row z t n es))
 (nh: ∀id bM,aD eU id=some (.bK bM)→dK id=β id∧∃bM,aD σ id=some (.bK bM)):bp w' ro' eU dK oh x c:=by
 induction h with
 |au x c hx=>exact .au x c (hx.keep hw cc)
 |agg cs c ai _ aZ=>exact .agg cs c ai aZ
 |tuple cs c ai _ aZ=>exact .tuple cs c ai aZ
 |ptr id off c ar ak=>
  refine .ptr id off c (by omega) fun t cs ah=>?_
  obtain⟨ad,bz,cs',dU⟩:=ng id t cs ah;obtain⟨b,aa,ae⟩:=ak bz cs' dU;exact⟨b,ad.trans aa,ae⟩
 |dx id off c ar ak=>
  refine .dx id off c (by omega) fun t cs ah=>?_
  obtain⟨ad,bz,cs',dU⟩:=ng id t cs ah;obtain⟨b,aa,ae⟩:=ak bz cs' dU;exact⟨b,ad.trans aa,ae⟩
 |cV id i off c ar ak=>
  refine .cV id i off c (by omega) fun z t n es ah=>?_
  obtain⟨ad,ij,bz,dN,dU⟩:=cZ id z t n es ah;obtain⟨b,l,hT,aa,ae⟩:=ak ij bz n dN dU;exact⟨b,l,hT,ad.trans aa,ae⟩
 |aM id c ar ak=>
  refine .aM id c (by omega) fun z t n es ah=>?_
  obtain⟨ad,ij,bz,dN,dU⟩:=cZ id z t n es ah;rw[ad];exact ak ij bz n dN dU
 |fn f p q c d aa ae _ _ gZ ha=>exact .fn f p q c d aa ae gZ ha
 |ref id c ar ak=>
  refine .ref id c (by omega) fun bM ah=>?_
  obtain⟨ad,lb,dU⟩:=nh id bM ah;rw[ad];exact ak lb dU
 |top c=>exact .top c
theorem rK.keep{w w':World}{ro ro':Nat→Prop}{G:a8}(h:rK w ro G)
 (hw: ∀b,ro b→w'.heap[b]? =w.heap[b]?)(cc: ∀b,ro b→ro' b):rK w' ro' G:=fun g cs ah=>by
 obtain⟨aa,ae,arr,t,sZ,av,aQ⟩:=h g cs ah
 exact⟨aa.keep hw cc,cc g ae,arr,t,sZ,(hw g ae).trans av,aQ⟩
def aO.put(s:aO)(dst:Option Nat)(v:aC):aO:=
 match dst with
 |some d=>{s with cO:=s.cO.set d v}
 |none=>s
theorem c3.put{E:Entry}{G:a8}{s:aO}{a:Act}{w:World}{β:Nat→Value}{ro:Nat→Prop}(h:c3 E G s a w β ro)(dst:Option Nat)(v:aC)(c:Value)
 (aw:bp w ro s.heap β s.next v c):c3 E G (s.put dst v) (a.put dst c) w β ro:=by
 cases dst with
 |none=>exact h
 |some d=>
  refine⟨h.defers,by simpa[Act.put,aO.put]using h.size,fun i x hx=>?_,h.heap,h.h3,h.trans,h.base⟩
  simp only[aO.put,Act.put]at hx⊢;rw[List.getElem?_set]at hx
  have bQ:=h.size
  by_cases Iy:d=i
  ·subst Iy
   simp only[if_true]at hx
   split at hx
   ·rename_i bI
    simp only[Option.some.injEq]at hx;subst hx
    have:d<a.tmps.size:=by omega
    simpa[this]using aw
   ·cases hx
  ·simp only[Iy,if_false]at hx
   have:=h.slot i x hx
   simpa[Array.getElem?_setIfInBounds_ne Iy]using this
end Go.aK
namespace Go.aK
open Go
def aI(G:a8)(s:aO):Operand→aC
 | .tmp t=>s.cO.getD t .top
 | .const v=>if v.oneCell' then .au (.v v)else .top
 | .global g=>match G g with
  |some cs=>.au (.ptr cs)
  |none=>.top
 | .func f=>.fn (.func f) [] []
theorem c3.eval{E:Entry}{G:a8}{s:aO}{a:Act}{w:World}{β:Nat→Value}{ro:Nat→Prop}(h:c3 E G s a w β ro)(x:Operand):
 bp w ro s.heap β s.next (aI G s x) (a.eval x):=by
 cases x with
 |tmp t=>
  simp only[aI,Act.eval]
  cases aH:s.cO[t]? with
  |none=>simp only[List.getD,aH];exact .top _
  |some v=>simp only[List.getD,aH];exact h.slot t v aH
 |const v=>
  simp only[aI,Act.eval]
  split
  ·exact .au _ _ (.v _ (by assumption))
  ·exact .top _
 |global g=>
  simp only[aI,Act.eval]
  split
  ·exact .au _ _ (h.h3 g _ (by assumption)).1
  ·exact .top _
 |func f=>exact .fn _ _ _ _ _ rfl rfl (by simp) (by simp)
def dO(P:Program)(G:a8)(o:Oper)(s bn:aO):Prop:=
 ∀E a w,Rel E G s a w→∀(K:Act→World→Prop) (Q:Exit→Act→World→Prop),(∀bc w',Rel E G bn bc w'→K bc w')→o.wp P a w K Q
def gd(w w':World):Prop:=∀b,b<w.heap.size→w'.heap[b]? =w.heap[b]?
def lT(P:Program)(G:a8)(o:Oper)(s bn:aO):Prop:=
 ∀E a w,Rel E G s a w→∀(K:Act→World→Prop) (Q:Exit→Act→World→Prop),(∀bc w',Rel E G bn bc w'→gd w w'→K bc w')→o.wp P a w K Q
theorem lT.op{P:Program}{G:a8}{o:Oper}{s bn:aO}(h:lT P G o s bn):dO P G o s bn:=fun E a w ag K Q hK=>h E a w ag K Q fun bc w' dV _=>hK bc w' dV
section
variable {P:Program} {G:a8} {o:Oper} {s:aO}
theorem dO.value{v:aC}(h: ∀E a w β ro,c3 E G s a w β ro→∃c,(execOp a.eval o).run P w= .ok (.value c) w∧bp w ro s.heap β s.next v c):
 dO P G o s (s.put o.dst v):=by
 intro E a w ⟨β,ro,ag⟩ K Q hK
 obtain⟨c,cn,aw⟩:=h E a w β ro ag
 unfold Oper.wp
 rw[cn]
 exact hK _ _ ⟨β,ro,ag.put o.dst v c aw⟩
abbrev cL(P:Program)(G:a8)(o:Oper)(s:aO)(v:aC):Prop:=
 ∀E a w β ro,c3 E G s a w β ro→∃c,(execOp a.eval o).run P w= .ok (.value c) w∧bp w ro s.heap β s.next v c
theorem cL.step{v:aC}(h:cL P G o s v):dO P G o s (s.put o.dst v):=.value h
theorem cL.Pu{v:aC}(h:cL P G o s v):lT P G o s (s.put o.dst v):=by
 intro E a w ⟨β,ro,ag⟩ K Q hK
 obtain⟨c,cn,aw⟩:=h E a w β ro ag
 unfold Oper.wp
 rw[cn]
 exact hK _ _ ⟨β,ro,ag.put o.dst v c aw⟩ fun _ _=>rfl
theorem Pv(x:Operand)(an:o.op= .move x):cL P G o s (aI G s x):=
 fun _ a w _ _ ag=>⟨a.eval x,by simp[execOp,an],ag.eval x⟩
theorem Pw(x:Operand)(an:o.op= .assign x):cL P G o s (aI G s x):=
 fun _ a w _ _ ag=>⟨a.eval x,by simp[execOp,an],ag.eval x⟩
def fl(σ:Heap):aC→Option (List aC)
 | .au (.ptr cs)=>some (cs.map .au)
 | .ptr id off=>match aD σ id with
  |some (.box _ cs)=>some (cs.drop off)
  |_=>none
 | .cV id i off=>match aD σ id with
  |some (.row false _ _ es)=>match es[i]? with
   |some e=>some ((e.drop off).map .au)
   |none=>none
  |_=>none
 |_=>none
theorem qF{α:Type}{n:Nat}: ∀{es:List (List α)},(∀e∈es,e.length=n)→∀{i:Nat} {e:List α},es[i]? =some e→∀j,j<n→es.flatten[i*n+j]? =e[j]?
 |[],_,i,e,h,_,_=>by simp at h
 |x::r,hn,i,e,h,j,af=>by
  have hx:x.length=n:=hn x (by simp)
  cases i with
  |zero=>
   simp at h;subst h;simp only[List.flatten_cons,Nat.zero_mul,Nat.zero_add];rw[List.getElem?_append_left (by omega)]
  |succ i=>
   simp at h
   have aZ:=qF (es:=r) (fun e he=>hn e (by simp[he])) h j af
   simp only[List.flatten_cons];rw[List.getElem?_append_right (by rw[Nat.succ_mul];omega),←aZ]
   congr 1
   rw[Nat.succ_mul];omega
theorem jS{α:Type}{n:Nat}: ∀{es:List (List α)},(∀e∈es,e.length=n)→es.flatten.length=es.length*n
 |[],_=>by simp
 |x::r,hn=>by
  simp only[List.flatten_cons,List.length_append,List.length_cons,Nat.succ_mul];rw[jS (es:=r) (fun e he=>hn e (by simp[he])),hn x (by simp)]
  omega
theorem bp.one{w:World}{ro:Nat→Prop}{σ:Heap}{β:Nat→Value}{N:Nat}{x:a1}{c:Value}(h:bp w ro σ β N (.au x) c):c.oneCell'=true:=by
 cases h with
 |au _ _ h=>exact h.one
theorem vM{w:World}{ro:Nat→Prop}{σ:Heap}{β:Nat→Value}{N:Nat}(bd:gX w ro σ β N){p:aC}{c:Value}{cs:List aC}(ak:fl σ p=some cs)(hc:bp w ro σ β N p c)
 (b7:cs≠[]): ∃a,c= .pointer (some a)∧∃f:Nat→Value,∀j x,cs[j]? =some x→w.cell? (a.add j)=some (f j)∧bp w ro σ β N x (f j):=by
 cases hc with
 |au x c hx=>
  cases hx with
  |v x=>simp[fl]at ak
  |ptr cs' a f aa ae=>
   simp only[fl,Option.some.injEq]at ak;subst ak;refine⟨a,rfl,f,fun j x af=>?_⟩
   rw[List.getElem?_map]at af
   cases oj:cs'[j]? with
   |none=>simp[oj]at af
   |some y=>
    simp[oj]at af;subst af;exact⟨(aa j y oj).2,.au _ _ (ae j y oj)⟩
  |aM=>simp[fl]at ak
  |mp=>simp[fl]at ak
  |ek=>simp[fl]at ak
  |li=>simp[fl]at ak
 |ptr id off c bI r3=>
  simp only[fl]at ak
  cases an:aD σ id with
  |none=>simp[an]at ak
  |some h4=>
   cases h4 with
   |row=>simp[an]at ak
   |bK=>simp[an]at ak
   |box t cs'=>
    simp only[an,Option.some.injEq]at ak;subst ak;obtain⟨b,ad,rfl⟩:=r3 t cs' an
    have dj:=bd.c6 id _ an
    cases dj with
    |box _ _ b' arr fT ah bQ eV=>
     rw[ad]at fT;simp only[Value.pointer.injEq,Option.some.injEq,Addr.mk.injEq,and_true]at fT;subst fT;refine⟨_,rfl,fun j=>arr.getD (off+j) undef,fun j x af=>?_⟩
     rw[List.getElem?_drop]at af
     have bI:off+j<cs'.length:=by
      rcases Nat.lt_or_ge (off+j) cs'.length with h|h
      ·exact h
      ·rw[List.getElem?_eq_none h]at af;cases af
     refine⟨?_,eV _ _ af⟩
     rw[addLit,cell_of_row w b (off+j) arr t (0,0) ah]
     have:off+j<arr.size:=by omega
     simp[this]
 |cV id i off c bI r3=>
  simp only[fl]at ak
  cases an:aD σ id with
  |none=>simp[an]at ak
  |some h4=>
   cases h4 with
   |box=>simp[an]at ak
   |bK=>simp[an]at ak
   |row z t n es=>
    cases z with
    |true=>simp[an]at ak
    |false=>
     simp only[an]at ak
     cases mz:es[i]? with
     |none=>simp[mz]at ak
     |some e=>
      simp only[mz,Option.some.injEq]at ak;subst ak;obtain⟨b,l,hT,ad,rfl⟩:=r3 false t n es an
      have dj:=bd.c6 id _ an
      cases dj with
      |row _ _ _ xs hs hn eV=>
       rw[ad]at hs;obtain⟨B5,om⟩:=hs
       rcases om with⟨⟨_,h,_⟩,aV⟩|⟨g,cap,cur,aw,_,ah,hle,h5,dH,ld⟩
       ·have:=(List.getElem?_eq_some_iff.1 mz).1;omega
       ·simp only[Value.slice.injEq,Option.some.injEq,Addr.mk.injEq,and_true]at aw
        obtain⟨rfl,_,_⟩:=aw;refine⟨_,rfl,fun j=>xs.getD (i*n+(off+j)) undef,fun j x af=>?_⟩
        rw[List.getElem?_map]at af
        cases oj:(e.drop off)[j]? with
        |none=>simp[oj]at af
        |some y=>
         simp[oj]at af;subst af;rw[List.getElem?_drop]at oj
         have ni:e.length=n:=hn e (List.mem_of_getElem? mz)
         have mo:off+j<n:=by
          rcases Nat.lt_or_ge (off+j) e.length with h|h
          ·omega
          ·rw[List.getElem?_eq_none h]at oj;cases oj
         have lU:es.flatten[i*n+(off+j)]? =some y:=by rw[qF hn mz _ mo];exact oj
         refine⟨?_,.au _ _ (eV _ _ lU)⟩
         have jB:i*n+(off+j)<xs.length:=by
          have aa:i*n+(off+j)<es.flatten.length:=by
           rcases Nat.lt_or_ge (i*n+(off+j)) es.flatten.length with h|h
           ·exact h
           ·rw[List.getElem?_eq_none h]at lU;cases lU
          rw[jS hn]at aa
          have ae:=B5
          omega
         rw[addLit,Nat.add_assoc,cell_of_row w b _ cur t (0,0) ah]
         have hx:xs[i*n+(off+j)]? =cur[i*n+(off+j)]? :=by
          rw[←ld,List.getElem?_take]
          have ae:=B5
          rw[if_pos (by omega)]
          simp
         rw[←hx];simp[List.getD,List.getElem?_eq_getElem jB]
 |agg=>simp[fl]at ak
 |tuple=>simp[fl]at ak
 |aM=>simp[fl]at ak
 |fn=>simp[fl]at ak
 |ref=>simp[fl]at ak
 |dx=>simp[fl]at ak
 |top=>simp[fl]at ak
def lV(P:Program)(t:TypeId):Option Nat:=
 match P.underlying t with
 |some (.struct _)|some (.array _ _)=>(P.info? t).map (·.size)
 |_=>none
def scalar(P:Program)(t:TypeId):Bool:=
 match P.underlying t with
 |some (.struct _)|some (.array _ _)|none=>false
 |_=>true
theorem B6{t:TypeId}{n:Nat}(h:lV P t=some n)(w:World):(isAgg t).run P w= .ok true w∧(sizeOf t).run P w= .ok n w:=by
 unfold lV at h
 cases hu:P.underlying t with
 |none=>simp[hu]at h
 |some d=>
  cases hi:P.info? t with
  |none=>cases d<;>simp[hu,hi]at h
  |some i=>
   cases d<;>simp[hu,hi]at h
   all_goals
    subst h;exact⟨by simp[isAgg,run_underlying hu],by simp[sizeOf,typeInfo,hi]⟩
theorem yA{t:TypeId}(h:scalar P t=true)(w:World):(isAgg t).run P w= .ok false w:=by
 unfold scalar at h
 cases hu:P.underlying t with
 |none=>simp[hu]at h
 |some d=>cases d<;>simp[hu]at h<;>simp[isAgg,run_underlying hu]
theorem Px(t:TypeId)(x:Operand)(an:o.op= .load t x){n:Nat}(aH:lV P t=some n){cs:List aC}(ak:fl s.heap (aI G s x)=some cs)(hn:n≤cs.length)(aP:0<n):
 cL P G o s (.agg (cs.take n)):=
 fun _ a w β ro ag=>by
  obtain⟨cW,hc,f,hf⟩:=vM ag.heap ak (ag.eval x) (by intro h;subst h;simp at hn;omega)
  obtain⟨aa,ae⟩:=B6 aH w
  have ar:=run_loadCells (P:=P) w cW n f (fun j af=>(hf j (cs[j]'(by omega)) (by simp)).1)
  refine⟨.agg ((List.range n).map f).toArray,?_,.agg _ _ (by simp;omega) fun j y af=>?_⟩
  ·simp[execOp,an,hc,Instr.loadAt,Instr.sureAddr,loadVar,aa,ae,ar]
  ·rw[List.getElem?_take]at af
   split at af
   ·have:=(hf j y af).2
    rename_i mo;simpa[mo]using this
   ·cases af
theorem Iz(t:TypeId)(x:Operand)(an:o.op= .load t x)(aH:scalar P t=true){y:aC}{cs:List aC}(ak:fl s.heap (aI G s x)=some (y::cs)):
 cL P G o s y:=
 fun _ a w β ro ag=>by
  obtain⟨cW,hc,f,hf⟩:=vM ag.heap ak (ag.eval x) (by simp)
  have aa:=yA aH w
  obtain⟨kO,dy⟩:=hf 0 y rfl;rw[show cW.add 0=cW from by simp[Addr.add]]at kO
  exact⟨f 0,by simp[execOp,an,hc,Instr.loadAt,Instr.sureAddr,loadVar,aa,run_load,kO],dy⟩
def r4(P:Program)(t:TypeId)(f:Nat):Option Nat:=
 match P.underlying t with
 |some (.struct fs)=>match fs[f]? with
  |some fd=>match P.info? fd.type with
   |some i=>if i.size=0 then none else some fd.offset
   |none=>none
  |none=>none
 |_=>none
def iD(k:Nat):aC→Option aC
 | .au (.ptr cs)=>some (.au (.ptr (cs.drop k)))
 | .ptr id off=>some (.ptr id (off+k))
 | .cV id i off=>some (.cV id i (off+k))
 |_=>none
theorem Py{w:World}{ro:Nat→Prop}{σ:Heap}{β:Nat→Value}{N:Nat}{p q:aC}{c:Value}{cs:List aC}{k:Nat}(ai:iD k p=some q)(ak:fl σ p=some cs)(hc:bp w ro σ β N p c):
 ∃a,c= .pointer (some a)∧bp w ro σ β N q (.pointer (some (a.add k))):=by
 cases hc with
 |au x c hx=>
  cases hx with
  |v x=>simp[iD]at ai
  |ptr cs' a f aa ae=>
   simp only[iD,Option.some.injEq]at ai;subst ai;refine⟨a,rfl,.au _ _ (.ptr _ _ (fun j=>f (k+j)) (fun j x af=>?_) (fun j x af=>?_))⟩
   ·rw[List.getElem?_drop]at af
    rw[pK,yy];exact aa _ _ af
   ·rw[List.getElem?_drop]at af
    exact ae _ _ af
  |aM=>simp[iD]at ai
  |mp=>simp[iD]at ai
  |ek=>simp[iD]at ai
  |li=>simp[iD]at ai
 |ptr id off c bI r3=>
  simp only[iD,Option.some.injEq]at ai;subst ai;simp only[fl]at ak
  split at ak
  ·rename_i t cs' an
   obtain⟨b,ad,rfl⟩:=r3 t cs' an;refine⟨_,rfl,.ptr _ _ _ bI fun bz zh9 lW=>⟨b,ad,by rw[addLit]⟩⟩
  ·cases ak
 |cV id i off c bI r3=>
  simp only[iD,Option.some.injEq]at ai;subst ai;simp only[fl]at ak
  split at ak
  ·rename_i t n es an
   obtain⟨b,l,hT,ad,rfl⟩:=r3 false t n es an;refine⟨_,rfl,.cV _ _ _ _ bI fun ij bz cH dN lW=>⟨b,l,hT,ad,?_⟩⟩
   rw[an]at lW;simp only[Option.some.injEq,eg.row.injEq]at lW;obtain⟨_,_,rfl,_⟩:=lW;rw[addLit,Nat.add_assoc]
  ·cases ak
 |agg=>simp[iD]at ai
 |tuple=>simp[iD]at ai
 |aM=>simp[iD]at ai
 |fn=>simp[iD]at ai
 |ref=>simp[iD]at ai
 |dx=>simp[iD]at ai
 |top=>simp[iD]at ai
theorem Pz{t f k:Nat}(h:r4 P t f=some k)(a:Addr)(w:World):(Instr.fieldAt t (.pointer (some a)) f).run P w= .ok (.pointer (some (a.add k))) w:=by
 unfold r4 at h
 split at h
 ·rename_i fs hu
  split at h
  ·rename_i fd hf
   split at h
   ·rename_i i hi
    split at h
    ·cases h
    ·rename_i aV
     simp only[Option.some.injEq]at h;subst h;simp[Instr.fieldAt,run_underlying hu,hf,Instr.sureAddr,fieldPlace,sizeOf,typeInfo,hi,aV]
   ·cases h
  ·cases h
 ·cases h
def jC(σ:Heap):aC→Bool
 | .au (.ptr _)=>true
 | .ptr id _=>match aD σ id with
  |some (.box _ _)=>true
  |_=>false
 | .cV id _ _=>match aD σ id with
  |some (.row _ _ _ _)=>true
  |_=>false
 |_=>false
def qG(k:Nat):aC→aC
 | .au (.ptr cs)=>.au (.ptr (cs.drop k))
 | .ptr id off=>.ptr id (off+k)
 | .cV id i off=>.cV id i (off+k)
 |x=>x
theorem yB{w:World}{ro:Nat→Prop}{σ:Heap}{β:Nat→Value}{N:Nat}{x:aC}{c:Value}(hx:jC σ x=true)(h:bp w ro σ β N x c): ∃a,c= .pointer (some a)∧∀k,bp w ro σ β N (qG k x) (.pointer (some (a.add k))):=by
 cases h with
 |au x c ag=>
  cases ag with
  |ptr cs a f aa ae=>
   refine⟨a,rfl,fun k=>.au _ _ (.ptr _ _ (fun j=>f (k+j)) (fun j x af=>?_) (fun j x af=>?_))⟩
   ·rw[List.getElem?_drop]at af
    rw[pK,yy];exact aa _ _ af
   ·rw[List.getElem?_drop]at af
    exact ae _ _ af
  |v=>simp[jC]at hx
  |aM=>simp[jC]at hx
  |mp=>simp[jC]at hx
  |ek=>simp[jC]at hx
  |li=>simp[jC]at hx
 |ptr id off c ar ak=>
  simp only[jC]at hx
  split at hx
  ·rename_i t cs ah
   obtain⟨b,ad,rfl⟩:=ak t cs ah;refine⟨_,rfl,fun k=>.ptr id (off+k) _ ar fun bz cs' dU=>?_⟩
   obtain⟨b',fT,yC⟩:=ak bz cs' dU;rw[ad]at fT;simp only[Value.pointer.injEq,Option.some.injEq,Addr.mk.injEq,and_true]at fT;subst fT;exact⟨b,ad,by rw[addLit]⟩
  ·cases hx
 |cV id i off c ar ak=>
  simp only[jC]at hx
  split at hx
  ·rename_i z t n es ah
   obtain⟨b,l,hT,ad,rfl⟩:=ak z t n es ah;refine⟨_,rfl,fun k=>.cV id i (off+k) _ ar fun ij bz cH dN dU=>?_⟩
   rw[ah]at dU;simp only[Option.some.injEq,eg.row.injEq]at dU;obtain⟨_,_,rfl,_⟩:=dU;exact⟨b,l,hT,ad,by rw[addLit,Nat.add_assoc]⟩
  ·cases hx
 |_=>simp[jC]at hx
theorem PA(t:TypeId)(x:Operand)(f:Nat)(an:o.op= .fieldAddr t x f){k:Nat}(aj:r4 P t f=some k)(ak:jC s.heap (aI G s x)=true):cL P G o s (qG k (aI G s x)):=
 fun _ a w β ro ag=>by
  obtain⟨cW,hc,dy⟩:=yB ak (ag.eval x);exact⟨_,by simp[execOp,an,hc,Pz aj],dy k⟩
theorem PB(x:Operand)(an:o.op= .nilCheck x)(ak:jC s.heap (aI G s x)=true):cL P G o s (aI G s x):=
 fun _ a w β ro ag=>by
  obtain⟨cW,hc,_⟩:=yB ak (ag.eval x);exact⟨_,by simp[execOp,an,hc],hc ▸ ag.eval x⟩
end
end Go.aK
namespace Go.aK
open Go
def gN(β:Nat→Value)(id:Nat)(v:Value):Nat→Value:=fun k=>if k=id then v else β k
theorem dP(β:Nat→Value)(id:Nat)(v:Value):gN β id v id=v:=by simp[gN]
theorem c0(β:Nat→Value){id k:Nat}(v:Value)(h:k≠id):gN β id v k=β k:=by simp[gN,h]
section
variable {E:Entry} {G:a8} {s:aO} {a:Act} {w w':World} {β:Nat→Value} {ro:Nat→Prop}
theorem kN.keep{w w':World}{ro ro':Nat→Prop}{σ eU:Heap}{β dK:Nat→Value}{N oh:Nat}{id:Nat}{o:eg}(h:kN w ro σ β N id o)
 (hw: ∀b,ro b→w'.heap[b]? =w.heap[b]?)(cc: ∀b,ro b→ro' b)(ob:N≤oh)(bQ:w.heap.size≤w'.heap.size)(bb:dK id=β id)(gF:o.live=true→∀b,b5 (β id)=some b→w'.heap[b]? =w.heap[b]?)
 (ng: ∀id t cs,aD eU id=some (.box t cs)→dK id=β id∧∃t cs,aD σ id=some (.box t cs))
 (cZ: ∀id z t n es,aD eU id=some (.row z t n es)→dK id=β id∧∃z t es,aD σ id=some (.row z t n es))
 (nh: ∀id bM,aD eU id=some (.bK bM)→dK id=β id∧∃bM,aD σ id=some (.bK bM)):kN w' ro' eU dK oh id o:=by
 cases h with
 |box t cs b arr aa ae av aQ=>
  exact .box t cs b arr (bb.trans aa) ((gF rfl b (by rw[aa];rfl)).trans ae) av fun j x af=>(aQ j x af).keep hw cc ob ng cZ nh
 |row t n es xs aa ae av=>
  exact .row t n es xs (by rw[bb];exact aa.keep (fun b ad=>gF rfl b ad) bQ) ae fun j x af=>(av j x af).keep hw cc
 |gb t n es aa=>exact .gb t n es (by rw[bb];exact aa.keep hw cc)
 |bK bM b o aa ae av=>exact .bK bM b o (by rw[bb];exact aa) ((gF rfl b aa).trans ae) (by rw[bb];exact bM.mono _ _ _ _ (fun x c h=>h.keep hw cc) av)
theorem c3.new(h:c3 E G s a w β ro)(id:Nat)(bb:aD s.heap id=none)(ad:s.base≤id)(bI:s.next≤id)(o:eg)(val:Value)
 (oo:w'.os=w.os)(oq:w'.tape=w.tape)(kk:w'.output=w.output)(bQ:w.heap.size≤w'.heap.size)(hw: ∀b,b<w.heap.size→w'.heap[b]? =w.heap[b]?)
 (gF: ∀b,b5 val=some b→w.heap.size≤b)(_hlive:o.live=true)
 (dj:kN w' ro ((id,o)::s.heap) (gN β id val) (id+1) id o):c3 E G {s with heap:=(id,o)::s.heap,next:=id+1} a w' (gN β id val) ro:=by
 have cc: ∀b,ro b→w'.heap[b]? =w.heap[b]? :=fun b ag=>hw b (h.heap.lt b ag)
 have ah: ∀k,k≠id→aD ((id,o)::s.heap) k=aD s.heap k:=fun k aj=>by simp[aD,Ne.symm aj]
 have tF:aD ((id,o)::s.heap) id=some o:=by simp[aD]
 have IA: ∀k p b,aD s.heap k=some p→p.live=true→b5 (β k)=some b→b<w.heap.size:=fun k p b aj ak bf=>(h.heap.c6 k p aj).hB ak bf
 have key: ∀x c,bp w ro s.heap β s.next x c→bp w' ro ((id,o)::s.heap) (gN β id val) (id+1) x c:=by
  intro x c hx
  induction hx with
  |au x c hx=>exact .au x c (hx.keep cc fun _ h=>h)
  |agg cs c ai _ aZ=>exact .agg cs c ai aZ
  |tuple cs c ai _ aZ=>exact .tuple cs c ai aZ
  |ptr k off c ar ak=>
   have aj:k≠id:=by omega
   exact .ptr k off c (by omega) fun t cs bm=>by rw[c0 _ _ aj];rw[ah k aj]at bm;exact ak t cs bm
  |dx k off c ar ak=>
   have aj:k≠id:=by omega
   exact .dx k off c (by omega) fun t cs bm=>by rw[c0 _ _ aj];rw[ah k aj]at bm;exact ak t cs bm
  |cV k i off c ar ak=>
   have aj:k≠id:=by omega
   exact .cV k i off c (by omega) fun z t n es bm=>by rw[c0 _ _ aj];rw[ah k aj]at bm;exact ak z t n es bm
  |aM k c ar ak=>
   have aj:k≠id:=by omega
   exact .aM k c (by omega) fun z t n es bm=>by rw[c0 _ _ aj];rw[ah k aj]at bm;exact ak z t n es bm
  |fn f p q c d aa ae _ _ gZ ha=>exact .fn f p q c d aa ae gZ ha
  |ref k c ar ak=>
   have aj:k≠id:=by omega
   exact .ref k c (by omega) fun bM bm=>by rw[c0 _ _ aj];rw[ah k aj]at bm;exact ak bM bm
  |top c=>exact .top c
 refine⟨h.defers,h.size,fun i x hx=>key _ _ (h.slot i x hx),⟨fun k p aj=>?_,fun k bk p fW b aj ey ak gG bf en=>?_,fun b ag=>?_,fun b ag=>Nat.lt_of_lt_of_le (h.heap.lt b ag) bQ⟩,
  h.h3.keep cc fun _ h=>h,?_,h.base⟩
 ·by_cases br:k=id
  ·subst br
   rw[tF]at aj;simp only[Option.some.injEq]at aj;subst aj;exact dj
  ·rw[ah k br]at aj
   have gH:=h.heap.c6 k p aj
   cases gH with
   |box t cs b arr aa ae av aQ=>
    have hC:=IA k _ b aj rfl (by rw[aa];rfl)
    exact .box t cs b arr (by rw[c0 _ _ br];exact aa) ((hw b hC).trans ae) av fun j x af=>key _ _ (aQ j x af)
   |row t n es xs aa ae av=>
    exact .row t n es xs (by rw[c0 _ _ br];exact aa.keep (fun b ad=>hw b (aa.hB ad).1) bQ) ae fun j x af=>(av j x af).keep cc fun _ h=>h
   |gb t n es aa=>exact .gb t n es (by rw[c0 _ _ br];exact aa.keep cc fun _ h=>h)
   |bK bM b o aa ae av=>exact .bK bM b o (by rw[c0 _ _ br];exact aa) ((hw b (Array.getElem?_eq_some_iff.1 ae).1).trans ae) (by rw[c0 _ _ br];exact bM.mono _ _ _ _ (fun x c h=>h.keep cc fun _ h=>h) av)
 ·by_cases br:k=id
  ·by_cases gI:bk=id
   ·rw[br,gI]
   ·subst br
    rw[dP]at bf;rw[c0 _ _ gI]at en;rw[ah bk gI]at ey
    have aa:=gF b bf
    have ae:=IA bk fW b ey gG en
    omega
  ·by_cases gI:bk=id
   ·subst gI
    rw[dP]at en;rw[c0 _ _ br]at bf;rw[ah k br]at aj
    have aa:=gF b en
    have ae:=IA k p b aj ak bf
    omega
   ·rw[c0 _ _ br]at bf
    rw[c0 _ _ gI]at en;rw[ah k br]at aj;rw[ah bk gI]at ey;exact h.heap.inj k bk p fW b aj ey ak gG bf en
 ·rintro⟨k,p,aj,ak,bf⟩
  by_cases br:k=id
  ·subst br
   rw[dP]at bf
   have aa:=gF b bf
   have ae:=h.heap.lt b ag
   omega
  ·rw[c0 _ _ br]at bf
   rw[ah k br]at aj;exact h.heap.fe b ag ⟨k,p,aj,ak,bf⟩
 ·have t:=h.trans
  refine⟨oo.trans t.os,oq.trans t.tape,kk.trans t.output,Nat.le_trans t.size bQ,fun b hC gf=>?_,t.jb,t.jR,?_,fun k aj p bm=>?_,fun k p bm=>?_,Nat.le_trans h.base (Nat.le_trans ad (Nat.le_succ _))⟩
  ·rw[hw b (Nat.lt_of_lt_of_le hC t.size)]
   exact t.frame b hC gf
  ·rintro b ⟨k,p,aj,ak,bf⟩
   by_cases br:k=id
   ·subst br
    rw[dP]at bf;exact .inr (Nat.le_trans t.size (gF b bf))
   ·rw[c0 _ _ br]at bf
    rw[ah k br]at aj;exact t.gY b ⟨k,p,aj,ak,bf⟩
  ·have br:k≠id:=by have:=h.base;omega
   rw[ah k br]at bm;rw[c0 _ _ br];exact t.dJ k aj p bm
  ·by_cases br:k=id
   ·subst br;exact Nat.lt_succ_self _
   ·rw[ah k br]at bm
    have:=t.new k p bm
    show k<id+1;omega
theorem c3.write(h:c3 E G s a w β ro)(id:Nat)(o cy:eg)(bb:aD s.heap id=some o)(vN:o.live=true)(zia:cy.live=true)
 (yD:(∃t cs cs',o= .box t cs∧cy= .box t cs')∨(∃t n es dN,o= .row false t n es∧cy= .row false t n dN)∨(∃bM lb,o= .bK bM∧cy= .bK lb))
 (oo:w'.os=w.os)(oq:w'.tape=w.tape)(kk:w'.output=w.output)(bQ:w.heap.size≤w'.heap.size)(hw: ∀b,b<w.heap.size→b5 (β id)≠some b→w'.heap[b]? =w.heap[b]?)
 (dj:kN w' ro (eL s.heap id cy) β s.next id cy):c3 E G {s with heap:=eL s.heap id cy} a w' β ro:=by
 have cc: ∀b,ro b→w'.heap[b]? =w.heap[b]? :=fun b ag=>hw b (h.heap.lt b ag) fun ad=>h.heap.fe b ag ⟨id,o,bb,vN,ad⟩
 have ah:=vL s.heap id cy
 have own: ∀b,Own (eL s.heap id cy) β b→Own s.heap β b:=by
  rintro b ⟨k,p,aj,ak,bf⟩
  rw[ah k]at aj
  by_cases br:id=k
  ·subst br;exact⟨id,o,bb,vN,bf⟩
  ·rw[if_neg br]at aj;exact⟨k,p,aj,ak,bf⟩
 have nj: ∀k p b,aD s.heap k=some p→p.live=true→b5 (β k)=some b→b<w.heap.size:=fun k p b aj ak bf=>(h.heap.c6 k p aj).hB ak bf
 have ng: ∀k t cs,aD (eL s.heap id cy) k=some (.box t cs)→β k=β k∧∃t cs,aD s.heap k=some (.box t cs):=by
  intro k t cs aj;rw[ah k]at aj
  by_cases br:id=k
  ·subst br
   rw[if_pos rfl]at aj;simp only[Option.some.injEq]at aj
   rcases yD with⟨t1,aW,dp,rfl,rfl⟩|⟨t1,n,aA,bh,rfl,rfl⟩|⟨_,_,rfl,rfl⟩
   ·exact⟨rfl,t1,aW,bb⟩
   ·cases aj
   ·cases aj
  ·rw[if_neg br]at aj;exact⟨rfl,t,cs,aj⟩
 have cZ: ∀k z t n es,aD (eL s.heap id cy) k=some (.row z t n es)→β k=β k∧∃z t es,aD s.heap k=some (.row z t n es):=by
  intro k z t n es aj;rw[ah k]at aj
  by_cases br:id=k
  ·subst br
   rw[if_pos rfl]at aj;simp only[Option.some.injEq]at aj
   rcases yD with⟨t1,aW,dp,rfl,rfl⟩|⟨t1,gL,aA,bh,rfl,rfl⟩|⟨_,_,rfl,rfl⟩
   ·cases aj
   ·simp only[eg.row.injEq]at aj
    obtain⟨_,_,rfl,_⟩:=aj;exact⟨rfl,_,_,_,bb⟩
   ·cases aj
  ·rw[if_neg br]at aj;exact⟨rfl,z,t,es,aj⟩
 have nh: ∀k bM,aD (eL s.heap id cy) k=some (.bK bM)→β k=β k∧∃bM,aD s.heap k=some (.bK bM):=by
  intro k bM aj;rw[ah k]at aj
  by_cases br:id=k
  ·subst br
   rw[if_pos rfl]at aj;simp only[Option.some.injEq]at aj
   rcases yD with⟨t1,aW,dp,rfl,rfl⟩|⟨t1,gL,aA,bh,rfl,rfl⟩|⟨zbB,_,rfl,rfl⟩
   ·cases aj
   ·cases aj
   ·exact⟨rfl,zbB,bb⟩
  ·rw[if_neg br]at aj;exact⟨rfl,bM,aj⟩
 refine⟨h.defers,h.size,fun i x hx=>(h.slot i x hx).keep cc (fun _ h=>h) (Nat.le_refl _) ng cZ nh,⟨fun k p aj=>?_,fun k bk p fW b aj ey ak gG bf en=>?_,fun b ag ad=>h.heap.fe b ag (own b ad),
  fun b ag=>Nat.lt_of_lt_of_le (h.heap.lt b ag) bQ⟩,h.h3.keep cc fun _ h=>h,?_,h.base⟩
 ·rw[ah k]at aj
  by_cases br:id=k
  ·subst br
   rw[if_pos rfl]at aj;simp only[Option.some.injEq]at aj;subst aj;exact dj
  ·rw[if_neg br]at aj
   refine(h.heap.c6 k p aj).keep cc (fun _ h=>h) (Nat.le_refl _) bQ rfl (fun ar b ad=>hw b (nj k p b aj ar ad) fun jD=>br (h.heap.inj id k o p b bb aj vN ar jD ad)) ng cZ nh
 ·have aa: ∃q,aD s.heap k=some q∧q.live=true:=by
   rw[ah k]at aj
   by_cases br:id=k
   ·subst br;exact⟨o,bb,vN⟩
   ·rw[if_neg br]at aj;exact⟨p,aj,ak⟩
  have ae: ∃q,aD s.heap bk=some q∧q.live=true:=by
   rw[ah bk]at ey
   by_cases br:id=bk
   ·subst br;exact⟨o,bb,vN⟩
   ·rw[if_neg br]at ey;exact⟨fW,ey,gG⟩
  obtain⟨q,aJ,qH⟩:=aa;obtain⟨q',tG,yE⟩:=ae;exact h.heap.inj k bk q q' b aJ tG qH yE bf en
 ·have t:=h.trans
  refine⟨oo.trans t.os,oq.trans t.tape,kk.trans t.output,Nat.le_trans t.size bQ,fun b hC gf=>?_,t.jb,t.jR,fun b ad=>t.gY b (own b ad),fun k aj p bm=>?_,fun k p bm=>?_,t.le⟩
  ·by_cases jD:b5 (β id)=some b
   ·rcases t.gY b ⟨id,o,bb,vN,jD⟩with hc|hc
    ·exact absurd hc gf
    ·omega
   ·rw[hw b (Nat.lt_of_lt_of_le hC t.size) jD]
    exact t.frame b hC gf
  ·rw[ah k]at bm
   by_cases br:id=k
   ·subst br;exact t.dJ id aj o bb
   ·rw[if_neg br]at bm;exact t.dJ k aj p bm
  ·rw[ah k]at bm
   by_cases br:id=k
   ·subst br;exact t.new id o bb
   ·rw[if_neg br]at bm;exact t.new k p bm
end
end Go.aK
namespace Go.aK
open Go
def cP:aC→List aC
 | .agg cs=>cs
 |x=>[x]
section
variable {w:World} {ro:Nat→Prop} {σ:Heap} {β:Nat→Value} {N:Nat}
def eB(σ:Heap):aC→Bool
 | .au _| .fn _ _ _=>true
 | .ptr id _=>match aD σ id with
  |some (.box _ _)=>true
  |_=>false
 | .aM id=>match aD σ id with
  |some (.row _ _ _ _)=>true
  |_=>false
 | .cV id _ _=>match aD σ id with
  |some (.row _ _ _ _)=>true
  |_=>false
 |_=>false
theorem B7(bd:gX w ro σ β N){x:aC}{c:Value}(hx:eB σ x=true)(h:bp w ro σ β N x c):c.oneCell'=true:=by
 cases h with
 |au x c h=>exact h.one
 |agg=>simp[eB]at hx
 |tuple=>simp[eB]at hx
 |ptr id off c ar ak=>
  simp only[eB]at hx
  split at hx
  ·rename_i t cs ah
   obtain⟨b,_,rfl⟩:=ak t cs ah;rfl
  ·cases hx
 |cV id i off c ar ak=>
  simp only[eB]at hx
  split at hx
  ·rename_i z t n es ah
   obtain⟨b,l,hT,_,rfl⟩:=ak z t n es ah;rfl
  ·cases hx
 |aM id c ar ak=>
  simp only[eB]at hx
  split at hx
  ·rename_i z t n es ah
   rw[ak z t n es ah]
   have:=bd.c6 id _ ah
   cases this with
   |row _ _ _ xs aa=>
    rcases aa.2 with⟨⟨_,aw,_⟩,_⟩|⟨g,cap,cur,aw,_⟩<;>rw[aw]<;>rfl
   |gb _ _ _ aa=>exact aa.one
  ·cases hx
 |fn=>rfl
 |ref=>simp[eB]at hx
 |dx=>simp[eB]at hx
 |top=>simp[eB]at hx
theorem bp.cP{x:aC}{c:Value}(h:bp w ro σ β N x c)(dZ:(cP x).all (eB σ)=true)(bd:gX w ro σ β N):
 c.cells.size=(cP x).length∧(∀j y,(Go.aK.cP x)[j]? =some y→bp w ro σ β N y (c.cells.getD j undef))∧∀u∈c.cells.toList,u.oneCell'=true:=by
 cases h with
 |agg cs c ai hc=>
  refine⟨ai,hc,fun u hu=>?_⟩
  obtain⟨j,af,rfl⟩:=List.mem_iff_getElem.1 hu
  have PC:j<cs.length:=by simpa[Value.cells,ai]using af
  have aa:=hc j cs[j] (List.getElem?_eq_getElem PC)
  have ae:eB σ cs[j]=true:=by
   simp only[Go.aK.cP,List.all_eq_true]at dZ;exact dZ _ (List.getElem_mem PC)
  have av:=B7 bd ae aa
  have yF:j<c.size:=by omega
  simpa[Value.cells,yF]using av
 |au x c hx=>
  have aa:c.cells= #[c]:=by have:=hx.one;cases c<;>simp_all[Value.cells,Value.oneCell']
  refine⟨by simp[aa,Go.aK.cP],fun j y af=>?_,fun u hu=>?_⟩
  ·cases j with
   |zero=>simp[Go.aK.cP]at af;subst af;simpa[aa]using bp.au x c hx
   |succ j=>simp[Go.aK.cP]at af
  ·simp[aa]at hu;subst hu;exact hx.one
 |tuple cs c ai hc=>simp[Go.aK.cP,eB]at dZ
 |top c=>simp[Go.aK.cP,eB]at dZ
 |ref id c=>simp[Go.aK.cP,eB]at dZ
 |dx id n c=>simp[Go.aK.cP,eB]at dZ
 |ptr id off c ar ak=>
  have hx:eB σ (.ptr id off)=true:=by simpa[Go.aK.cP]using dZ
  have ot:=B7 bd hx (bp.ptr (w:=w) (ro:=ro) id off c ar ak)
  have aa:c.cells= #[c]:=by cases c<;>simp_all[Value.cells,Value.oneCell']
  refine⟨by simp[aa,Go.aK.cP],fun j y af=>?_,fun u hu=>?_⟩
  ·cases j with
   |zero=>simp[Go.aK.cP]at af;subst af;simpa[aa]using bp.ptr id off c ar ak
   |succ j=>simp[Go.aK.cP]at af
  ·simp[aa]at hu;subst hu;exact ot
 |cV id i off c ar ak=>
  have hx:eB σ (.cV id i off)=true:=by simpa[Go.aK.cP]using dZ
  have ot:=B7 bd hx (bp.cV (w:=w) (ro:=ro) id i off c ar ak)
  have aa:c.cells= #[c]:=by cases c<;>simp_all[Value.cells,Value.oneCell']
  refine⟨by simp[aa,Go.aK.cP],fun j y af=>?_,fun u hu=>?_⟩
  ·cases j with
   |zero=>simp[Go.aK.cP]at af;subst af;simpa[aa]using bp.cV id i off c ar ak
   |succ j=>simp[Go.aK.cP]at af
  ·simp[aa]at hu;subst hu;exact ot
 |aM id c ar ak=>
  have hx:eB σ (.aM id)=true:=by simpa[Go.aK.cP]using dZ
  have ot:=B7 bd hx (bp.aM (w:=w) (ro:=ro) id c ar ak)
  have aa:c.cells= #[c]:=by cases c<;>simp_all[Value.cells,Value.oneCell']
  refine⟨by simp[aa,Go.aK.cP],fun j y af=>?_,fun u hu=>?_⟩
  ·cases j with
   |zero=>simp[Go.aK.cP]at af;subst af;simpa[aa]using bp.aM id c ar ak
   |succ j=>simp[Go.aK.cP]at af
  ·simp[aa]at hu;subst hu;exact ot
 |fn f p q c d aa ae av aQ=>
  refine⟨by simp[Value.cells,Go.aK.cP],fun j y af=>?_,fun u hu=>?_⟩
  ·cases j with
   |zero=>simp[Go.aK.cP]at af;subst af;simpa[Value.cells]using bp.fn f p q c d aa ae av aQ
   |succ j=>simp[Go.aK.cP]at af
  ·simp[Value.cells]at hu;subst hu;rfl
end
section
variable {P:Program} {G:a8} {o:Oper} {s:aO}
theorem PD(t:TypeId)(c:Value)(w:World):(newVar t c).run P w= .ok ⟨w.heap.size,0,none⟩ (w.alloc (.cells c.cells t)):=by
 simp[newVar,newRow]
theorem lT.PE{t:TypeId}{cs:List aC}(h: ∀E a w β ro,c3 E G s a w β ro→∃arr:Array Value,(execOp a.eval o).run P w= .ok (.value (.pointer (some ⟨w.heap.size,0,none⟩))) (w.alloc (.cells arr t))∧
      arr.size=cs.length∧∀j x,cs[j]? =some x→bp w ro s.heap β s.next x (arr.getD j undef))(ad:s.base≤s.next):
    lT P G o s ({s with heap:=(s.next,.box t cs)::s.heap,next:=s.next+1}.put o.dst (.ptr s.next 0)):=by
  intro E a w ⟨β,ro,ag⟩ K Q hK;obtain⟨arr,cn,bQ,eV⟩:=h E a w β ro ag;unfold Oper.wp;rw[cn]
  have jc:aD s.heap s.next=none:=by
    cases ah:aD s.heap s.next with
    |none=>rfl
    |some p=>have:=ag.trans.new _ _ ah;omega
  have fb:c3 E G {s with heap:=(s.next,.box t cs)::s.heap,next:=s.next+1} a (w.alloc (.cells arr t)) (gN β s.next (.pointer (some ⟨w.heap.size,0,none⟩))) ro:=by
    refine ag.new s.next jc ad (Nat.le_refl _) _ _ rfl rfl rfl (by simp) (fun b ad=>Go.RowKit.Below.heap_alloc w _ b ad) (fun b ad=>by simp[b5]at ad;omega) rfl ?_
    refine .box t cs w.heap.size arr (dP _ _ _) (heap_alloc_new w _) bQ fun j x af=>?_
    have hx:=eV j x af
    have cc: ∀b,ro b→(w.alloc (.cells arr t)).heap[b]? =w.heap[b]? :=fun b ad=>Go.RowKit.Below.heap_alloc w _ b (ag.heap.lt b ad)
    clear af eV;generalize arr.getD j undef=c at hx
    induction hx with
    |au x c hx=>exact .au x c (hx.keep cc fun _ h=>h)
    |agg cs c ai _ aZ=>exact .agg cs c ai aZ
    |tuple cs c ai _ aZ=>exact .tuple cs c ai aZ
    |ptr k off c ar ak=>
      have aj:k≠s.next:=by omega
      exact .ptr k off c (by omega) fun t cs bm=>by rw[c0 _ _ aj];simp only[aD,if_neg (Ne.symm aj)]at bm;exact ak t cs bm
    |dx k off c ar ak=>
      have aj:k≠s.next:=by omega
      exact .dx k off c (by omega) fun t cs bm=>by rw[c0 _ _ aj];simp only[aD,if_neg (Ne.symm aj)]at bm;exact ak t cs bm
    |cV k i off c ar ak=>
      have aj:k≠s.next:=by omega
      exact .cV k i off c (by omega) fun z t n es bm=>by rw[c0 _ _ aj];simp only[aD,if_neg (Ne.symm aj)]at bm;exact ak z t n es bm
    |aM k c ar ak=>
      have aj:k≠s.next:=by omega
      exact .aM k c (by omega) fun z t n es bm=>by rw[c0 _ _ aj];simp only[aD,if_neg (Ne.symm aj)]at bm;exact ak z t n es bm
    |fn f p q c d aa ae _ _ gZ ha=>exact .fn f p q c d aa ae gZ ha
    |ref k c ar ak=>
      have aj:k≠s.next:=by omega
      exact .ref k c (by omega) fun bM bm=>by rw[c0 _ _ aj];simp only[aD,if_neg (Ne.symm aj)]at bm;exact ak bM bm
    |top c=>exact .top c
  refine hK _ _ ⟨_,ro,fb.put o.dst _ _ ?_⟩ fun b ad=>Go.RowKit.Below.heap_alloc w _ b ad
  refine .ptr _ _ _ (Nat.lt_succ_self _) fun bz cs' ah=>⟨w.heap.size,dP _ _ _,rfl⟩
theorem PF(t:TypeId)(x:Operand)(an:o.op= .box t x)(ad:s.base≤s.next)(dZ:(cP (aI G s x)).all (eB s.heap)=true):
 lT P G o s ({s with heap:=(s.next,.box t (cP (aI G s x)))::s.heap,next:=s.next+1}.put o.dst (.ptr s.next 0)):=
 .PE (fun _ a w β ro ag=>by
  obtain⟨aa,ae,_⟩:=(ag.eval x).cP dZ ag.heap
  exact⟨(a.eval x).cells,by simp[execOp,an,Instr.box,PD],aa,ae⟩) ad
theorem PG(t:TypeId)(x:Operand)(an:o.op= .box t x)(ad:s.base≤s.next)(dZ:(cP (aI G s x)).all (eB s.heap)=true):
 dO P G o s ({s with heap:=(s.next,.box t (cP (aI G s x)))::s.heap,next:=s.next+1}.put o.dst (.ptr s.next 0)):=(PF t x an ad dZ).op
def zeroCells(P:Program)(t:TypeId):Option (List Value):=
 match P.info? t with
 |some i=>match i.zero with
  |some z=>some z.cells.toList
  |none=>none
 |none=>none
theorem yG{t:TypeId}{zs:List Value}(h:zeroCells P t=some zs)(w:World): ∃z:Value,(zeroValue t).run P w= .ok z w∧z.cells=zs.toArray∧∃i,P.info? t=some i∧i.zero=some z:=by
 unfold zeroCells at h
 cases hi:P.info? t with
 |none=>simp[hi]at h
 |some i=>
  cases aV:i.zero with
  |none=>simp[hi,aV]at h
  |some z=>
   simp[hi,aV]at h;exact⟨z,by simp[zeroValue,typeInfo,hi,aV],by rw[←h],i,rfl,aV⟩
theorem PH(t:TypeId)(an:o.op= .alloc t)(ad:s.base≤s.next){zs:List Value}(aV:zeroCells P t=some zs)(dZ:zs.all Value.oneCell'=true):
 lT P G o s ({s with heap:=(s.next,.box t (zs.map fun z=>.au (.v z)))::s.heap,next:=s.next+1}.put o.dst (.ptr s.next 0)):=
 .PE (fun _ a w β ro ag=>by
  obtain⟨z,cn,ou,_⟩:=yG aV w;refine⟨z.cells,by simp[execOp,an,Instr.alloc,cn,PD],by simp[ou],fun j x af=>?_⟩
  rw[List.getElem?_map]at af
  cases qI:zs[j]? with
  |none=>simp[qI]at af
  |some y=>
   simp[qI]at af;subst af
   have:y.oneCell'=true:=by
    rw[List.all_eq_true]at dZ;exact dZ y (List.mem_of_getElem? qI)
   rw[ou]
   simpa[qI]using bp.au (w:=w) (ro:=ro) (σ:=s.heap) (β:=β) (N:=s.next) _ _ (.v y this)) ad
theorem PI(t:TypeId)(an:o.op= .alloc t)(ad:s.base≤s.next){zs:List Value}(aV:zeroCells P t=some zs)(dZ:zs.all Value.oneCell'=true):
 dO P G o s ({s with heap:=(s.next,.box t (zs.map fun z=>.au (.v z)))::s.heap,next:=s.next+1}.put o.dst (.ptr s.next 0)):=(PH t an ad aV dZ).op
end
end Go.aK
namespace Go.aK
open Go
section
variable {P:Program} {G:a8} {o:Oper} {s:aO}
theorem IB{w w':World}{ro:Nat→Prop}{σ:Heap}{β:Nat→Value}{N id:Nat}{t:TypeId}{cs cs':List aC}(bb:aD σ id=some (.box t cs)){x:aC}{c:Value}
 (h:bp w ro σ β N x c)(cc: ∀b,ro b→w'.heap[b]? =w.heap[b]?):bp w' ro (eL σ id (.box t cs')) β N x c:=by
 refine h.keep cc (fun _ h=>h) (Nat.le_refl _) (fun k t1 aW aj=>?_) (fun k z t1 n es aj=>?_) (fun k bM aj=>?_)
 ·rw[vL]at aj
  by_cases br:id=k
  ·subst br;exact⟨rfl,t,cs,bb⟩
  ·rw[if_neg br]at aj;exact⟨rfl,t1,aW,aj⟩
 ·rw[vL]at aj
  by_cases br:id=k
  ·subst br;rw[if_pos rfl]at aj;cases aj
  ·rw[if_neg br]at aj;exact⟨rfl,z,t1,es,aj⟩
 ·rw[vL]at aj
  by_cases br:id=k
  ·subst br;rw[if_pos rfl]at aj;cases aj
  ·rw[if_neg br]at aj;exact⟨rfl,bM,aj⟩
def eh{α:Type}(cs:List α)(off:Nat)(vs:List α):List α:=cs.take off++(vs++cs.drop (off+vs.length))
theorem pL{α:Type}(cs:List α)(off:Nat)(vs:List α)(h:off+vs.length≤cs.length):(eh cs off vs).length=cs.length:=by
 simp[eh];omega
theorem IC{α β:Type}(R:α→β→Prop)(d:β){cs vs:List α}{xs ys:List β}{off:Nat}(ar:cs.length≤xs.length)(aw:vs.length=ys.length)(yH:off+vs.length≤cs.length)
 (aa: ∀j x,cs[j]? =some x→R x (xs.getD j d))(ae: ∀j x,vs[j]? =some x→R x (ys.getD j d)): ∀j x,(eh cs off vs)[j]? =some x→R x ((eh xs off ys).getD j d):=by
 intro j x af
 unfold eh at*
 by_cases a6:j<off
 ·rw[List.getElem?_append_left (by simp;omega),List.getElem?_take,if_pos a6]at af
  have:=aa j x af
  rw[List.getD,List.getElem?_append_left (by simp;omega),List.getElem?_take,if_pos a6]
  exact this
 ·have aA:(cs.take off).length=off:=by simp;omega
  have bh:(xs.take off).length=off:=by simp;omega
  rw[List.getElem?_append_right (by omega),aA]at af
  rw[List.getD,List.getElem?_append_right (by omega),bh]
  by_cases ad:j-off<vs.length
  ·rw[List.getElem?_append_left ad]at af
   rw[List.getElem?_append_left (by omega)]
   exact ae _ _ af
  ·rw[List.getElem?_append_right (by omega),List.getElem?_drop]at af
   rw[List.getElem?_append_right (by omega),List.getElem?_drop]
   have ct:off+vs.length+(j-off-vs.length)=j:=by omega
   have e1:off+ys.length+(j-off-ys.length)=j:=by omega
   rw[ct]at af;rw[e1];exact aa j x af
theorem PJ(t:TypeId)(b off:Nat)(c:Value)(w:World)(bt:TypeId)(arr:Array Value)(ah:w.heap[b]? =some (.cells arr bt (0,0)))(bQ:(P.info? t).map (·.size)=some c.cells.size)
 (pM:off+c.cells.size≤arr.size)(aa: ∀u∈c.cells.toList,u.oneCell'=true):
 (Instr.storeAt t (.pointer (some ⟨b,off,none⟩)) c).run P w= .ok () (w.setRow b (eh arr.toList off c.cells.toList).toArray):=by
 have dB:=run_storeCells_at P b off bt c.cells.toList 0 arr w ah (by simpa using pM) aa
 cases hi:P.info? t with
 |none=>simp[hi]at bQ
 |some i=>
  have ai:i.size=c.cells.size:=by simpa[hi]using bQ
  simp only[Nat.add_zero,List.append_assoc]at dB;simp only[Instr.storeAt,Instr.sureAddr,storeVar,sizeOf,typeInfo,Sem.run_bind,Sem.run_pure,Result.andThen_ok,eh];simp[hi,ai,dB]
theorem PK(t:TypeId)(p x:Operand)(an:o.op= .store t p x){id off:Nat}(ak:aI G s p= .ptr id off){bt:TypeId}{cs:List aC}(bb:aD s.heap id=some (.box bt cs))
 {vs:List aC}(aw:cP (aI G s x)=vs)(dZ:vs.all (eB s.heap)=true)(bQ:(P.info? t).map (·.size)=some vs.length)(pM:off+vs.length≤cs.length):
 dO P G o s ({s with heap:=eL s.heap id (.box bt (eh cs off vs))}.put o.dst .top):=by
 intro E a w ⟨β,ro,ag⟩ K Q hK
 subst aw
 obtain⟨aa,ae,av⟩:=(ag.eval x).cP dZ ag.heap
 have qJ:=ag.eval p
 rw[ak]at qJ
 have dj:=ag.heap.c6 id _ bb
 cases dj with
 |box _ _ b arr ad ah zbC eV=>
  generalize ID:a.eval p=gO at qJ
  cases qJ with
  |ptr _ _ c ar hc=>
   obtain⟨b',fT,rfl⟩:=hc _ _ bb;rw[ad]at fT;simp only[Value.pointer.injEq,Option.some.injEq,Addr.mk.injEq,and_true]at fT;subst fT
   have cn:=PJ (P:=P) t b off (a.eval x) w bt arr ah (by rw[bQ,aa]) (by omega) av
   unfold Oper.wp;simp only[execOp,an,ID,Sem.run_bind,cn,Result.andThen_ok,Sem.run_pure]
   have jd: ∀k,k<w.heap.size→b5 (β id)≠some k→(w.setRow b (eh arr.toList off (a.eval x).cells.toList).toArray).heap[k]? =w.heap[k]? :=fun k _ aj=>
    setRow_other w b k _ (fun e=>aj (by rw[ad,e];rfl))
   have cc: ∀k,ro k→(w.setRow b (eh arr.toList off (a.eval x).cells.toList).toArray).heap[k]? =w.heap[k]? :=fun k aj=>
    jd k (ag.heap.lt k aj) fun bf=>ag.heap.fe k aj ⟨id,_,bb,rfl,bf⟩
   refine hK _ _ ⟨β,ro,(ag.write (w':=w.setRow b (eh arr.toList off (a.eval x).cells.toList).toArray) id _ (.box bt (eh cs off (cP (aI G s x)))) bb rfl rfl (.inl ⟨_,_,_,rfl,rfl⟩) rfl rfl rfl (by simp) jd ?_).put o.dst _ _ (.top _)⟩
   refine .box bt _ b _ ad (setRow_heap w b arr _ bt (0,0) ah) ?_ fun j y af=>?_
   ·rw[List.size_toArray,pL _ _ _ (by simp only[Array.length_toList];omega),pL _ _ _ pM,Array.length_toList,zbC]
   ·have ai:=IC (bp w ro s.heap β s.next) undef (cs:=cs) (vs:=cP (aI G s x)) (xs:=arr.toList) (ys:=(a.eval x).cells.toList) (off:=off) (by simp only[Array.length_toList];omega) (by simp only[Array.length_toList];omega) pM
     (fun j x af=>by have:=eV j x af;simpa[Array.getD_eq_getD_getElem?,List.getD]using this)
     (fun j x af=>by have:=ae j x af;simpa[Array.getD_eq_getD_getElem?,List.getD]using this) j y af
    have eW:=IB (cs':=eh cs off (cP (aI G s x))) bb ai cc
    simpa[Array.getD_eq_getD_getElem?,List.getD]using eW
def iE:List aC→Option (List a1)
 |[]=>some []
 | .au x::r=>match iE r with
  |some l=>some (x::l)
  |none=>none
 |_::_=>none
theorem B8: ∀{vs:List aC} {l:List a1},iE vs=some l→vs=l.map .au
 |[],l,h=>by simp[iE]at h;subst h;rfl
 | .au x::r,l,h=>by
  simp only[iE]at h
  cases ag:iE r with
  |none=>simp[ag]at h
  |some hU=>
   simp[ag]at h;subst h;simp[B8 ag]
 | .agg _::_,_,h=>by simp[iE]at h
 | .tuple _::_,_,h=>by simp[iE]at h
 | .ptr _ _::_,_,h=>by simp[iE]at h
 | .dx _ _::_,_,h=>by simp[iE]at h
 | .cV _ _ _::_,_,h=>by simp[iE]at h
 | .aM _::_,_,h=>by simp[iE]at h
 | .fn _ _ _::_,_,h=>by simp[iE]at h
 | .ref _::_,_,h=>by simp[iE]at h
 | .top::_,_,h=>by simp[iE]at h
theorem PL{α:Type}{n:Nat}: ∀{es:List (List α)},(∀e∈es,e.length=n)→∀{i:Nat} {e ay:List α},es[i]? =some e→ay.length=n→(es.set i ay).flatten=es.flatten.take (i*n)++(ay++es.flatten.drop (i*n+n))
 |[],_,i,e,ay,h,_=>by simp at h
 |x::r,hn,i,e,ay,h,he=>by
  have hx:x.length=n:=hn x (by simp)
  cases i with
  |zero=>simp[hx]
  |succ i=>
   simp at h
   have aZ:=PL (es:=r) (fun e he=>hn e (by simp[he])) h he
   simp only[List.set_cons_succ,List.flatten_cons,aZ]
   have aA:(i+1)*n=x.length+i*n:=by rw[Nat.succ_mul];omega
   have bh:(i+1)*n+n=x.length+(i*n+n):=by rw[Nat.succ_mul];omega
   have ct:x.length+(i*n+n)-x.length=i*n+n:=by omega
   have e1:x.length+i*n-x.length=i*n:=by omega
   rw[bh,aA,List.take_append,List.drop_append,ct,e1,List.take_of_length_le (l:=x) (by omega),List.drop_of_length_le (l:=x) (by omega)]
   simp
theorem zbD{α:Type}(l:List α)(p n k:Nat)(vs:List α)(e:List α)(he:e.length=n)(ar: ∀j,j<n→l[p+j]? =e[j]?)(aj:k+vs.length≤n)(ak:p+n≤l.length):
 eh l (p+k) vs=l.take p++(eh e k vs++l.drop (p+n)):=by
 apply List.ext_getElem?
 intro j
 have ai:(eh e k vs).length=n:=by rw[pL _ _ _ (by omega),he]
 unfold eh at*
 by_cases aa:j<p
 ·rw[List.getElem?_append_left (by simp;omega),List.getElem?_take,if_pos (by omega),List.getElem?_append_left (by simp;omega),List.getElem?_take,if_pos aa]
 ·have aA:(l.take p).length=p:=by simp;omega
  have bh:(l.take (p+k)).length=p+k:=by simp;omega
  rw[List.getElem?_append_right (l₁:=l.take p) (by omega),aA]
  by_cases ae:j<p+k
  ·rw[List.getElem?_append_left (by omega),List.getElem?_take,if_pos ae,List.getElem?_append_left (by omega),List.getElem?_append_left (by simp;omega),List.getElem?_take,if_pos (by omega),←ar _ (by omega)]
   congr 1;omega
  ·rw[List.getElem?_append_right (by omega),bh]
   have ct:(e.take k).length=k:=by simp;omega
   by_cases av:j<p+k+vs.length
   ·rw[List.getElem?_append_left (by omega),List.getElem?_append_left (by omega),List.getElem?_append_right (by omega),ct,List.getElem?_append_left (by omega)]
    congr 1;omega
   ·rw[List.getElem?_append_right (by omega),List.getElem?_drop]
    by_cases aQ:j<p+n
    ·rw[List.getElem?_append_left (by omega),List.getElem?_append_right (by omega),ct,List.getElem?_append_right (by omega),List.getElem?_drop,←ar _ (by omega)]
     congr 1;omega
    ·rw[List.getElem?_append_right (by omega),ai,List.getElem?_drop]
     congr 1;omega
theorem zbE{α:Type}(l:List α)(off m:Nat)(ys:List α)(h:off+ys.length≤m)(hm:m≤l.length):(eh l off ys).take m=eh (l.take m) off ys:=by
 have aA:min m off=off:=by omega
 have bh:min off m=off:=by omega
 have ct:min off l.length=off:=by omega
 have e1:List.take (m-off) ys=ys:=List.take_of_length_le (by omega)
 have n3:m-off-ys.length=m-(off+ys.length):=by omega
 simp only[eh,List.take_append,List.take_take,List.length_take,List.drop_take,aA,bh,ct,e1,n3]
theorem PM(t:TypeId)(p x:Operand)(an:o.op= .store t p x){id i off:Nat}(ak:aI G s p= .cV id i off){bt:TypeId}{n:Nat}{es:List (List a1)}(bb:aD s.heap id=some (.row false bt n es))
 {e:List a1}(mz:es[i]? =some e){vs:List a1}(aw:iE (cP (aI G s x))=some vs)(bQ:(P.info? t).map (·.size)=some vs.length)(pM:off+vs.length≤n):
 dO P G o s ({s with heap:=eL s.heap id (.row false bt n (es.set i (eh e off vs)))}.put o.dst .top):=by
 intro E a w ⟨β,ro,ag⟩ K Q hK
 have PN:=B8 aw
 have dZ:(cP (aI G s x)).all (eB s.heap)=true:=by rw[PN];simp[List.all_eq_true,eB]
 obtain⟨aa,ae,av⟩:=(ag.eval x).cP dZ ag.heap
 rw[PN]at aa ae
 rw[List.length_map]at aa
 have qJ:=ag.eval p
 rw[ak]at qJ
 have dj:=ag.heap.c6 id _ bb
 cases dj with
 |row _ _ _ xs hs hn eV=>
  generalize ID:a.eval p=gO at qJ
  cases qJ with
  |cV _ _ _ c ar hc=>
   obtain⟨b,l,hT,ad,rfl⟩:=hc _ _ _ _ bb
   have zib:=hs
   rw[ad]at hs;obtain⟨B5,om⟩:=hs
   rcases om with⟨⟨_,h,_⟩,aV⟩|⟨g,cap,cur,PO,PQ,ah,hle,h5,dH,ld⟩
   ·have:=(List.getElem?_eq_some_iff.1 mz).1;omega
   ·simp only[Value.slice.injEq,Option.some.injEq,Addr.mk.injEq,and_true]at PO
    obtain⟨rfl,rfl,rfl⟩:=PO
    have ni:e.length=n:=hn e (List.mem_of_getElem? mz)
    have zbF:i<es.length:=(List.getElem?_eq_some_iff.1 mz).1
    have kG:i*n+n≤es.length*n:=by rw[←Nat.succ_mul];exact Nat.mul_le_mul_right n zbF
    have zic:es.length*n≤hT*n:=Nat.mul_le_mul_right n hle
    have cn:=PJ (P:=P) t b (i*n+off) (a.eval x) w bt cur ah (by rw[bQ,aa]) (by omega) av
    unfold Oper.wp;simp only[execOp,an,ID,Sem.run_bind,cn,Result.andThen_ok,Sem.run_pure]
    have jd: ∀k,k<w.heap.size→b5 (β id)≠some k→(w.setRow b (eh cur.toList (i*n+off) (a.eval x).cells.toList).toArray).heap[k]? =w.heap[k]? :=fun k _ aj=>
     setRow_other w b k _ (fun e=>aj (by rw[ad,e];simp[b5,Nat.ne_of_gt PQ]))
    have cc: ∀k,ro k→(w.setRow b (eh cur.toList (i*n+off) (a.eval x).cells.toList).toArray).heap[k]? =w.heap[k]? :=fun k aj=>
     jd k (ag.heap.lt k aj) fun bf=>ag.heap.fe k aj ⟨id,_,bb,rfl,bf⟩
    have pN:(eh e off vs).length=n:=by rw[pL _ _ _ (by omega),ni]
    refine hK _ _ ⟨β,ro,(ag.write (w':=w.setRow b (eh cur.toList (i*n+off) (a.eval x).cells.toList).toArray) id _ (.row false bt n (es.set i (eh e off vs))) bb rfl rfl (.inr (.inl ⟨_,_,_,_,rfl,rfl⟩)) rfl rfl rfl (by simp) jd ?_).put o.dst _ _ (.top _)⟩
    have je:(a.eval x).cells.toList.length=vs.length:=by simpa using aa
    refine .row bt n _ (eh xs (i*n+off) (a.eval x).cells.toList) ?_ (fun ay jT=>?_) (fun j y af=>?_)
    ·rw[ad,List.length_set]
     refine⟨by rw[pL _ _ _ (by omega)];exact B5,.inr ⟨b,hT,_,rfl,PQ,setRow_heap w b cur _ bt (0,0) ah,hle,h5,?_,?_⟩⟩
     ·rw[List.size_toArray,pL _ _ _ (by simp;omega)];simpa using dH
     ·show List.take (es.length*n) (eh cur.toList (i*n+off) (a.eval x).cells.toList)=_
      rw[zbE _ _ _ _ (by omega) (by simp;omega),ld]
    ·rcases List.mem_or_eq_of_mem_set jT with h|h
     ·exact hn ay h
     ·rw[h];exact pN
    ·rw[PL hn mz pN,←zbD es.flatten (i*n) n off vs e ni (fun j af=>qF hn mz j af) pM (by rw[jS hn];exact kG)]at af
     have ai:=IC (cN w ro) undef (cs:=es.flatten) (vs:=vs) (xs:=xs) (ys:=(a.eval x).cells.toList) (off:=i*n+off) (by rw[jS hn];omega) (by omega) (by rw[jS hn];omega)
      (fun j x af=>eV j x af)
      (fun j y af=>by
       have:=ae j (.au y) (by simp[af])
       cases this with
       |au _ _ h=>simpa[Array.getD_eq_getD_getElem?,List.getD]using h) j y af
     exact ai.keep cc fun _ h=>h
end
end Go.aK
namespace Go.aK
open Go
def dI(a b:ByteArray):Bool:=a.data.toList==b.data.toList
theorem uX(a b:ByteArray):dI a b=decide (a=b):=by
 unfold dI
 obtain⟨⟨x⟩⟩:=a
 obtain⟨⟨y⟩⟩:=b
 rw[Bool.eq_iff_iff]
 simp
theorem PR(a b:ByteArray):(a.toList==b.toList)=dI a b:=by rw[ByteArray.toList_eq,ByteArray.toList_eq];rfl
@[simp] theorem zid{a b:ByteArray}:dI a b=true↔a=b:=by rw[uX];simp
@[simp] theorem zie{a b:ByteArray}:dI a b=false↔a≠b:=by rw[uX];simp
@[simp] theorem zif(a:ByteArray):dI a a=true:=by simp
def qK(a b:ByteArray):Bool:=Op.bytesLess a.data.toList b.data.toList
theorem zbG(a b:ByteArray):Op.bytesLess a.toList b.toList=qK a b:=by rw[ByteArray.toList_eq,ByteArray.toList_eq];rfl
def B9(op:BinOp)(a b:Int):Option Value:=
 match op with
 | .eql=>some (.bool (a==b))
 | .neq=>some (.bool (a != b))
 | .lss=>some (.bool (decide (a<b)))
 | .leq=>some (.bool (decide (a≤b)))
 | .gtr=>some (.bool (decide (a>b)))
 | .geq=>some (.bool (decide (a≥b)))
 |_=>none
def jU(op:BinOp):Value→Value→Option Value
 | .int k a,.int bk b=>
  match op with
  | .shl=>if b<0 then none else some (.int k (k.wrap (a*2^(min b.toNat k.bits))))
  | .shr=>if b<0 then none else some (.int k (a.fdiv (2^(min b.toNat k.bits))))
  |op=>if k=bk then match op with
   | .add=>some (.int k (k.wrap (a+b)))
   | .sub=>some (.int k (k.wrap (a-b)))
   | .mul=>some (.int k (k.wrap (a*b)))
   | .quo=>if b=0 then none else some (.int k (k.wrap (a.tdiv b)))
   | .rem=>if b=0 then none else some (.int k (a.tmod b))
   |op=>B9 op a b
   else none
 | .string a,.string b=>
  match op with
  | .add=>if((a.size+b.size:Nat):Int)>IntKind.i64.max then none else some (.string (a++b))
  | .eql=>some (.bool (dI a b))
  | .neq=>some (.bool (!dI a b))
  | .lss=>some (.bool (qK a b))
  | .leq=>some (.bool (qK a b||dI a b))
  | .gtr=>some (.bool (!(qK a b||dI a b)))
  | .geq=>some (.bool (!qK a b))
  |_=>none
 |_,_=>none
theorem zbH {P : Program} {op : BinOp} {x y c : Value} (h : jU op x y = some c) (t : TypeId) (p q : Operand) (w : World) :
    (eqGuard op t p q x y).run P w = .ok () w ∧ (binOp op t x y).run P w = .ok c w ∧ c.oneCell' = true := by
  cases x with
  | int k a =>
    cases y with
    | int bk b =>
      simp only [jU] at h; refine ⟨by rw [eqGuard_at_int]; rfl, ?_⟩
      cases op
      all_goals first
        | (simp only at h
           split at h
           · cases h
           · rename_i hn
             simp only [Option.some.injEq] at h; subst h; refine ⟨?_, rfl⟩
             simp [binOp, Op.shift, hn]; done)
        | (simp only at h
           split at h
           · rename_i aj
             subst aj
             first
               | (simp only [Option.some.injEq, B9] at h; subst h; exact ⟨by simp [binOp, Op.intArith, Op.intCmp], rfl⟩)
               | (split at h
                  · cases h
                  · rename_i aV
                    simp only [Option.some.injEq] at h; subst h
                    exact ⟨by simp [binOp, Op.intDiv, aV], rfl⟩)
               | (simp [B9] at h; done)
           · cases h)
    | _ => simp [jU] at h
  | string a =>
    cases y with
    | string b =>
      simp only [jU] at h; refine ⟨by rw [eqGuard_at_string]; rfl, ?_⟩
      cases op <;> simp only at h
      all_goals first
        | cases h; done
        | (split at h
           · cases h
           · rename_i hn
             simp only [Option.some.injEq] at h; subst h
             exact ⟨by simp only [binOp_string_add, Op.stringOp, hn, if_false] <;> rfl, rfl⟩)
        | (simp only [Option.some.injEq] at h; subst h; exact ⟨by simp only [binOp, Op.stringOp, PR, zbG] <;> rfl, rfl⟩)
    | _ => simp [jU] at h
  | _ => simp [jU] at h
section
variable {P:Program} {G:a8} {o:Oper} {s:aO}
theorem bp.val{w:World}{ro:Nat→Prop}{σ:Heap}{β:Nat→Value}{N:Nat}{x c:Value}(h:bp w ro σ β N (.au (.v x)) c):c=x:=by
 cases h with
 |au _ _ h=>cases h;rfl
theorem c3.ec{E:Entry}{a:Act}{w:World}{β:Nat→Value}{ro:Nat→Prop}(h:c3 E G s a w β ro){x:Operand}{v:Value}(hx:aI G s x= .au (.v v)):a.eval x=v:=
 bp.val (hx ▸ h.eval x)
theorem bp.fC{w:World}{ro:Nat→Prop}{σ:Heap}{β:Nat→Value}{N:Nat}{c:Value}(h:c.oneCell'=true):bp w ro σ β N (.au (.v c)) c:=.au _ _ (.v _ h)
theorem ov(op:BinOp)(cv ty:TypeId)(x y:Operand)(an:o.op= .binOp op cv x y ty){u v c:Value}(hx:aI G s x= .au (.v u))(ax:aI G s y= .au (.v v))(hc:jU op u v=some c):
 cL P G o s (.au (.v c)):=
 fun _ a w β ro ag=>by
  obtain⟨aa,ae,av⟩:=zbH (P:=P) hc cv x y w;exact⟨c,by simp[execOp,an,ag.ec hx,ag.ec ax,aa,ae],.fC av⟩
theorem PS(cv ty:TypeId)(x y:Operand)(an:o.op= .binOp .eql cv x y ty)(aH:P.underlying cv=some .bool){u v:Bool}(hx:aI G s x= .au (.v (.bool u)))(ax:aI G s y= .au (.v (.bool v))):
 cL P G o s (.au (.v (.bool (u==v)))):=
 fun _ a w β ro ag=>⟨.bool (u==v),by simp[execOp,an,ag.ec hx,ag.ec ax,eqGuard_at_bool,run_eql_bool w cv u v aH],.fC rfl⟩
theorem PT(cv ty:TypeId)(x y:Operand)(an:o.op= .binOp .neq cv x y ty)(aH:P.underlying cv=some .bool){u v:Bool}(hx:aI G s x= .au (.v (.bool u)))(ax:aI G s y= .au (.v (.bool v))):
 cL P G o s (.au (.v (.bool (!(u==v))))):=
 fun _ a w β ro ag=>⟨.bool (!(u==v)),by simp[execOp,an,ag.ec hx,ag.ec ax,eqGuard_at_bool,run_neq_bool w cv u v aH],.fC rfl⟩
def mA:Value→Value→Option Bool
 | .int k a,.int bk b=>if k=bk then some (a==b)else none
 | .bool a,.bool b=>some (a==b)
 | .string a,.string b=>some (dI a b)
 |_,_=>none
def qL(P:Program)(t:TypeId):Value→Bool
 | .int k _=>match P.underlying t with
  |some (.int bk)=>decide (k=bk)
  |_=>false
 | .bool _=>match P.underlying t with
  |some .bool=>true
  |_=>false
 | .string _=>match P.underlying t with
  |some .string=>true
  |_=>false
 |_=>false
def PU(e:TypeId)(c i:Nat):Field:={(default:Field)with name:= "e",type:=e,offset:=i*c}
theorem IE(d:Nat)(e:TypeId)(c:Nat)(X Y:Array Value): ∀(is:List Nat),Op.eqFields d X Y (is.map (PU e c))=Op.eqItems d e c X Y is
 |[]=>rfl
 |i::is=>by
  simp only[List.map_cons,Op.eqFields,Op.eqItems,IE d e c X Y is];rfl
def mB(P:Program)(t:TypeId):Option (List Field):=
 match P.underlying t with
 |some (.struct fs)=>if P.stoodInHeld t||P.eqGuardType P.depth t then none else some fs.toList
 |some (.array n e)=>match P.info? e with
  |some _=>if P.eqGuardType P.depth t then none else some ((List.range n).map (PU e (P.cellsOf e)))
  |none=>none
 |_=>none
theorem zbI{P:Program}{t:TypeId}{gs:List Field}(h:mB P t=some gs)(D:Nat)(p q:Array Value)(w:World):
 (Op.equalIn (D+1) t (.agg p) (.agg q)).run P w=(Op.eqFields D p q gs).run P w∧(isAgg t).run P w= .ok true w:=by
 unfold mB at h
 split at h
 ·rename_i Ca hu
  split at h
  ·cases h
  ·rename_i hc
   simp only[Bool.or_eq_true,not_or,Bool.not_eq_true]at hc;simp only[Option.some.injEq]at h;subst h
   have pO:P.fieldsOf t=Ca:=by simp[Program.fieldsOf,hu]
   exact⟨by rw[run_equalIn_struct w D t p q (by rw[pO];exact hu) hc.1,pO],by simp[isAgg,run_underlying hu]⟩
 ·rename_i n e hu
  split at h
  ·rename_i inf vO
   split at h
   ·cases h
   ·simp only[Option.some.injEq]at h
    subst h;exact⟨by rw[run_equalIn_array w D p q hu vO,←IE],by simp[isAgg,run_underlying hu]⟩
  ·cases h
 ·cases h
def pP(P:Program):Nat→Nat→List Field→List Value→List Value→Option Bool
 |0,_,_,_,_=>none
 |_+1,_,[],_,_=>some true
 |d+1,k,f::fs,xs,ys=>
  if f.name= "_" ||f.offset != k then none
  else match mB P f.type with
   |some gs=>match P.info? f.type with
    |some inf=>match pP P d 0 gs (xs.take inf.size) (ys.take inf.size),pP P d (k+inf.size) fs (xs.drop inf.size) (ys.drop inf.size)with
     |some a,some b=>some (a&&b)
     |_,_=>none
    |none=>none
   |none=>match xs,ys with
    |x::xs,y::ys=>if qL P f.type x then match mA x y,pP P d (k+1) fs xs ys with
     |some a,some b=>some (a&&b)
     |_,_=>none
     else none
    |_,_=>none
def yI(P:Program)(k:Nat)(fs:List Field)(xs ys:List Value):Option Bool:=pP P 64 k fs xs ys
theorem zbJ{t:TypeId}{x y:Value}{b:Bool}(h:mA x y=some b)(hf:qL P t x=true)(d:Nat)(w:World):(Op.equalIn (d+1) t x y).run P w= .ok b w∧x.oneCell'=true∧y.oneCell'=true∧(isAgg t).run P w= .ok false w:=by
 cases x with
 |int k a=>
  cases y with
  |int bk b'=>
   simp only[mA]at h
   split at h
   ·rename_i aj
    subst aj;simp only[Option.some.injEq]at h;subst h;simp only[qL]at hf
    split at hf
    ·rename_i gE hu
     exact⟨run_equalIn_int w d t k gE a b' hu,rfl,rfl,by simp[isAgg,run_underlying hu]⟩
    ·cases hf
   ·cases h
  |_=>simp[mA]at h
 |bool a=>
  cases y with
  |bool b'=>
   simp only[mA,Option.some.injEq]at h;subst h;simp only[qL]at hf
   split at hf
   ·rename_i hu
    exact⟨run_equalIn_bool w d t a b' hu,rfl,rfl,by simp[isAgg,run_underlying hu]⟩
   ·cases hf
  |_=>simp[mA]at h
 |string a=>
  cases y with
  |string b'=>
   simp only[mA,Option.some.injEq]at h;subst h;simp only[qL]at hf
   split at hf
   ·rename_i hu
    refine⟨?_,rfl,rfl,by simp[isAgg,run_underlying hu]⟩
    rw[run_equalIn_string w d t a b' hu,PR]
   ·cases hf
  |_=>simp[mA]at h
 |_=>simp[mA]at h
theorem PV{xs:List Value}{X:Array Value}{k n:Nat}(hD: ∀j x,xs[j]? =some x→X[k+j]? =some x): ∀j x,(xs.take n)[j]? =some x→(X.extract k (k+n))[0+j]? =some x:=by
 intro j x af
 rw[List.getElem?_take]at af
 split at af
 ·rename_i mo
  have:=hD j x af
  rw[Nat.zero_add,Array.getElem?_extract]
  have bI:k+j<X.size:=(Array.getElem?_eq_some_iff.1 this).1
  rw[if_pos (by omega)]
  exact this
 ·cases af
theorem Cb: ∀(d:Nat) (fs:List Field) (k:Nat) (xs ys:List Value) (X Y:Array Value) (b:Bool) (D:Nat) (w:World),pP P d k fs xs ys=some b→d≤D→(∀j x,xs[j]? =some x→X[k+j]? =some x)→(∀j y,ys[j]? =some y→Y[k+j]? =some y)→
 (Op.eqFields D X Y fs).run P w= .ok b w
 |0,_,k,xs,ys,X,Y,b,D,w,h,_,_,_=>by simp[pP]at h
 |d+1,[],k,xs,ys,X,Y,b,D,w,h,_,hD,ow=>by
  simp[pP]at h;subst h;simp[Op.eqFields]
 |d+1,f::fs,k,xs,ys,X,Y,b,0,w,h,kf,_,_=>by omega
 |d+1,f::fs,k,xs,ys,X,Y,b,D+1,w,h,kf,hD,ow=>by
  unfold pP at h
  split at h
  ·cases h
  ·rename_i hc
   simp only[Bool.or_eq_true,decide_eq_true_eq,bne_iff_ne,ne_eq,not_or,Decidable.not_not]at hc;obtain⟨vP,yH⟩:=hc
   split at h
   ·rename_i gs ah
    split at h
    ·rename_i inf vO
     split at h
     ·rename_i gP jf aa ae
      simp only[Option.some.injEq]at h;subst h
      have dF:=Cb d gs 0 _ _ (X.extract k (k+inf.size)) (Y.extract k (k+inf.size)) gP D w aa (by omega) (PV hD) (PV ow)
      have eQ:=Cb d fs (k+inf.size) _ _ X Y jf (D+1) w ae (by omega) (fun j x af=>by rw[List.getElem?_drop]at af;have:=hD _ x af;rwa[show k+(inf.size+j)=k+inf.size+j from by omega]at this) (fun j x af=>by rw[List.getElem?_drop]at af;have:=ow _ x af;rwa[show k+(inf.size+j)=k+inf.size+j from by omega]at this)
      obtain⟨aA,bh⟩:=zbI ah D (X.extract k (k+inf.size)) (Y.extract k (k+inf.size)) w
      have dH:P.cellsOf f.type=inf.size:=by simp[Program.cellsOf,vO]
      simp only[Op.eqFields,Sem.run_bind,vP,ne_eq,not_false_eq_true,if_true,part,bh,Result.andThen_ok,run_sizeOf w vO,dH,yH,Sem.run_pure,aA,dF]
      cases gP
      ·simp
      ·simpa using eQ
     ·cases h
    ·cases h
   ·split at h
    ·rename_i x IF y zbK
     split at h
     ·rename_i pM
      split at h
      ·rename_i gP jf he ag
       simp only[Option.some.injEq]at h;subst h;obtain⟨aa,_,_,aQ⟩:=zbJ he pM D w
       have PW:=hD 0 x rfl
       have vQ:=ow 0 y rfl
       have aZ:=Cb d fs (k+1) IF zbK X Y jf (D+1) w ag (by omega) (fun j x af=>by have:=hD (j+1) x af;rwa[show k+(j+1)=k+1+j from by omega]at this) (fun j x af=>by have:=ow (j+1) x af;rwa[show k+(j+1)=k+1+j from by omega]at this)
       simp only[Nat.add_zero]at PW vQ;simp only[Op.eqFields,Sem.run_bind,vP,ne_eq,not_false_eq_true,if_true,part,aQ,Result.andThen_ok,Bool.false_eq_true,if_false,yH,PW,vQ,Sem.run_pure,aa]
       cases gP
       ·simp
       ·simpa using aZ
      ·cases h
     ·cases h
    ·cases h
theorem PX(fs:List Field)(k:Nat)(xs ys:List Value)(X Y:Array Value)(b:Bool)(d:Nat)(w:World)(h:yI P k fs xs ys=some b)(hd:64≤d+1)(hD: ∀j x,xs[j]? =some x→X[k+j]? =some x)(ow: ∀j y,ys[j]? =some y→Y[k+j]? =some y):
 (Op.eqFields (d+1) X Y fs).run P w= .ok b w:=Cb 64 fs k xs ys X Y b (d+1) w h hd hD ow
def ht:List aC→Option (List Value)
 |[]=>some []
 | .au (.v x)::r=>match ht r with
  |some l=>some (x::l)
  |none=>none
 |_::_=>none
theorem yJ{w:World}{ro:Nat→Prop}{σ:Heap}{β:Nat→Value}{N:Nat}: ∀{cs:List aC} {l:List Value} {c:Nat→Value},ht cs=some l→(∀j x,cs[j]? =some x→bp w ro σ β N x (c j))→l.length=cs.length∧∀j x,l[j]? =some x→c j=x
 |[],l,c,h,_=>by simp[ht]at h;subst h;simp
 | .au (.v x)::r,l,c,h,hc=>by
  simp only[ht]at h
  cases ag:ht r with
  |none=>simp[ag]at h
  |some hU=>
   simp[ag]at h;subst h;obtain⟨aa,ae⟩:=yJ (c:=fun j=>c (j+1)) ag fun j x af=>hc (j+1) x af;refine⟨by simp[aa],fun j y af=>?_⟩
   cases j with
   |zero=>simp at af;subst af;exact bp.val (hc 0 _ rfl)
   |succ j=>exact ae j y af
 | .au (.ptr _)::_,_,_,h,_=>by simp[ht]at h
 | .au (.aM _ _)::_,_,_,h,_=>by simp[ht]at h
 | .agg _::_,_,_,h,_=>by simp[ht]at h
 | .tuple _::_,_,_,h,_=>by simp[ht]at h
 | .ptr _ _::_,_,_,h,_=>by simp[ht]at h
 | .dx _ _::_,_,_,h,_=>by simp[ht]at h
 | .cV _ _ _::_,_,_,h,_=>by simp[ht]at h
 | .aM _::_,_,_,h,_=>by simp[ht]at h
 | .fn _ _ _::_,_,_,h,_=>by simp[ht]at h
 | .ref _::_,_,_,h,_=>by simp[ht]at h
 | .top::_,_,_,h,_=>by simp[ht]at h
theorem PY{t:TypeId}{fs:List Field}(h:mB P t=some fs){cs ds:List aC}{xs ys:List Value}{b:Bool}(nk:ht cs=some xs)(lX:ht ds=some ys)(ad:yI P 0 fs xs ys=some b)
 {w:World}{ro:Nat→Prop}{σ:Heap}{β:Nat→Value}{N:Nat}{X Y:Value}(hD:bp w ro σ β N (.agg cs) X)(ow:bp w ro σ β N (.agg ds) Y):
 ∃p q,X= .agg p∧Y= .agg q∧P.eqGuardType P.depth t=false∧(Op.equalIn 10000 t (.agg p) (.agg q)).run P w= .ok b w:=by
 unfold mB at h
 split at h
 ·rename_i Ca hu
  split at h
  ·cases h
  ·rename_i hc
   simp only[Bool.or_eq_true,not_or,Bool.not_eq_true]at hc;simp only[Option.some.injEq]at h;subst h
   cases hD with
   |agg _ p ak IG=>
    cases ow with
    |agg _ q aJ IH=>
     refine⟨p,q,rfl,rfl,hc.2,?_⟩
     have pO:P.fieldsOf t=Ca:=by simp[Program.fieldsOf,hu]
     rw[run_equalIn_struct w 9999 t p q (by rw[pO];exact hu) hc.1,pO]
     obtain⟨aa,ae⟩:=yJ (c:=fun j=>p.getD j undef) nk IG;obtain⟨av,aQ⟩:=yJ (c:=fun j=>q.getD j undef) lX IH;refine PX Ca.toList 0 xs ys p q b 9998 w ad (by omega) (fun j x af=>?_) (fun j x af=>?_)
     ·have bI:j<p.size:=by
       rcases Nat.lt_or_ge j xs.length with h|h
       ·omega
       ·rw[List.getElem?_eq_none h]at af;cases af
      have:=ae j x af
      simp[bI]at this;simp[bI,this]
     ·have bI:j<q.size:=by
       rcases Nat.lt_or_ge j ys.length with h|h
       ·omega
       ·rw[List.getElem?_eq_none h]at af;cases af
      have:=aQ j x af
      simp[bI]at this;simp[bI,this]
 ·rename_i n e hu
  split at h
  ·rename_i inf vO
   split at h
   ·cases h
   ·rename_i hc
    simp only[Bool.not_eq_true]at hc;simp only[Option.some.injEq]at h;subst h
    cases hD with
    |agg _ p ak IG=>
     cases ow with
     |agg _ q aJ IH=>
      refine⟨p,q,rfl,rfl,hc,?_⟩
      rw[run_equalIn_array w 9999 p q hu vO,←IE];obtain⟨aa,ae⟩:=yJ (c:=fun j=>p.getD j undef) nk IG;obtain⟨av,aQ⟩:=yJ (c:=fun j=>q.getD j undef) lX IH;refine PX _ 0 xs ys p q b 9998 w ad (by omega) (fun j x af=>?_) (fun j x af=>?_)
      ·have bI:j<p.size:=by
        rcases Nat.lt_or_ge j xs.length with h|h
        ·omega
        ·rw[List.getElem?_eq_none h]at af;cases af
       have:=ae j x af
       simp[bI]at this;simp[bI,this]
      ·have bI:j<q.size:=by
        rcases Nat.lt_or_ge j ys.length with h|h
        ·omega
        ·rw[List.getElem?_eq_none h]at af;cases af
       have:=aQ j x af
       simp[bI]at this;simp[bI,this]
  ·cases h
 ·cases h
theorem PZ(cv ty:TypeId)(x y:Operand)(an:o.op= .binOp .eql cv x y ty){fs:List Field}(h:mB P cv=some fs){cs ds:List aC}(hx:aI G s x= .agg cs)(ax:aI G s y= .agg ds)
 {xs ys:List Value}{b:Bool}(nk:ht cs=some xs)(lX:ht ds=some ys)(ad:yI P 0 fs xs ys=some b):cL P G o s (.au (.v (.bool b))):=
 fun _ a w β ro ag=>by
  obtain⟨p,q,aa,ae,av,aQ⟩:=PY h nk lX ad (hx ▸ ag.eval x) (ax ▸ ag.eval y);exact⟨.bool b,by simp only[execOp,an,aa,ae,Sem.run_bind,run_eqGuard_agg w .eql cv x y p q av,Result.andThen_ok,run_eql_struct,aQ,Sem.run_pure],.fC rfl⟩
theorem P0(cv ty:TypeId)(x y:Operand)(an:o.op= .binOp .neq cv x y ty){fs:List Field}(h:mB P cv=some fs){cs ds:List aC}(hx:aI G s x= .agg cs)(ax:aI G s y= .agg ds)
 {xs ys:List Value}{b:Bool}(nk:ht cs=some xs)(lX:ht ds=some ys)(ad:yI P 0 fs xs ys=some b):cL P G o s (.au (.v (.bool (!b)))):=
 fun _ a w β ro ag=>by
  obtain⟨p,q,aa,ae,av,aQ⟩:=PY h nk lX ad (hx ▸ ag.eval x) (ax ▸ ag.eval y);exact⟨.bool (!b),by simp only[execOp,an,aa,ae,Sem.run_bind,run_eqGuard_agg w .neq cv x y p q av,Result.andThen_ok,run_neq_struct,aQ,Sem.run_pure],.fC rfl⟩
theorem P1(t:TypeId)(x:Operand)(an:o.op= .unOp .not t x){b:Bool}(hx:aI G s x= .au (.v (.bool b))):cL P G o s (.au (.v (.bool (!b)))):=
 fun _ a w β ro ag=>⟨.bool (!b),by simp[execOp,an,ag.ec hx,Op.unary],.fC rfl⟩
theorem P2(t:TypeId)(x:Operand)(an:o.op= .unOp .neg t x){k:IntKind}{n:Int}(hx:aI G s x= .au (.v (.int k n))):cL P G o s (.au (.v (.int k (k.wrap (0-n))))):=
 fun _ a w β ro ag=>⟨.int k (k.wrap (0-n)),by simp[execOp,an,ag.ec hx,Op.unary,Op.intArith],.fC rfl⟩
theorem yK(c x y:Operand)(an:o.op= .pick c x y){b:Bool}(hc:aI G s c= .au (.v (.bool b))){v:aC}(aw:(if b then aI G s x else aI G s y)=v):cL P G o s v:=
 fun _ a w β ro ag=>⟨if b then a.eval x else a.eval y,by simp[execOp,an,ag.ec hc,asBool],by
  subst aw
  cases b
  ·simpa using ag.eval y
  ·simpa using ag.eval x⟩
theorem P3(x:Operand)(i:Nat)(an:o.op= .extract x i){cs:List aC}(hx:aI G s x= .tuple cs){v:aC}(aw:cs[i]? =some v):cL P G o s v:=
 fun _ a w β ro ag=>by
  have h:=ag.eval x
  rw[hx]at h;generalize he:a.eval x=c at h
  cases h with
  |tuple _ c ai hc=>
   have bI:i<c.size:=by have:=(List.getElem?_eq_some_iff.1 aw).1;omega
   refine⟨c[i],?_,?_⟩
   ·simp[execOp,an,Instr.extract,he,bI]
   ·simpa[bI]using hc i v aw
end
end Go.aK
