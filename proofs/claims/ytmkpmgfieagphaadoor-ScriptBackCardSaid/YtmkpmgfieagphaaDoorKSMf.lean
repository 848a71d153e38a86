/- The AV calculus, part A: values as trees, the relation between a symbolic state and a world, and how it is kept. Conditions: none; nothing here speaks of a particular program. -/
import Derived.Test.YtmkpmgfieagphaaDoorKST0
import Derived.Laws.StructEq
import Derived.ChangeKeysEq
namespace Go.aG
open Go
theorem rL(a:Addr)(n:Nat):(a.add n).block=a.block:=by unfold Addr.add;split<;>rfl
theorem vH(a:Addr)(i j:Nat):(a.add i).add j=a.add (i+j):=by
 unfold Addr.add
 by_cases hi:i=0<;>by_cases ai:j=0<;>simp[hi,ai,Nat.add_assoc]
theorem addLit(b o n:Nat):(⟨b,o,none⟩:Addr).add n=⟨b,o+n,none⟩:=by
 unfold Addr.add;split
 ·rename_i h;subst h;rfl
 ·rfl
inductive az where
 |au (x:ba)
 |agg (cs:List az)
 |tuple (cs:List az)
 |ptr (id off:Nat)
 |cn (id i off:Nat)
 |aL (id:Nat)
 |fn (f:Fn) (first captured:List az)
 |ref (id:Nat)
 |dh (id n:Nat)
 |top
def RQ(agg:Bool)(n:Nat)(v:Value)(p:Nat→Value):Prop:=
 match agg with
 |true=>∃c:Array Value,v= .agg c∧c.size=n∧∀i,i<n→c.getD i undef=p i
 |false=>n=1∧v=p 0
inductive c6 (w:World) (ro:Nat→Prop):ba→Value→Prop where
 |v (x:Value):x.oneCell'=true→c6 w ro (.v x) x
 |ptr (cs:List ba) (a:Addr) (c:Nat→Value):(∀j x,cs[j]? =some x→ro a.block∧w.cell? (a.add j)=some (c j))→
  (∀j x,cs[j]? =some x→c6 w ro x (c j))→c6 w ro (.ptr cs) (.pointer (some a))
 |aL (n:Nat) (es:List (List ba)) (b:Option Addr) (cap:Nat) (c:Nat→Value):es.length≤cap→cap≤maxLen→(∀e∈es,e.length=n)→
  (0<es.length→∃a,b=some a∧∀j,j<es.length*n→ro a.block∧w.cell? (a.add j)=some (c j))→
  (∀j x,es.flatten[j]? =some x→c6 w ro x (c j))→c6 w ro (.aL n es) (.slice b es.length cap)
 |mp (agg:Bool) (ks:List Value) (vs:List (List ba)) (r:Nat) (es:Array MapEntry) (clock:Nat) (p:Nat→Nat→Value):ro r→w.heap[r]? =some (.map es clock)→es.size=ks.length→vs.length=ks.length→ks.Nodup→
  (∀j k cs,ks[j]? =some k→vs[j]? =some cs→∃e:MapEntry,es[j]? =some e∧e.key=k∧RQ agg cs.length e.val (p j))→
  (∀j cs i x,vs[j]? =some cs→cs[i]? =some x→c6 w ro x (p j i))→c6 w ro (.mp agg ks vs) (.map (some r))
 |li (i:bC) (l:List (fN i)) (c:Value):c6 w ro (.aL (cO i) (l.map (cF i))) c→c6 w ro (.li i l) c
theorem c6.one{w:World}{ro:Nat→Prop}{x:ba}{c:Value}(h:c6 w ro x c):c.oneCell'=true:=by
 induction h with
 |v x hx=>exact hx
 |ptr=>rfl
 |aL=>rfl
 |mp=>rfl
 |li i l c h aO=>exact aO
theorem c6.keep{w w':World}{ro ro':Nat→Prop}{x:ba}{c:Value}(h:c6 w ro x c)
 (hw: ∀b,ro b→w'.heap[b]? =w.heap[b]?)(bZ: ∀b,ro b→ro' b):c6 w' ro' x c:=by
 induction h with
 |v x hx=>exact .v x hx
 |ptr cs a c aa _ aO=>
  exact .ptr cs a c (fun j x ai=>⟨bZ _ (aa j x ai).1,by
   rw[World.cell?_of_block (w:=w) (by rw[rL];exact hw _ (aa j x ai).1)];exact(aa j x ai).2⟩) aO
 |aL n es b cap c aa af ar aQ _ aO=>
  refine .aL n es b cap c aa af ar (fun ak=>?_) aO
  obtain⟨a,ad,hc⟩:=aQ ak
  exact⟨a,ad,fun j ai=>⟨bZ _ (hc j ai).1,by
   rw[World.cell?_of_block (w:=w) (by rw[rL];exact hw _ (hc j ai).1)];exact(hc j ai).2⟩⟩
 |mp agg ks vs r es clock p aa af ar aQ bx ct _ aO=>exact .mp agg ks vs r es clock p (bZ _ aa) ((hw _ aa).trans af) ar aQ bx ct aO
 |li i l c _ aO=>exact .li i l c aO
def b0:Value→Option Nat
 | .pointer (some a)=>some a.block
 | .slice (some a) _ cap=>if cap=0 then none else some a.block
 | .map (some r)=>some r
 |_=>none
structure y0 where
 holds:(ba→Value→Prop)→Value→Obj→Prop
 mono: ∀(R qa:ba→Value→Prop) v o,(∀x c,R x c→qa x c)→holds R v o→holds qa v o
 view:Option ba
 RR: ∀au,view=some au→∀(w:World) (ro ro':Nat→Prop) (v:Value) (o:Obj) (b:Nat),holds (c6 w ro) v o→b0 v=some b→w.heap[b]? =some o→(∀x,ro x→ro' x)→ro' b→c6 w ro' au v
inductive dS where
 |box (t:TypeId) (cs:List az)
 |row (I7:Bool) (t:TypeId) (n:Nat) (es:List (List ba))
 |bO (br:y0)
def dS.live:dS→Bool
 | .box _ _=>true
 | .row I7 _ _ _=>!I7
 | .bO _=>true
abbrev bp:=List (Nat × dS)
def aA:bp→Nat→Option dS
 |[],_=>none
 |(k,o)::r,id=>if k=id then some o else aA r id
def eG:bp→Nat→dS→bp
 |[],id,o=>[(id,o)]
 |(k,x)::r,id,o=>if k=id then(k,o)::r else(k,x)::eG r id o
def fF:bp→Nat→bp
 |[],_=>[]
 |(k,x)::r,id=>if k=id then fF r id else(k,x)::fF r id
theorem s9(h:bp)(id:Nat)(o:dS)(k:Nat):aA (eG h id o) k=if id=k then some o else aA h k:=by
 induction h with
 |nil=>simp[eG,aA]
 |cons p r aO=>
  obtain⟨j,x⟩:=p
  by_cases ai:j=id
  ·subst ai
   by_cases aj:j=k<;>simp[eG,aA,aj]
  ·by_cases aj:j=k
   ·subst aj
    simp[eG,aA,ai,Ne.symm ai]
   ·simp[eG,aA,ai,aj,aO]
theorem y2(h:bp)(id k:Nat):aA (fF h id) k=if id=k then none else aA h k:=by
 induction h with
 |nil=>simp[fF,aA]
 |cons p r aO=>
  obtain⟨j,x⟩:=p
  by_cases ai:j=id
  ·subst ai
   by_cases aj:j=k
   ·subst aj;simp[fF,aO]
   ·simp[fF,aA,aj,aO]
  ·by_cases aj:j=k
   ·subst aj
    simp[fF,aA,ai,Ne.symm ai]
   ·simp[fF,aA,ai,aj,aO]
def jG(w:World)(t:TypeId)(n:Nat)(v:Value)(len:Nat)(xs:List Value):Prop:=
 xs.length=len*n∧(((∃b,v= .slice b 0 0∧∀a,b=some a→a.block<w.heap.size)∧len=0)∨
  ∃g cap cur,v= .slice (some ⟨g,0,none⟩) len cap∧0<cap∧w.heap[g]? =some (.cells cur t (0,0))∧len≤cap∧cap≤maxLen∧cur.size=cap*n∧cur.toList.take (len*n)=xs)
inductive bk (w:World) (ro:Nat→Prop) (σ:bp) (β:Nat→Value) (N:Nat):az→Value→Prop where
 |au (x:ba) (c:Value):c6 w ro x c→bk w ro σ β N (.au x) c
 |agg (cs:List az) (c:Array Value):c.size=cs.length→(∀j x,cs[j]? =some x→bk w ro σ β N x (c.getD j undef))→bk w ro σ β N (.agg cs) (.agg c)
 |tuple (cs:List az) (c:Array Value):c.size=cs.length→(∀j x,cs[j]? =some x→bk w ro σ β N x (c.getD j undef))→bk w ro σ β N (.tuple cs) (.tuple c)
 |ptr (id off:Nat) (c:Value):id<N→(∀t cs,aA σ id=some (.box t cs)→∃b,β id= .pointer (some ⟨b,0,none⟩)∧c= .pointer (some ⟨b,off,none⟩))→bk w ro σ β N (.ptr id off) c
 |dh (id n:Nat) (c:Value):id<N→(∀t cs,aA σ id=some (.box t cs)→∃b,β id= .pointer (some ⟨b,0,none⟩)∧c= .slice (some ⟨b,0,none⟩) n n)→bk w ro σ β N (.dh id n) c
 |cn (id i off:Nat) (c:Value):id<N→(∀z t n es,aA σ id=some (.row z t n es)→∃b l hL,β id= .slice (some ⟨b,0,none⟩) l hL∧c= .pointer (some ⟨b,i*n+off,none⟩))→bk w ro σ β N (.cn id i off) c
 |aL (id:Nat) (c:Value):id<N→(∀z t n es,aA σ id=some (.row z t n es)→c=β id)→bk w ro σ β N (.aL id) c
 |fn (f:Fn) (p q:List az) (c d:Array Value):c.size=p.length→d.size=q.length→(∀j x,p[j]? =some x→bk w ro σ β N x (c.getD j undef))→
  (∀j x,q[j]? =some x→bk w ro σ β N x (d.getD j undef))→bk w ro σ β N (.fn f p q) (.func f c d)
 |ref (id:Nat) (c:Value):id<N→(∀br,aA σ id=some (.bO br)→c=β id)→bk w ro σ β N (.ref id) c
 |top (c:Value):bk w ro σ β N .top c
inductive kt (w:World) (ro:Nat→Prop) (σ:bp) (β:Nat→Value) (N:Nat) (id:Nat):dS→Prop where
 |box (t:TypeId) (cs:List az) (b:Nat) (arr:Array Value):β id= .pointer (some ⟨b,0,none⟩)→w.heap[b]? =some (.cells arr t (0,0))→arr.size=cs.length→
  (∀j x,cs[j]? =some x→bk w ro σ β N x (arr.getD j undef))→kt w ro σ β N id (.box t cs)
 |row (t:TypeId) (n:Nat) (es:List (List ba)) (xs:List Value):jG w t n (β id) es.length xs→(∀e∈es,e.length=n)→
  (∀j x,es.flatten[j]? =some x→c6 w ro x (xs.getD j undef))→kt w ro σ β N id (.row false t n es)
 |fG (t:TypeId) (n:Nat) (es:List (List ba)):c6 w ro (.aL n es) (β id)→kt w ro σ β N id (.row true t n es)
 |bO (br:y0) (b:Nat) (o:Obj):b0 (β id)=some b→w.heap[b]? =some o→br.holds (c6 w ro) (β id) o→kt w ro σ β N id (.bO br)
theorem jG.gI{w:World}{t:TypeId}{n:Nat}{v:Value}{len:Nat}{xs:List Value}(h:jG w t n v len xs){b:Nat}(ad:b0 v=some b):
 b<w.heap.size∧∃cap cur,v= .slice (some ⟨b,0,none⟩) len cap∧w.heap[b]? =some (.cells cur t (0,0)):=by
 rcases h.2 with⟨⟨c,rfl,_⟩,_⟩|⟨g,cap,cur,rfl,hc,ag,_⟩
 ·cases c<;>simp[b0]at ad
 ·have:cap≠0:=by omega
  simp[b0,this]at ad;subst ad;exact⟨(Array.getElem?_eq_some_iff.1 ag).1,cap,cur,rfl,ag⟩
theorem jG.keep{w w':World}{t:TypeId}{n:Nat}{v:Value}{len:Nat}{xs:List Value}(h:jG w t n v len xs)(hw: ∀b,b0 v=some b→w'.heap[b]? =w.heap[b]?)(bA:w.heap.size≤w'.heap.size):jG w' t n v len xs:=by
 refine⟨h.1,?_⟩
 rcases h.2 with⟨⟨b,av,ad⟩,an⟩|⟨g,cap,cur,av,hc,ag,rest⟩
 ·exact .inl ⟨⟨b,av,fun a aI=>Nat.lt_of_lt_of_le (ad a aI) bA⟩,an⟩
 ·have:cap≠0:=by omega
  exact .inr ⟨g,cap,cur,av,hc,(hw g (by rw[av];simp[b0,this])).trans ag,rest⟩
theorem kt.gI{w:World}{ro:Nat→Prop}{σ:bp}{β:Nat→Value}{N id:Nat}{o:dS}(h:kt w ro σ β N id o)(an:o.live=true){b:Nat}(ad:b0 (β id)=some b):b<w.heap.size:=by
 cases h with
 |box t cs b' arr aa af=>rw[aa]at ad;simp[b0]at ad;subst ad;exact(Array.getElem?_eq_some_iff.1 af).1
 |row t n es xs aa=>exact(aa.gI ad).1
 |fG=>simp[dS.live]at an
 |bO br b' o aa af=>rw[aa]at ad;simp only[Option.some.injEq]at ad;subst ad;exact(Array.getElem?_eq_some_iff.1 af).1
def Own(σ:bp)(β:Nat→Value)(b:Nat):Prop:=∃id o,aA σ id=some o∧o.live=true∧b0 (β id)=some b
structure gJ (w:World) (ro:Nat→Prop) (σ:bp) (β:Nat→Value) (N:Nat):Prop where
 cL: ∀id o,aA σ id=some o→kt w ro σ β N id o
 inj: ∀id gl o b6 b,aA σ id=some o→aA σ gl=some b6→o.live=true→b6.live=true→b0 (β id)=some b→b0 (β gl)=some b→id=gl
 fe: ∀b,ro b→¬Own σ β b
 lt: ∀b,ro b→b<w.heap.size
abbrev aY:=Nat→Option (List ba)
def oN(w:World)(ro:Nat→Prop)(G:aY):Prop:=∀g cs,G g=some cs→c6 w ro (.ptr cs) (.pointer (some ⟨g,0,none⟩))∧ro g∧∃arr t oO,w.heap[g]? =some (.cells arr t oO)∧arr.size=cs.length
structure Entry where
 w:World
 ro:Nat→Prop
 σ:bp
 β:Nat→Value
 n:Nat
structure Trans (E:Entry) (w:World) (ro:Nat→Prop) (σ:bp) (β:Nat→Value) (n:Nat):Prop where
 os:w.os=E.w.os
 tape:w.tape=E.w.tape
 output:w.output=E.w.output
 size:E.w.heap.size≤w.heap.size
 frame: ∀b,b<E.w.heap.size→¬Own E.σ E.β b→w.heap[b]? =E.w.heap[b]?
 h3: ∀b,ro b→E.ro b∨Own E.σ E.β b∨E.w.heap.size≤b
 iV: ∀b,E.ro b→ro b
 gm: ∀b,Own σ β b→Own E.σ E.β b∨E.w.heap.size≤b
 dj: ∀id,id<E.n→∀o,aA σ id=some o→aA E.σ id≠none∧β id=E.β id
 new: ∀id o,aA σ id=some o→id<n
 le:E.n≤n
structure aJ where
 cl:List az
 heap:bp
 next:Nat
 base:Nat
structure cP (E:Entry) (G:aY) (s:aJ) (a:Act) (w:World) (β:Nat→Value) (ro:Nat→Prop):Prop where
 defers:a.defers=[]
 size:a.tmps.size=s.cl.length
 slot: ∀i x,s.cl[i]? =some x→bk w ro s.heap β s.next x (a.tmps.getD i undef)
 heap:gJ w ro s.heap β s.next
 ha:oN w ro G
 trans:Trans E w ro s.heap β s.next
 base:E.n≤s.base
def Rel(E:Entry)(G:aY)(s:aJ)(a:Act)(w:World):Prop:=∃β ro,cP E G s a w β ro
theorem bk.keep{w w':World}{ro ro':Nat→Prop}{σ eU:bp}{β dB:Nat→Value}{N mT:Nat}{x:az}{c:Value}(h:bk w ro σ β N x c)
 (hw: ∀b,ro b→w'.heap[b]? =w.heap[b]?)(bZ: ∀b,ro b→ro' b)(jB:N≤mT)
 (ma: ∀id t cs,aA eU id=some (.box t cs)→dB id=β id∧∃t cs,aA σ id=some (.box t cs))
 (dk: ∀id z t n es,aA eU id=some (.row z t n es)→dB id=β id∧∃z t es,aA σ id=some (.row z t n es))
 (mb: ∀id br,aA eU id=some (.bO br)→dB id=β id∧∃br,aA σ id=some (.bO br)):bk w' ro' eU dB mT x c:=by
 induction h with
 |au x c hx=>exact .au x c (hx.keep hw bZ)
 |agg cs c ah _ aO=>exact .agg cs c ah aO
 |tuple cs c ah _ aO=>exact .tuple cs c ah aO
 |ptr id off c an ak=>
  refine .ptr id off c (by omega) fun t cs ag=>?_
  obtain⟨ad,bn,cs',dr⟩:=ma id t cs ag;obtain⟨b,aa,af⟩:=ak bn cs' dr;exact⟨b,ad.trans aa,af⟩
 |dh id off c an ak=>
  refine .dh id off c (by omega) fun t cs ag=>?_
  obtain⟨ad,bn,cs',dr⟩:=ma id t cs ag;obtain⟨b,aa,af⟩:=ak bn cs' dr;exact⟨b,ad.trans aa,af⟩
 |cn id i off c an ak=>
  refine .cn id i off c (by omega) fun z t n es ag=>?_
  obtain⟨ad,ht,bn,dX,dr⟩:=dk id z t n es ag;obtain⟨b,l,hL,aa,af⟩:=ak ht bn n dX dr;exact⟨b,l,hL,ad.trans aa,af⟩
 |aL id c an ak=>
  refine .aL id c (by omega) fun z t n es ag=>?_
  obtain⟨ad,ht,bn,dX,dr⟩:=dk id z t n es ag;rw[ad];exact ak ht bn n dX dr
 |fn f p q c d aa af _ _ gp gq=>exact .fn f p q c d aa af gp gq
 |ref id c an ak=>
  refine .ref id c (by omega) fun br ag=>?_
  obtain⟨ad,ku,dr⟩:=mb id br ag;rw[ad];exact ak ku dr
 |top c=>exact .top c
theorem oN.keep{w w':World}{ro ro':Nat→Prop}{G:aY}(h:oN w ro G)
 (hw: ∀b,ro b→w'.heap[b]? =w.heap[b]?)(bZ: ∀b,ro b→ro' b):oN w' ro' G:=fun g cs ag=>by
 obtain⟨aa,af,arr,t,oO,ar,aQ⟩:=h g cs ag
 exact⟨aa.keep hw bZ,bZ g af,arr,t,oO,(hw g af).trans ar,aQ⟩
def aJ.put(s:aJ)(dst:Option Nat)(v:az):aJ:=
 match dst with
 |some d=>{s with cl:=s.cl.set d v}
 |none=>s
theorem cP.put{E:Entry}{G:aY}{s:aJ}{a:Act}{w:World}{β:Nat→Value}{ro:Nat→Prop}(h:cP E G s a w β ro)(dst:Option Nat)(v:az)(c:Value)
 (av:bk w ro s.heap β s.next v c):cP E G (s.put dst v) (a.put dst c) w β ro:=by
 cases dst with
 |none=>exact h
 |some d=>
  refine⟨h.defers,by simpa[Act.put,aJ.put]using h.size,fun i x hx=>?_,h.heap,h.ha,h.trans,h.base⟩
  simp only[aJ.put,Act.put]at hx⊢;rw[List.getElem?_set]at hx
  have bA:=h.size
  by_cases Dl:d=i
  ·subst Dl
   simp only[if_true]at hx
   split at hx
   ·rename_i bz
    simp only[Option.some.injEq]at hx;subst hx
    have:d<a.tmps.size:=by omega
    simpa[this]using av
   ·cases hx
  ·simp only[Dl,if_false]at hx
   have:=h.slot i x hx
   simpa[Array.getElem?_setIfInBounds_ne Dl]using this
end Go.aG
namespace Go.aG
open Go
def aE(G:aY)(s:aJ):Operand→az
 | .tmp t=>s.cl.getD t .top
 | .const v=>if v.oneCell' then .au (.v v)else .top
 | .global g=>match G g with
  |some cs=>.au (.ptr cs)
  |none=>.top
 | .func f=>.fn (.func f) [] []
theorem cP.eval{E:Entry}{G:aY}{s:aJ}{a:Act}{w:World}{β:Nat→Value}{ro:Nat→Prop}(h:cP E G s a w β ro)(x:Operand):
 bk w ro s.heap β s.next (aE G s x) (a.eval x):=by
 cases x with
 |tmp t=>
  simp only[aE,Act.eval]
  cases aB:s.cl[t]? with
  |none=>simp only[List.getD,aB];exact .top _
  |some v=>simp only[List.getD,aB];exact h.slot t v aB
 |const v=>
  simp only[aE,Act.eval]
  split
  ·exact .au _ _ (.v _ (by assumption))
  ·exact .top _
 |global g=>
  simp only[aE,Act.eval]
  split
  ·exact .au _ _ (h.ha g _ (by assumption)).1
  ·exact .top _
 |func f=>exact .fn _ _ _ _ _ rfl rfl (by simp) (by simp)
def dO(P:Program)(G:aY)(o:Oper)(s bd:aJ):Prop:=
 ∀E a w,Rel E G s a w→∀(K:Act→World→Prop) (Q:Exit→Act→World→Prop),(∀aW w',Rel E G bd aW w'→K aW w')→o.wp P a w K Q
def fy(w w':World):Prop:=∀b,b<w.heap.size→w'.heap[b]? =w.heap[b]?
def kY(P:Program)(G:aY)(o:Oper)(s bd:aJ):Prop:=
 ∀E a w,Rel E G s a w→∀(K:Act→World→Prop) (Q:Exit→Act→World→Prop),(∀aW w',Rel E G bd aW w'→fy w w'→K aW w')→o.wp P a w K Q
theorem kY.op{P:Program}{G:aY}{o:Oper}{s bd:aJ}(h:kY P G o s bd):dO P G o s bd:=fun E a w ae K Q hK=>h E a w ae K Q fun aW w' dC _=>hK aW w' dC
section
variable {P:Program} {G:aY} {o:Oper} {s:aJ}
theorem dO.value{v:az}(h: ∀E a w β ro,cP E G s a w β ro→∃c,(execOp a.eval o).run P w= .ok (.value c) w∧bk w ro s.heap β s.next v c):
 dO P G o s (s.put o.dst v):=by
 intro E a w ⟨β,ro,ae⟩ K Q hK
 obtain⟨c,cD,av⟩:=h E a w β ro ae
 unfold Oper.wp
 rw[cD]
 exact hK _ _ ⟨β,ro,ae.put o.dst v c av⟩
abbrev cE(P:Program)(G:aY)(o:Oper)(s:aJ)(v:az):Prop:=
 ∀E a w β ro,cP E G s a w β ro→∃c,(execOp a.eval o).run P w= .ok (.value c) w∧bk w ro s.heap β s.next v c
theorem cE.step{v:az}(h:cE P G o s v):dO P G o s (s.put o.dst v):=.value h
theorem cE.I8{v:az}(h:cE P G o s v):kY P G o s (s.put o.dst v):=by
 intro E a w ⟨β,ro,ae⟩ K Q hK
 obtain⟨c,cD,av⟩:=h E a w β ro ae
 unfold Oper.wp
 rw[cD]
 exact hK _ _ ⟨β,ro,ae.put o.dst v c av⟩ fun _ _=>rfl
theorem I9(x:Operand)(ao:o.op= .move x):cE P G o s (aE G s x):=
 fun _ a w _ _ ae=>⟨a.eval x,by simp[execOp,ao],ae.eval x⟩
theorem Ja(x:Operand)(ao:o.op= .assign x):cE P G o s (aE G s x):=
 fun _ a w _ _ ae=>⟨a.eval x,by simp[execOp,ao],ae.eval x⟩
def eZ(σ:bp):az→Option (List az)
 | .au (.ptr cs)=>some (cs.map .au)
 | .ptr id off=>match aA σ id with
  |some (.box _ cs)=>some (cs.drop off)
  |_=>none
 | .cn id i off=>match aA σ id with
  |some (.row false _ _ es)=>match es[i]? with
   |some e=>some ((e.drop off).map .au)
   |none=>none
  |_=>none
 |_=>none
theorem oV{α:Type}{n:Nat}: ∀{es:List (List α)},(∀e∈es,e.length=n)→∀{i:Nat} {e:List α},es[i]? =some e→∀j,j<n→es.flatten[i*n+j]? =e[j]?
 |[],_,i,e,h,_,_=>by simp at h
 |x::r,hn,i,e,h,j,ai=>by
  have hx:x.length=n:=hn x (by simp)
  cases i with
  |zero=>
   simp at h;subst h;simp only[List.flatten_cons,Nat.zero_mul,Nat.zero_add];rw[List.getElem?_append_left (by omega)]
  |succ i=>
   simp at h
   have aO:=oV (es:=r) (fun e he=>hn e (by simp[he])) h j ai
   simp only[List.flatten_cons];rw[List.getElem?_append_right (by rw[Nat.succ_mul];omega),←aO]
   congr 1
   rw[Nat.succ_mul];omega
theorem iW{α:Type}{n:Nat}: ∀{es:List (List α)},(∀e∈es,e.length=n)→es.flatten.length=es.length*n
 |[],_=>by simp
 |x::r,hn=>by
  simp only[List.flatten_cons,List.length_append,List.length_cons,Nat.succ_mul];rw[iW (es:=r) (fun e he=>hn e (by simp[he])),hn x (by simp)]
  omega
theorem bk.one{w:World}{ro:Nat→Prop}{σ:bp}{β:Nat→Value}{N:Nat}{x:ba}{c:Value}(h:bk w ro σ β N (.au x) c):c.oneCell'=true:=by
 cases h with
 |au _ _ h=>exact h.one
theorem ta{w:World}{ro:Nat→Prop}{σ:bp}{β:Nat→Value}{N:Nat}(aV:gJ w ro σ β N){p:az}{c:Value}{cs:List az}(ak:eZ σ p=some cs)(hc:bk w ro σ β N p c)
 (bX:cs≠[]): ∃a,c= .pointer (some a)∧∃f:Nat→Value,∀j x,cs[j]? =some x→w.cell? (a.add j)=some (f j)∧bk w ro σ β N x (f j):=by
 cases hc with
 |au x c hx=>
  cases hx with
  |v x=>simp[eZ]at ak
  |ptr cs' a f aa af=>
   simp only[eZ,Option.some.injEq]at ak;subst ak;refine⟨a,rfl,f,fun j x ai=>?_⟩
   rw[List.getElem?_map]at ai
   cases mU:cs'[j]? with
   |none=>simp[mU]at ai
   |some y=>
    simp[mU]at ai;subst ai;exact⟨(aa j y mU).2,.au _ _ (af j y mU)⟩
  |aL=>simp[eZ]at ak
  |mp=>simp[eZ]at ak
  |li=>simp[eZ]at ak
 |ptr id off c bz mV=>
  simp only[eZ]at ak
  cases ao:aA σ id with
  |none=>simp[ao]at ak
  |some hv=>
   cases hv with
   |row=>simp[ao]at ak
   |bO=>simp[ao]at ak
   |box t cs'=>
    simp only[ao,Option.some.injEq]at ak;subst ak;obtain⟨b,ad,rfl⟩:=mV t cs' ao
    have c7:=aV.cL id _ ao
    cases c7 with
    |box _ _ b' arr gK ag bA e0=>
     rw[ad]at gK;simp only[Value.pointer.injEq,Option.some.injEq,Addr.mk.injEq,and_true]at gK;subst gK;refine⟨_,rfl,fun j=>arr.getD (off+j) undef,fun j x ai=>?_⟩
     rw[List.getElem?_drop]at ai
     have bz:off+j<cs'.length:=by
      rcases Nat.lt_or_ge (off+j) cs'.length with h|h
      ·exact h
      ·rw[List.getElem?_eq_none h]at ai;cases ai
     refine⟨?_,e0 _ _ ai⟩
     rw[addLit,cell_of_row w b (off+j) arr t (0,0) ag]
     have:off+j<arr.size:=by omega
     simp[this]
 |cn id i off c bz mV=>
  simp only[eZ]at ak
  cases ao:aA σ id with
  |none=>simp[ao]at ak
  |some hv=>
   cases hv with
   |box=>simp[ao]at ak
   |bO=>simp[ao]at ak
   |row z t n es=>
    cases z with
    |true=>simp[ao]at ak
    |false=>
     simp only[ao]at ak
     cases mW:es[i]? with
     |none=>simp[mW]at ak
     |some e=>
      simp only[mW,Option.some.injEq]at ak;subst ak;obtain⟨b,l,hL,ad,rfl⟩:=mV false t n es ao
      have c7:=aV.cL id _ ao
      cases c7 with
      |row _ _ _ xs iC hn e0=>
       rw[ad]at iC;obtain⟨y3,mX⟩:=iC
       rcases mX with⟨⟨_,h,_⟩,bl⟩|⟨g,cap,cur,av,_,ag,hle,h4,ff,kv⟩
       ·have:=(List.getElem?_eq_some_iff.1 mW).1;omega
       ·simp only[Value.slice.injEq,Option.some.injEq,Addr.mk.injEq,and_true]at av
        obtain⟨rfl,_,_⟩:=av;refine⟨_,rfl,fun j=>xs.getD (i*n+(off+j)) undef,fun j x ai=>?_⟩
        rw[List.getElem?_map]at ai
        cases mU:(e.drop off)[j]? with
        |none=>simp[mU]at ai
        |some y=>
         simp[mU]at ai;subst ai;rw[List.getElem?_drop]at mU
         have mc:e.length=n:=hn e (List.mem_of_getElem? mW)
         have mY:off+j<n:=by
          rcases Nat.lt_or_ge (off+j) e.length with h|h
          ·omega
          ·rw[List.getElem?_eq_none h]at mU;cases mU
         have mZ:es.flatten[i*n+(off+j)]? =some y:=by rw[oV hn mW _ mY];exact mU
         refine⟨?_,.au _ _ (e0 _ _ mZ)⟩
         have iD:i*n+(off+j)<xs.length:=by
          have aa:i*n+(off+j)<es.flatten.length:=by
           rcases Nat.lt_or_ge (i*n+(off+j)) es.flatten.length with h|h
           ·exact h
           ·rw[List.getElem?_eq_none h]at mZ;cases mZ
          rw[iW hn]at aa
          have af:=y3
          omega
         rw[addLit,Nat.add_assoc,cell_of_row w b _ cur t (0,0) ag]
         have hx:xs[i*n+(off+j)]? =cur[i*n+(off+j)]? :=by
          rw[←kv,List.getElem?_take]
          have af:=y3
          rw[if_pos (by omega)]
          simp
         rw[←hx];simp[List.getD,List.getElem?_eq_getElem iD]
 |agg=>simp[eZ]at ak
 |tuple=>simp[eZ]at ak
 |aL=>simp[eZ]at ak
 |fn=>simp[eZ]at ak
 |ref=>simp[eZ]at ak
 |dh=>simp[eZ]at ak
 |top=>simp[eZ]at ak
def kZ(P:Program)(t:TypeId):Option Nat:=
 match P.underlying t with
 |some (.struct _)|some (.array _ _)=>(P.info? t).map (·.size)
 |_=>none
def scalar(P:Program)(t:TypeId):Bool:=
 match P.underlying t with
 |some (.struct _)|some (.array _ _)|none=>false
 |_=>true
theorem y4{t:TypeId}{n:Nat}(h:kZ P t=some n)(w:World):(isAgg t).run P w= .ok true w∧(sizeOf t).run P w= .ok n w:=by
 unfold kZ at h
 cases hu:P.underlying t with
 |none=>simp[hu]at h
 |some d=>
  cases hi:P.info? t with
  |none=>cases d<;>simp[hu,hi]at h
  |some i=>
   cases d<;>simp[hu,hi]at h
   all_goals
    subst h;exact⟨by simp[isAgg,run_underlying hu],by simp[sizeOf,typeInfo,hi]⟩
theorem vI{t:TypeId}(h:scalar P t=true)(w:World):(isAgg t).run P w= .ok false w:=by
 unfold scalar at h
 cases hu:P.underlying t with
 |none=>simp[hu]at h
 |some d=>cases d<;>simp[hu]at h<;>simp[isAgg,run_underlying hu]
theorem Jb(t:TypeId)(x:Operand)(ao:o.op= .load t x){n:Nat}(aB:kZ P t=some n){cs:List az}(ak:eZ s.heap (aE G s x)=some cs)(hn:n≤cs.length)(aP:0<n):
 cE P G o s (.agg (cs.take n)):=
 fun _ a w β ro ae=>by
  obtain⟨cz,hc,f,hf⟩:=ta ae.heap ak (ae.eval x) (by intro h;subst h;simp at hn;omega)
  obtain⟨aa,af⟩:=y4 aB w
  have an:=run_loadCells (P:=P) w cz n f (fun j ai=>(hf j (cs[j]'(by omega)) (by simp)).1)
  refine⟨.agg ((List.range n).map f).toArray,?_,.agg _ _ (by simp;omega) fun j y ai=>?_⟩
  ·simp[execOp,ao,hc,Instr.loadAt,Instr.sureAddr,loadVar,aa,af,an]
  ·rw[List.getElem?_take]at ai
   split at ai
   ·have:=(hf j y ai).2
    rename_i mY;simpa[mY]using this
   ·cases ai
theorem Dm(t:TypeId)(x:Operand)(ao:o.op= .load t x)(aB:scalar P t=true){y:az}{cs:List az}(ak:eZ s.heap (aE G s x)=some (y::cs)):
 cE P G o s y:=
 fun _ a w β ro ae=>by
  obtain⟨cz,hc,f,hf⟩:=ta ae.heap ak (ae.eval x) (by simp)
  have aa:=vI aB w
  obtain⟨j5,c1⟩:=hf 0 y rfl;rw[show cz.add 0=cz from by simp[Addr.add]]at j5
  exact⟨f 0,by simp[execOp,ao,hc,Instr.loadAt,Instr.sureAddr,loadVar,aa,run_load,j5],c1⟩
def qb(P:Program)(t:TypeId)(f:Nat):Option Nat:=
 match P.underlying t with
 |some (.struct fs)=>match fs[f]? with
  |some fd=>match P.info? fd.type with
   |some i=>if i.size=0 then none else some fd.offset
   |none=>none
  |none=>none
 |_=>none
def h5(k:Nat):az→Option az
 | .au (.ptr cs)=>some (.au (.ptr (cs.drop k)))
 | .ptr id off=>some (.ptr id (off+k))
 | .cn id i off=>some (.cn id i (off+k))
 |_=>none
theorem Jc{w:World}{ro:Nat→Prop}{σ:bp}{β:Nat→Value}{N:Nat}{p q:az}{c:Value}{cs:List az}{k:Nat}(ah:h5 k p=some q)(ak:eZ σ p=some cs)(hc:bk w ro σ β N p c):
 ∃a,c= .pointer (some a)∧bk w ro σ β N q (.pointer (some (a.add k))):=by
 cases hc with
 |au x c hx=>
  cases hx with
  |v x=>simp[h5]at ah
  |ptr cs' a f aa af=>
   simp only[h5,Option.some.injEq]at ah;subst ah;refine⟨a,rfl,.au _ _ (.ptr _ _ (fun j=>f (k+j)) (fun j x ai=>?_) (fun j x ai=>?_))⟩
   ·rw[List.getElem?_drop]at ai
    rw[rL,vH];exact aa _ _ ai
   ·rw[List.getElem?_drop]at ai
    exact af _ _ ai
  |aL=>simp[h5]at ah
  |mp=>simp[h5]at ah
  |li=>simp[h5]at ah
 |ptr id off c bz mV=>
  simp only[h5,Option.some.injEq]at ah;subst ah;simp only[eZ]at ak
  split at ak
  ·rename_i t cs' ao
   obtain⟨b,ad,rfl⟩:=mV t cs' ao;refine⟨_,rfl,.ptr _ _ _ bz fun bn Ym k0=>⟨b,ad,by rw[addLit]⟩⟩
  ·cases ak
 |cn id i off c bz mV=>
  simp only[h5,Option.some.injEq]at ah;subst ah;simp only[eZ]at ak
  split at ak
  ·rename_i t n es ao
   obtain⟨b,l,hL,ad,rfl⟩:=mV false t n es ao;refine⟨_,rfl,.cn _ _ _ _ bz fun ht bn cy dX k0=>⟨b,l,hL,ad,?_⟩⟩
   rw[ao]at k0;simp only[Option.some.injEq,dS.row.injEq]at k0;obtain⟨_,_,rfl,_⟩:=k0;rw[addLit,Nat.add_assoc]
  ·cases ak
 |agg=>simp[h5]at ah
 |tuple=>simp[h5]at ah
 |aL=>simp[h5]at ah
 |fn=>simp[h5]at ah
 |ref=>simp[h5]at ah
 |dh=>simp[h5]at ah
 |top=>simp[h5]at ah
theorem Jd{t f k:Nat}(h:qb P t f=some k)(a:Addr)(w:World):(Instr.fieldAt t (.pointer (some a)) f).run P w= .ok (.pointer (some (a.add k))) w:=by
 unfold qb at h
 split at h
 ·rename_i fs hu
  split at h
  ·rename_i fd hf
   split at h
   ·rename_i i hi
    split at h
    ·cases h
    ·rename_i bl
     simp only[Option.some.injEq]at h;subst h;simp[Instr.fieldAt,run_underlying hu,hf,Instr.sureAddr,fieldPlace,sizeOf,typeInfo,hi,bl]
   ·cases h
  ·cases h
 ·cases h
def iX(σ:bp):az→Bool
 | .au (.ptr _)=>true
 | .ptr id _=>match aA σ id with
  |some (.box _ _)=>true
  |_=>false
 | .cn id _ _=>match aA σ id with
  |some (.row _ _ _ _)=>true
  |_=>false
 |_=>false
def oW(k:Nat):az→az
 | .au (.ptr cs)=>.au (.ptr (cs.drop k))
 | .ptr id off=>.ptr id (off+k)
 | .cn id i off=>.cn id i (off+k)
 |x=>x
theorem vJ{w:World}{ro:Nat→Prop}{σ:bp}{β:Nat→Value}{N:Nat}{x:az}{c:Value}(hx:iX σ x=true)(h:bk w ro σ β N x c): ∃a,c= .pointer (some a)∧∀k,bk w ro σ β N (oW k x) (.pointer (some (a.add k))):=by
 cases h with
 |au x c ae=>
  cases ae with
  |ptr cs a f aa af=>
   refine⟨a,rfl,fun k=>.au _ _ (.ptr _ _ (fun j=>f (k+j)) (fun j x ai=>?_) (fun j x ai=>?_))⟩
   ·rw[List.getElem?_drop]at ai
    rw[rL,vH];exact aa _ _ ai
   ·rw[List.getElem?_drop]at ai
    exact af _ _ ai
  |v=>simp[iX]at hx
  |aL=>simp[iX]at hx
  |mp=>simp[iX]at hx
  |li=>simp[iX]at hx
 |ptr id off c an ak=>
  simp only[iX]at hx
  split at hx
  ·rename_i t cs ag
   obtain⟨b,ad,rfl⟩:=ak t cs ag;refine⟨_,rfl,fun k=>.ptr id (off+k) _ an fun bn cs' dr=>?_⟩
   obtain⟨b',gK,vK⟩:=ak bn cs' dr;rw[ad]at gK;simp only[Value.pointer.injEq,Option.some.injEq,Addr.mk.injEq,and_true]at gK;subst gK;exact⟨b,ad,by rw[addLit]⟩
  ·cases hx
 |cn id i off c an ak=>
  simp only[iX]at hx
  split at hx
  ·rename_i z t n es ag
   obtain⟨b,l,hL,ad,rfl⟩:=ak z t n es ag;refine⟨_,rfl,fun k=>.cn id i (off+k) _ an fun ht bn cy dX dr=>?_⟩
   rw[ag]at dr;simp only[Option.some.injEq,dS.row.injEq]at dr;obtain⟨_,_,rfl,_⟩:=dr;exact⟨b,l,hL,ad,by rw[addLit,Nat.add_assoc]⟩
  ·cases hx
 |_=>simp[iX]at hx
theorem Je(t:TypeId)(x:Operand)(f:Nat)(ao:o.op= .fieldAddr t x f){k:Nat}(aj:qb P t f=some k)(ak:iX s.heap (aE G s x)=true):cE P G o s (oW k (aE G s x)):=
 fun _ a w β ro ae=>by
  obtain⟨cz,hc,c1⟩:=vJ ak (ae.eval x);exact⟨_,by simp[execOp,ao,hc,Jd aj],c1 k⟩
theorem Jf(x:Operand)(ao:o.op= .nilCheck x)(ak:iX s.heap (aE G s x)=true):cE P G o s (aE G s x):=
 fun _ a w β ro ae=>by
  obtain⟨cz,hc,_⟩:=vJ ak (ae.eval x);exact⟨_,by simp[execOp,ao,hc],hc ▸ ae.eval x⟩
end
end Go.aG
namespace Go.aG
open Go
def gL(β:Nat→Value)(id:Nat)(v:Value):Nat→Value:=fun k=>if k=id then v else β k
theorem dY(β:Nat→Value)(id:Nat)(v:Value):gL β id v id=v:=by simp[gL]
theorem cu(β:Nat→Value){id k:Nat}(v:Value)(h:k≠id):gL β id v k=β k:=by simp[gL,h]
section
variable {E:Entry} {G:aY} {s:aJ} {a:Act} {w w':World} {β:Nat→Value} {ro:Nat→Prop}
theorem kt.keep{w w':World}{ro ro':Nat→Prop}{σ eU:bp}{β dB:Nat→Value}{N mT:Nat}{id:Nat}{o:dS}(h:kt w ro σ β N id o)
 (hw: ∀b,ro b→w'.heap[b]? =w.heap[b]?)(bZ: ∀b,ro b→ro' b)(jB:N≤mT)(bA:w.heap.size≤w'.heap.size)(hid:dB id=β id)(gr:o.live=true→∀b,b0 (β id)=some b→w'.heap[b]? =w.heap[b]?)
 (ma: ∀id t cs,aA eU id=some (.box t cs)→dB id=β id∧∃t cs,aA σ id=some (.box t cs))
 (dk: ∀id z t n es,aA eU id=some (.row z t n es)→dB id=β id∧∃z t es,aA σ id=some (.row z t n es))
 (mb: ∀id br,aA eU id=some (.bO br)→dB id=β id∧∃br,aA σ id=some (.bO br)):kt w' ro' eU dB mT id o:=by
 cases h with
 |box t cs b arr aa af ar aQ=>
  exact .box t cs b arr (hid.trans aa) ((gr rfl b (by rw[aa];rfl)).trans af) ar fun j x ai=>(aQ j x ai).keep hw bZ jB ma dk mb
 |row t n es xs aa af ar=>
  exact .row t n es xs (by rw[hid];exact aa.keep (fun b ad=>gr rfl b ad) bA) af fun j x ai=>(ar j x ai).keep hw bZ
 |fG t n es aa=>exact .fG t n es (by rw[hid];exact aa.keep hw bZ)
 |bO br b o aa af ar=>exact .bO br b o (by rw[hid];exact aa) ((gr rfl b aa).trans af) (by rw[hid];exact br.mono _ _ _ _ (fun x c h=>h.keep hw bZ) ar)
theorem cP.new(h:cP E G s a w β ro)(id:Nat)(hid:aA s.heap id=none)(ad:s.base≤id)(bz:s.next≤id)(o:dS)(val:Value)
 (na:w'.os=w.os)(nb:w'.tape=w.tape)(jH:w'.output=w.output)(bA:w.heap.size≤w'.heap.size)(hw: ∀b,b<w.heap.size→w'.heap[b]? =w.heap[b]?)
 (gr: ∀b,b0 val=some b→w.heap.size≤b)(_hlive:o.live=true)
 (c7:kt w' ro ((id,o)::s.heap) (gL β id val) (id+1) id o):cP E G {s with heap:=(id,o)::s.heap,next:=id+1} a w' (gL β id val) ro:=by
 have bZ: ∀b,ro b→w'.heap[b]? =w.heap[b]? :=fun b ae=>hw b (h.heap.lt b ae)
 have ag: ∀k,k≠id→aA ((id,o)::s.heap) k=aA s.heap k:=fun k aj=>by simp[aA,Ne.symm aj]
 have rM:aA ((id,o)::s.heap) id=some o:=by simp[aA]
 have Dn: ∀k p b,aA s.heap k=some p→p.live=true→b0 (β k)=some b→b<w.heap.size:=fun k p b aj ak a1=>(h.heap.cL k p aj).gI ak a1
 have key: ∀x c,bk w ro s.heap β s.next x c→bk w' ro ((id,o)::s.heap) (gL β id val) (id+1) x c:=by
  intro x c hx
  induction hx with
  |au x c hx=>exact .au x c (hx.keep bZ fun _ h=>h)
  |agg cs c ah _ aO=>exact .agg cs c ah aO
  |tuple cs c ah _ aO=>exact .tuple cs c ah aO
  |ptr k off c an ak=>
   have aj:k≠id:=by omega
   exact .ptr k off c (by omega) fun t cs a8=>by rw[cu _ _ aj];rw[ag k aj]at a8;exact ak t cs a8
  |dh k off c an ak=>
   have aj:k≠id:=by omega
   exact .dh k off c (by omega) fun t cs a8=>by rw[cu _ _ aj];rw[ag k aj]at a8;exact ak t cs a8
  |cn k i off c an ak=>
   have aj:k≠id:=by omega
   exact .cn k i off c (by omega) fun z t n es a8=>by rw[cu _ _ aj];rw[ag k aj]at a8;exact ak z t n es a8
  |aL k c an ak=>
   have aj:k≠id:=by omega
   exact .aL k c (by omega) fun z t n es a8=>by rw[cu _ _ aj];rw[ag k aj]at a8;exact ak z t n es a8
  |fn f p q c d aa af _ _ gp gq=>exact .fn f p q c d aa af gp gq
  |ref k c an ak=>
   have aj:k≠id:=by omega
   exact .ref k c (by omega) fun br a8=>by rw[cu _ _ aj];rw[ag k aj]at a8;exact ak br a8
  |top c=>exact .top c
 refine⟨h.defers,h.size,fun i x hx=>key _ _ (h.slot i x hx),⟨fun k p aj=>?_,fun k bj p ft b aj dZ ak fV a1 dL=>?_,fun b ae=>?_,fun b ae=>Nat.lt_of_lt_of_le (h.heap.lt b ae) bA⟩,
  h.ha.keep bZ fun _ h=>h,?_,h.base⟩
 ·by_cases bf:k=id
  ·subst bf
   rw[rM]at aj;simp only[Option.some.injEq]at aj;subst aj;exact c7
  ·rw[ag k bf]at aj
   have fW:=h.heap.cL k p aj
   cases fW with
   |box t cs b arr aa af ar aQ=>
    have hM:=Dn k _ b aj rfl (by rw[aa];rfl)
    exact .box t cs b arr (by rw[cu _ _ bf];exact aa) ((hw b hM).trans af) ar fun j x ai=>key _ _ (aQ j x ai)
   |row t n es xs aa af ar=>
    exact .row t n es xs (by rw[cu _ _ bf];exact aa.keep (fun b ad=>hw b (aa.gI ad).1) bA) af fun j x ai=>(ar j x ai).keep bZ fun _ h=>h
   |fG t n es aa=>exact .fG t n es (by rw[cu _ _ bf];exact aa.keep bZ fun _ h=>h)
   |bO br b o aa af ar=>exact .bO br b o (by rw[cu _ _ bf];exact aa) ((hw b (Array.getElem?_eq_some_iff.1 af).1).trans af) (by rw[cu _ _ bf];exact br.mono _ _ _ _ (fun x c h=>h.keep bZ fun _ h=>h) ar)
 ·by_cases bf:k=id
  ·by_cases fX:bj=id
   ·rw[bf,fX]
   ·subst bf
    rw[dY]at a1;rw[cu _ _ fX]at dL;rw[ag bj fX]at dZ
    have aa:=gr b a1
    have af:=Dn bj ft b dZ fV dL
    omega
  ·by_cases fX:bj=id
   ·subst fX
    rw[dY]at dL;rw[cu _ _ bf]at a1;rw[ag k bf]at aj
    have aa:=gr b dL
    have af:=Dn k p b aj ak a1
    omega
   ·rw[cu _ _ bf]at a1
    rw[cu _ _ fX]at dL;rw[ag k bf]at aj;rw[ag bj fX]at dZ;exact h.heap.inj k bj p ft b aj dZ ak fV a1 dL
 ·rintro⟨k,p,aj,ak,a1⟩
  by_cases bf:k=id
  ·subst bf
   rw[dY]at a1
   have aa:=gr b a1
   have af:=h.heap.lt b ae
   omega
  ·rw[cu _ _ bf]at a1
   rw[ag k bf]at aj;exact h.heap.fe b ae ⟨k,p,aj,ak,a1⟩
 ·have t:=h.trans
  refine⟨na.trans t.os,nb.trans t.tape,jH.trans t.output,Nat.le_trans t.size bA,fun b hM gM=>?_,t.h3,t.iV,?_,fun k aj p a8=>?_,fun k p a8=>?_,Nat.le_trans h.base (Nat.le_trans ad (Nat.le_succ _))⟩
  ·rw[hw b (Nat.lt_of_lt_of_le hM t.size)]
   exact t.frame b hM gM
  ·rintro b ⟨k,p,aj,ak,a1⟩
   by_cases bf:k=id
   ·subst bf
    rw[dY]at a1;exact .inr (Nat.le_trans t.size (gr b a1))
   ·rw[cu _ _ bf]at a1
    rw[ag k bf]at aj;exact t.gm b ⟨k,p,aj,ak,a1⟩
  ·have bf:k≠id:=by have:=h.base;omega
   rw[ag k bf]at a8;rw[cu _ _ bf];exact t.dj k aj p a8
  ·by_cases bf:k=id
   ·subst bf;exact Nat.lt_succ_self _
   ·rw[ag k bf]at a8
    have:=t.new k p a8
    show k<id+1;omega
theorem cP.write(h:cP E G s a w β ro)(id:Nat)(o b6:dS)(hid:aA s.heap id=some o)(tc:o.live=true)(Yn:b6.live=true)
 (vL:(∃t cs cs',o= .box t cs∧b6= .box t cs')∨(∃t n es dX,o= .row false t n es∧b6= .row false t n dX)∨(∃br ku,o= .bO br∧b6= .bO ku))
 (na:w'.os=w.os)(nb:w'.tape=w.tape)(jH:w'.output=w.output)(bA:w.heap.size≤w'.heap.size)(hw: ∀b,b<w.heap.size→b0 (β id)≠some b→w'.heap[b]? =w.heap[b]?)
 (c7:kt w' ro (eG s.heap id b6) β s.next id b6):cP E G {s with heap:=eG s.heap id b6} a w' β ro:=by
 have bZ: ∀b,ro b→w'.heap[b]? =w.heap[b]? :=fun b ae=>hw b (h.heap.lt b ae) fun ad=>h.heap.fe b ae ⟨id,o,hid,tc,ad⟩
 have ag:=s9 s.heap id b6
 have own: ∀b,Own (eG s.heap id b6) β b→Own s.heap β b:=by
  rintro b ⟨k,p,aj,ak,a1⟩
  rw[ag k]at aj
  by_cases bf:id=k
  ·subst bf;exact⟨id,o,hid,tc,a1⟩
  ·rw[if_neg bf]at aj;exact⟨k,p,aj,ak,a1⟩
 have me: ∀k p b,aA s.heap k=some p→p.live=true→b0 (β k)=some b→b<w.heap.size:=fun k p b aj ak a1=>(h.heap.cL k p aj).gI ak a1
 have ma: ∀k t cs,aA (eG s.heap id b6) k=some (.box t cs)→β k=β k∧∃t cs,aA s.heap k=some (.box t cs):=by
  intro k t cs aj;rw[ag k]at aj
  by_cases bf:id=k
  ·subst bf
   rw[if_pos rfl]at aj;simp only[Option.some.injEq]at aj
   rcases vL with⟨t1,aF,ea,rfl,rfl⟩|⟨t1,n,aC,a6,rfl,rfl⟩|⟨_,_,rfl,rfl⟩
   ·exact⟨rfl,t1,aF,hid⟩
   ·cases aj
   ·cases aj
  ·rw[if_neg bf]at aj;exact⟨rfl,t,cs,aj⟩
 have dk: ∀k z t n es,aA (eG s.heap id b6) k=some (.row z t n es)→β k=β k∧∃z t es,aA s.heap k=some (.row z t n es):=by
  intro k z t n es aj;rw[ag k]at aj
  by_cases bf:id=k
  ·subst bf
   rw[if_pos rfl]at aj;simp only[Option.some.injEq]at aj
   rcases vL with⟨t1,aF,ea,rfl,rfl⟩|⟨t1,fc,aC,a6,rfl,rfl⟩|⟨_,_,rfl,rfl⟩
   ·cases aj
   ·simp only[dS.row.injEq]at aj
    obtain⟨_,_,rfl,_⟩:=aj;exact⟨rfl,_,_,_,hid⟩
   ·cases aj
  ·rw[if_neg bf]at aj;exact⟨rfl,z,t,es,aj⟩
 have mb: ∀k br,aA (eG s.heap id b6) k=some (.bO br)→β k=β k∧∃br,aA s.heap k=some (.bO br):=by
  intro k br aj;rw[ag k]at aj
  by_cases bf:id=k
  ·subst bf
   rw[if_pos rfl]at aj;simp only[Option.some.injEq]at aj
   rcases vL with⟨t1,aF,ea,rfl,rfl⟩|⟨t1,fc,aC,a6,rfl,rfl⟩|⟨RS,_,rfl,rfl⟩
   ·cases aj
   ·cases aj
   ·exact⟨rfl,RS,hid⟩
  ·rw[if_neg bf]at aj;exact⟨rfl,br,aj⟩
 refine⟨h.defers,h.size,fun i x hx=>(h.slot i x hx).keep bZ (fun _ h=>h) (Nat.le_refl _) ma dk mb,⟨fun k p aj=>?_,fun k bj p ft b aj dZ ak fV a1 dL=>?_,fun b ae ad=>h.heap.fe b ae (own b ad),
  fun b ae=>Nat.lt_of_lt_of_le (h.heap.lt b ae) bA⟩,h.ha.keep bZ fun _ h=>h,?_,h.base⟩
 ·rw[ag k]at aj
  by_cases bf:id=k
  ·subst bf
   rw[if_pos rfl]at aj;simp only[Option.some.injEq]at aj;subst aj;exact c7
  ·rw[if_neg bf]at aj
   refine(h.heap.cL k p aj).keep bZ (fun _ h=>h) (Nat.le_refl _) bA rfl (fun an b ad=>hw b (me k p b aj an ad) fun iE=>bf (h.heap.inj id k o p b hid aj tc an iE ad)) ma dk mb
 ·have aa: ∃q,aA s.heap k=some q∧q.live=true:=by
   rw[ag k]at aj
   by_cases bf:id=k
   ·subst bf;exact⟨o,hid,tc⟩
   ·rw[if_neg bf]at aj;exact⟨p,aj,ak⟩
  have af: ∃q,aA s.heap bj=some q∧q.live=true:=by
   rw[ag bj]at dZ
   by_cases bf:id=bj
   ·subst bf;exact⟨o,hid,tc⟩
   ·rw[if_neg bf]at dZ;exact⟨ft,dZ,fV⟩
  obtain⟨q,aH,oX⟩:=aa;obtain⟨gu,rN,vM⟩:=af;exact h.heap.inj k bj q gu b aH rN oX vM a1 dL
 ·have t:=h.trans
  refine⟨na.trans t.os,nb.trans t.tape,jH.trans t.output,Nat.le_trans t.size bA,fun b hM gM=>?_,t.h3,t.iV,fun b ad=>t.gm b (own b ad),fun k aj p a8=>?_,fun k p a8=>?_,t.le⟩
  ·by_cases iE:b0 (β id)=some b
   ·rcases t.gm b ⟨id,o,hid,tc,iE⟩with hc|hc
    ·exact absurd hc gM
    ·omega
   ·rw[hw b (Nat.lt_of_lt_of_le hM t.size) iE]
    exact t.frame b hM gM
  ·rw[ag k]at a8
   by_cases bf:id=k
   ·subst bf;exact t.dj id aj o hid
   ·rw[if_neg bf]at a8;exact t.dj k aj p a8
  ·rw[ag k]at a8
   by_cases bf:id=k
   ·subst bf;exact t.new id o hid
   ·rw[if_neg bf]at a8;exact t.new k p a8
end
end Go.aG
namespace Go.aG
open Go
def ch:az→List az
 | .agg cs=>cs
 |x=>[x]
section
variable {w:World} {ro:Nat→Prop} {σ:bp} {β:Nat→Value} {N:Nat}
def dT(σ:bp):az→Bool
 | .au _| .fn _ _ _=>true
 | .ptr id _=>match aA σ id with
  |some (.box _ _)=>true
  |_=>false
 | .aL id=>match aA σ id with
  |some (.row _ _ _ _)=>true
  |_=>false
 | .cn id _ _=>match aA σ id with
  |some (.row _ _ _ _)=>true
  |_=>false
 |_=>false
theorem y5(aV:gJ w ro σ β N){x:az}{c:Value}(hx:dT σ x=true)(h:bk w ro σ β N x c):c.oneCell'=true:=by
 cases h with
 |au x c h=>exact h.one
 |agg=>simp[dT]at hx
 |tuple=>simp[dT]at hx
 |ptr id off c an ak=>
  simp only[dT]at hx
  split at hx
  ·rename_i t cs ag
   obtain⟨b,_,rfl⟩:=ak t cs ag;rfl
  ·cases hx
 |cn id i off c an ak=>
  simp only[dT]at hx
  split at hx
  ·rename_i z t n es ag
   obtain⟨b,l,hL,_,rfl⟩:=ak z t n es ag;rfl
  ·cases hx
 |aL id c an ak=>
  simp only[dT]at hx
  split at hx
  ·rename_i z t n es ag
   rw[ak z t n es ag]
   have:=aV.cL id _ ag
   cases this with
   |row _ _ _ xs aa=>
    rcases aa.2 with⟨⟨_,av,_⟩,_⟩|⟨g,cap,cur,av,_⟩<;>rw[av]<;>rfl
   |fG _ _ _ aa=>exact aa.one
  ·cases hx
 |fn=>rfl
 |ref=>simp[dT]at hx
 |dh=>simp[dT]at hx
 |top=>simp[dT]at hx
theorem bk.ch{x:az}{c:Value}(h:bk w ro σ β N x c)(dz:(ch x).all (dT σ)=true)(aV:gJ w ro σ β N):
 c.cells.size=(ch x).length∧(∀j y,(Go.aG.ch x)[j]? =some y→bk w ro σ β N y (c.cells.getD j undef))∧∀u∈c.cells.toList,u.oneCell'=true:=by
 cases h with
 |agg cs c ah hc=>
  refine⟨ah,hc,fun u hu=>?_⟩
  obtain⟨j,ai,rfl⟩:=List.mem_iff_getElem.1 hu
  have Jg:j<cs.length:=by simpa[Value.cells,ah]using ai
  have aa:=hc j cs[j] (List.getElem?_eq_getElem Jg)
  have af:dT σ cs[j]=true:=by
   simp only[Go.aG.ch,List.all_eq_true]at dz;exact dz _ (List.getElem_mem Jg)
  have ar:=y5 aV af aa
  have vN:j<c.size:=by omega
  simpa[Value.cells,vN]using ar
 |au x c hx=>
  have aa:c.cells= #[c]:=by have:=hx.one;cases c<;>simp_all[Value.cells,Value.oneCell']
  refine⟨by simp[aa,Go.aG.ch],fun j y ai=>?_,fun u hu=>?_⟩
  ·cases j with
   |zero=>simp[Go.aG.ch]at ai;subst ai;simpa[aa]using bk.au x c hx
   |succ j=>simp[Go.aG.ch]at ai
  ·simp[aa]at hu;subst hu;exact hx.one
 |tuple cs c ah hc=>simp[Go.aG.ch,dT]at dz
 |top c=>simp[Go.aG.ch,dT]at dz
 |ref id c=>simp[Go.aG.ch,dT]at dz
 |dh id n c=>simp[Go.aG.ch,dT]at dz
 |ptr id off c an ak=>
  have hx:dT σ (.ptr id off)=true:=by simpa[Go.aG.ch]using dz
  have oY:=y5 aV hx (bk.ptr (w:=w) (ro:=ro) id off c an ak)
  have aa:c.cells= #[c]:=by cases c<;>simp_all[Value.cells,Value.oneCell']
  refine⟨by simp[aa,Go.aG.ch],fun j y ai=>?_,fun u hu=>?_⟩
  ·cases j with
   |zero=>simp[Go.aG.ch]at ai;subst ai;simpa[aa]using bk.ptr id off c an ak
   |succ j=>simp[Go.aG.ch]at ai
  ·simp[aa]at hu;subst hu;exact oY
 |cn id i off c an ak=>
  have hx:dT σ (.cn id i off)=true:=by simpa[Go.aG.ch]using dz
  have oY:=y5 aV hx (bk.cn (w:=w) (ro:=ro) id i off c an ak)
  have aa:c.cells= #[c]:=by cases c<;>simp_all[Value.cells,Value.oneCell']
  refine⟨by simp[aa,Go.aG.ch],fun j y ai=>?_,fun u hu=>?_⟩
  ·cases j with
   |zero=>simp[Go.aG.ch]at ai;subst ai;simpa[aa]using bk.cn id i off c an ak
   |succ j=>simp[Go.aG.ch]at ai
  ·simp[aa]at hu;subst hu;exact oY
 |aL id c an ak=>
  have hx:dT σ (.aL id)=true:=by simpa[Go.aG.ch]using dz
  have oY:=y5 aV hx (bk.aL (w:=w) (ro:=ro) id c an ak)
  have aa:c.cells= #[c]:=by cases c<;>simp_all[Value.cells,Value.oneCell']
  refine⟨by simp[aa,Go.aG.ch],fun j y ai=>?_,fun u hu=>?_⟩
  ·cases j with
   |zero=>simp[Go.aG.ch]at ai;subst ai;simpa[aa]using bk.aL id c an ak
   |succ j=>simp[Go.aG.ch]at ai
  ·simp[aa]at hu;subst hu;exact oY
 |fn f p q c d aa af ar aQ=>
  refine⟨by simp[Value.cells,Go.aG.ch],fun j y ai=>?_,fun u hu=>?_⟩
  ·cases j with
   |zero=>simp[Go.aG.ch]at ai;subst ai;simpa[Value.cells]using bk.fn f p q c d aa af ar aQ
   |succ j=>simp[Go.aG.ch]at ai
  ·simp[Value.cells]at hu;subst hu;rfl
end
section
variable {P:Program} {G:aY} {o:Oper} {s:aJ}
theorem Jh(t:TypeId)(c:Value)(w:World):(newVar t c).run P w= .ok ⟨w.heap.size,0,none⟩ (w.alloc (.cells c.cells t)):=by
 simp[newVar,newRow]
theorem kY.Ji{t:TypeId}{cs:List az}(h: ∀E a w β ro,cP E G s a w β ro→∃arr:Array Value,(execOp a.eval o).run P w= .ok (.value (.pointer (some ⟨w.heap.size,0,none⟩))) (w.alloc (.cells arr t))∧
      arr.size=cs.length∧∀j x,cs[j]? =some x→bk w ro s.heap β s.next x (arr.getD j undef))(ad:s.base≤s.next):
    kY P G o s ({s with heap:=(s.next,.box t cs)::s.heap,next:=s.next+1}.put o.dst (.ptr s.next 0)):=by
  intro E a w ⟨β,ro,ae⟩ K Q hK;obtain⟨arr,cD,bA,e0⟩:=h E a w β ro ae;unfold Oper.wp;rw[cD]
  have j6:aA s.heap s.next=none:=by
    cases ag:aA s.heap s.next with
    |none=>rfl
    |some p=>have:=ae.trans.new _ _ ag;omega
  have fO:cP E G {s with heap:=(s.next,.box t cs)::s.heap,next:=s.next+1} a (w.alloc (.cells arr t)) (gL β s.next (.pointer (some ⟨w.heap.size,0,none⟩))) ro:=by
    refine ae.new s.next j6 ad (Nat.le_refl _) _ _ rfl rfl rfl (by simp) (fun b ad=>Go.RowKit.Below.heap_alloc w _ b ad) (fun b ad=>by simp[b0]at ad;omega) rfl ?_
    refine .box t cs w.heap.size arr (dY _ _ _) (heap_alloc_new w _) bA fun j x ai=>?_
    have hx:=e0 j x ai
    have bZ: ∀b,ro b→(w.alloc (.cells arr t)).heap[b]? =w.heap[b]? :=fun b ad=>Go.RowKit.Below.heap_alloc w _ b (ae.heap.lt b ad)
    clear ai e0;generalize arr.getD j undef=c at hx
    induction hx with
    |au x c hx=>exact .au x c (hx.keep bZ fun _ h=>h)
    |agg cs c ah _ aO=>exact .agg cs c ah aO
    |tuple cs c ah _ aO=>exact .tuple cs c ah aO
    |ptr k off c an ak=>
      have aj:k≠s.next:=by omega
      exact .ptr k off c (by omega) fun t cs a8=>by rw[cu _ _ aj];simp only[aA,if_neg (Ne.symm aj)]at a8;exact ak t cs a8
    |dh k off c an ak=>
      have aj:k≠s.next:=by omega
      exact .dh k off c (by omega) fun t cs a8=>by rw[cu _ _ aj];simp only[aA,if_neg (Ne.symm aj)]at a8;exact ak t cs a8
    |cn k i off c an ak=>
      have aj:k≠s.next:=by omega
      exact .cn k i off c (by omega) fun z t n es a8=>by rw[cu _ _ aj];simp only[aA,if_neg (Ne.symm aj)]at a8;exact ak z t n es a8
    |aL k c an ak=>
      have aj:k≠s.next:=by omega
      exact .aL k c (by omega) fun z t n es a8=>by rw[cu _ _ aj];simp only[aA,if_neg (Ne.symm aj)]at a8;exact ak z t n es a8
    |fn f p q c d aa af _ _ gp gq=>exact .fn f p q c d aa af gp gq
    |ref k c an ak=>
      have aj:k≠s.next:=by omega
      exact .ref k c (by omega) fun br a8=>by rw[cu _ _ aj];simp only[aA,if_neg (Ne.symm aj)]at a8;exact ak br a8
    |top c=>exact .top c
  refine hK _ _ ⟨_,ro,fO.put o.dst _ _ ?_⟩ fun b ad=>Go.RowKit.Below.heap_alloc w _ b ad
  refine .ptr _ _ _ (Nat.lt_succ_self _) fun bn cs' ag=>⟨w.heap.size,dY _ _ _,rfl⟩
theorem Jj(t:TypeId)(x:Operand)(ao:o.op= .box t x)(ad:s.base≤s.next)(dz:(ch (aE G s x)).all (dT s.heap)=true):
 kY P G o s ({s with heap:=(s.next,.box t (ch (aE G s x)))::s.heap,next:=s.next+1}.put o.dst (.ptr s.next 0)):=
 .Ji (fun _ a w β ro ae=>by
  obtain⟨aa,af,_⟩:=(ae.eval x).ch dz ae.heap
  exact⟨(a.eval x).cells,by simp[execOp,ao,Instr.box,Jh],aa,af⟩) ad
theorem Jk(t:TypeId)(x:Operand)(ao:o.op= .box t x)(ad:s.base≤s.next)(dz:(ch (aE G s x)).all (dT s.heap)=true):
 dO P G o s ({s with heap:=(s.next,.box t (ch (aE G s x)))::s.heap,next:=s.next+1}.put o.dst (.ptr s.next 0)):=(Jj t x ao ad dz).op
def zeroCells(P:Program)(t:TypeId):Option (List Value):=
 match P.info? t with
 |some i=>match i.zero with
  |some z=>some z.cells.toList
  |none=>none
 |none=>none
theorem vO{t:TypeId}{zs:List Value}(h:zeroCells P t=some zs)(w:World): ∃z:Value,(zeroValue t).run P w= .ok z w∧z.cells=zs.toArray∧∃i,P.info? t=some i∧i.zero=some z:=by
 unfold zeroCells at h
 cases hi:P.info? t with
 |none=>simp[hi]at h
 |some i=>
  cases bl:i.zero with
  |none=>simp[hi,bl]at h
  |some z=>
   simp[hi,bl]at h;exact⟨z,by simp[zeroValue,typeInfo,hi,bl],by rw[←h],i,rfl,bl⟩
theorem Jl(t:TypeId)(ao:o.op= .alloc t)(ad:s.base≤s.next){zs:List Value}(bl:zeroCells P t=some zs)(dz:zs.all Value.oneCell'=true):
 kY P G o s ({s with heap:=(s.next,.box t (zs.map fun z=>.au (.v z)))::s.heap,next:=s.next+1}.put o.dst (.ptr s.next 0)):=
 .Ji (fun _ a w β ro ae=>by
  obtain⟨z,cD,nc,_⟩:=vO bl w;refine⟨z.cells,by simp[execOp,ao,Instr.alloc,cD,Jh],by simp[nc],fun j x ai=>?_⟩
  rw[List.getElem?_map]at ai
  cases oZ:zs[j]? with
  |none=>simp[oZ]at ai
  |some y=>
   simp[oZ]at ai;subst ai
   have:y.oneCell'=true:=by
    rw[List.all_eq_true]at dz;exact dz y (List.mem_of_getElem? oZ)
   rw[nc]
   simpa[oZ]using bk.au (w:=w) (ro:=ro) (σ:=s.heap) (β:=β) (N:=s.next) _ _ (.v y this)) ad
theorem Jm(t:TypeId)(ao:o.op= .alloc t)(ad:s.base≤s.next){zs:List Value}(bl:zeroCells P t=some zs)(dz:zs.all Value.oneCell'=true):
 dO P G o s ({s with heap:=(s.next,.box t (zs.map fun z=>.au (.v z)))::s.heap,next:=s.next+1}.put o.dst (.ptr s.next 0)):=(Jl t ao ad bl dz).op
end
end Go.aG
namespace Go.aG
open Go
section
variable {P:Program} {G:aY} {o:Oper} {s:aJ}
theorem Dp{w w':World}{ro:Nat→Prop}{σ:bp}{β:Nat→Value}{N id:Nat}{t:TypeId}{cs cs':List az}(hid:aA σ id=some (.box t cs)){x:az}{c:Value}
 (h:bk w ro σ β N x c)(bZ: ∀b,ro b→w'.heap[b]? =w.heap[b]?):bk w' ro (eG σ id (.box t cs')) β N x c:=by
 refine h.keep bZ (fun _ h=>h) (Nat.le_refl _) (fun k t1 aF aj=>?_) (fun k z t1 n es aj=>?_) (fun k br aj=>?_)
 ·rw[s9]at aj
  by_cases bf:id=k
  ·subst bf;exact⟨rfl,t,cs,hid⟩
  ·rw[if_neg bf]at aj;exact⟨rfl,t1,aF,aj⟩
 ·rw[s9]at aj
  by_cases bf:id=k
  ·subst bf;rw[if_pos rfl]at aj;cases aj
  ·rw[if_neg bf]at aj;exact⟨rfl,z,t1,es,aj⟩
 ·rw[s9]at aj
  by_cases bf:id=k
  ·subst bf;rw[if_pos rfl]at aj;cases aj
  ·rw[if_neg bf]at aj;exact⟨rfl,br,aj⟩
def dH{α:Type}(cs:List α)(off:Nat)(vs:List α):List α:=cs.take off++(vs++cs.drop (off+vs.length))
theorem n5{α:Type}(cs:List α)(off:Nat)(vs:List α)(h:off+vs.length≤cs.length):(dH cs off vs).length=cs.length:=by
 simp[dH];omega
theorem Dq{α β:Type}(R:α→β→Prop)(d:β){cs vs:List α}{xs ys:List β}{off:Nat}(an:cs.length≤xs.length)(av:vs.length=ys.length)(vP:off+vs.length≤cs.length)
 (aa: ∀j x,cs[j]? =some x→R x (xs.getD j d))(af: ∀j x,vs[j]? =some x→R x (ys.getD j d)): ∀j x,(dH cs off vs)[j]? =some x→R x ((dH xs off ys).getD j d):=by
 intro j x ai
 unfold dH at*
 by_cases aI:j<off
 ·rw[List.getElem?_append_left (by simp;omega),List.getElem?_take,if_pos aI]at ai
  have:=aa j x ai
  rw[List.getD,List.getElem?_append_left (by simp;omega),List.getElem?_take,if_pos aI]
  exact this
 ·have aC:(cs.take off).length=off:=by simp;omega
  have a6:(xs.take off).length=off:=by simp;omega
  rw[List.getElem?_append_right (by omega),aC]at ai
  rw[List.getD,List.getElem?_append_right (by omega),a6]
  by_cases ad:j-off<vs.length
  ·rw[List.getElem?_append_left ad]at ai
   rw[List.getElem?_append_left (by omega)]
   exact af _ _ ai
  ·rw[List.getElem?_append_right (by omega),List.getElem?_drop]at ai
   rw[List.getElem?_append_right (by omega),List.getElem?_drop]
   have ck:off+vs.length+(j-off-vs.length)=j:=by omega
   have eT:off+ys.length+(j-off-ys.length)=j:=by omega
   rw[ck]at ai;rw[eT];exact aa j x ai
theorem Jn(t:TypeId)(b off:Nat)(c:Value)(w:World)(bt:TypeId)(arr:Array Value)(ag:w.heap[b]? =some (.cells arr bt (0,0)))(bA:(P.info? t).map (·.size)=some c.cells.size)
 (qc:off+c.cells.size≤arr.size)(aa: ∀u∈c.cells.toList,u.oneCell'=true):
 (Instr.storeAt t (.pointer (some ⟨b,off,none⟩)) c).run P w= .ok () (w.setRow b (dH arr.toList off c.cells.toList).toArray):=by
 have di:=run_storeCells_at P b off bt c.cells.toList 0 arr w ag (by simpa using qc) aa
 cases hi:P.info? t with
 |none=>simp[hi]at bA
 |some i=>
  have ah:i.size=c.cells.size:=by simpa[hi]using bA
  simp only[Nat.add_zero,List.append_assoc]at di;simp only[Instr.storeAt,Instr.sureAddr,storeVar,sizeOf,typeInfo,Sem.run_bind,Sem.run_pure,Result.andThen_ok,dH];simp[hi,ah,di]
theorem Jo(t:TypeId)(p x:Operand)(ao:o.op= .store t p x){id off:Nat}(ak:aE G s p= .ptr id off){bt:TypeId}{cs:List az}(hid:aA s.heap id=some (.box bt cs))
 {vs:List az}(av:ch (aE G s x)=vs)(dz:vs.all (dT s.heap)=true)(bA:(P.info? t).map (·.size)=some vs.length)(qc:off+vs.length≤cs.length):
 dO P G o s ({s with heap:=eG s.heap id (.box bt (dH cs off vs))}.put o.dst .top):=by
 intro E a w ⟨β,ro,ae⟩ K Q hK
 subst av
 obtain⟨aa,af,ar⟩:=(ae.eval x).ch dz ae.heap
 have rO:=ae.eval p
 rw[ak]at rO
 have c7:=ae.heap.cL id _ hid
 cases c7 with
 |box _ _ b arr ad ag RT e0=>
  generalize Dr:a.eval p=ga at rO
  cases rO with
  |ptr _ _ c an hc=>
   obtain⟨b',gK,rfl⟩:=hc _ _ hid;rw[ad]at gK;simp only[Value.pointer.injEq,Option.some.injEq,Addr.mk.injEq,and_true]at gK;subst gK
   have cD:=Jn (P:=P) t b off (a.eval x) w bt arr ag (by rw[bA,aa]) (by omega) ar
   unfold Oper.wp;simp only[execOp,ao,Dr,Sem.run_bind,cD,Result.andThen_ok,Sem.run_pure]
   have jI: ∀k,k<w.heap.size→b0 (β id)≠some k→(w.setRow b (dH arr.toList off (a.eval x).cells.toList).toArray).heap[k]? =w.heap[k]? :=fun k _ aj=>
    setRow_other w b k _ (fun e=>aj (by rw[ad,e];rfl))
   have bZ: ∀k,ro k→(w.setRow b (dH arr.toList off (a.eval x).cells.toList).toArray).heap[k]? =w.heap[k]? :=fun k aj=>
    jI k (ae.heap.lt k aj) fun a1=>ae.heap.fe k aj ⟨id,_,hid,rfl,a1⟩
   refine hK _ _ ⟨β,ro,(ae.write (w':=w.setRow b (dH arr.toList off (a.eval x).cells.toList).toArray) id _ (.box bt (dH cs off (ch (aE G s x)))) hid rfl rfl (.inl ⟨_,_,_,rfl,rfl⟩) rfl rfl rfl (by simp) jI ?_).put o.dst _ _ (.top _)⟩
   refine .box bt _ b _ ad (setRow_heap w b arr _ bt (0,0) ag) ?_ fun j y ai=>?_
   ·rw[List.size_toArray,n5 _ _ _ (by simp only[Array.length_toList];omega),n5 _ _ _ qc,Array.length_toList,RT]
   ·have ah:=Dq (bk w ro s.heap β s.next) undef (cs:=cs) (vs:=ch (aE G s x)) (xs:=arr.toList) (ys:=(a.eval x).cells.toList) (off:=off) (by simp only[Array.length_toList];omega) (by simp only[Array.length_toList];omega) qc
     (fun j x ai=>by have:=e0 j x ai;simpa[Array.getD_eq_getD_getElem?,List.getD]using this)
     (fun j x ai=>by have:=af j x ai;simpa[Array.getD_eq_getD_getElem?,List.getD]using this) j y ai
    have eP:=Dp (cs':=dH cs off (ch (aE G s x))) hid ah bZ
    simpa[Array.getD_eq_getD_getElem?,List.getD]using eP
def hN:List az→Option (List ba)
 |[]=>some []
 | .au x::r=>match hN r with
  |some l=>some (x::l)
  |none=>none
 |_::_=>none
theorem y6: ∀{vs:List az} {l:List ba},hN vs=some l→vs=l.map .au
 |[],l,h=>by simp[hN]at h;subst h;rfl
 | .au x::r,l,h=>by
  simp only[hN]at h
  cases ae:hN r with
  |none=>simp[ae]at h
  |some eB=>
   simp[ae]at h;subst h;simp[y6 ae]
 | .agg _::_,_,h=>by simp[hN]at h
 | .tuple _::_,_,h=>by simp[hN]at h
 | .ptr _ _::_,_,h=>by simp[hN]at h
 | .dh _ _::_,_,h=>by simp[hN]at h
 | .cn _ _ _::_,_,h=>by simp[hN]at h
 | .aL _::_,_,h=>by simp[hN]at h
 | .fn _ _ _::_,_,h=>by simp[hN]at h
 | .ref _::_,_,h=>by simp[hN]at h
 | .top::_,_,h=>by simp[hN]at h
theorem Jp{α:Type}{n:Nat}: ∀{es:List (List α)},(∀e∈es,e.length=n)→∀{i:Nat} {e aw:List α},es[i]? =some e→aw.length=n→(es.set i aw).flatten=es.flatten.take (i*n)++(aw++es.flatten.drop (i*n+n))
 |[],_,i,e,aw,h,_=>by simp at h
 |x::r,hn,i,e,aw,h,he=>by
  have hx:x.length=n:=hn x (by simp)
  cases i with
  |zero=>simp[hx]
  |succ i=>
   simp at h
   have aO:=Jp (es:=r) (fun e he=>hn e (by simp[he])) h he
   simp only[List.set_cons_succ,List.flatten_cons,aO]
   have aC:(i+1)*n=x.length+i*n:=by rw[Nat.succ_mul];omega
   have a6:(i+1)*n+n=x.length+(i*n+n):=by rw[Nat.succ_mul];omega
   have ck:x.length+(i*n+n)-x.length=i*n+n:=by omega
   have eT:x.length+i*n-x.length=i*n:=by omega
   rw[a6,aC,List.take_append,List.drop_append,ck,eT,List.take_of_length_le (l:=x) (by omega),List.drop_of_length_le (l:=x) (by omega)]
   simp
theorem RU{α:Type}(l:List α)(p n k:Nat)(vs:List α)(e:List α)(he:e.length=n)(an: ∀j,j<n→l[p+j]? =e[j]?)(aj:k+vs.length≤n)(ak:p+n≤l.length):
 dH l (p+k) vs=l.take p++(dH e k vs++l.drop (p+n)):=by
 apply List.ext_getElem?
 intro j
 have ah:(dH e k vs).length=n:=by rw[n5 _ _ _ (by omega),he]
 unfold dH at*
 by_cases aa:j<p
 ·rw[List.getElem?_append_left (by simp;omega),List.getElem?_take,if_pos (by omega),List.getElem?_append_left (by simp;omega),List.getElem?_take,if_pos aa]
 ·have aC:(l.take p).length=p:=by simp;omega
  have a6:(l.take (p+k)).length=p+k:=by simp;omega
  rw[List.getElem?_append_right (l₁:=l.take p) (by omega),aC]
  by_cases af:j<p+k
  ·rw[List.getElem?_append_left (by omega),List.getElem?_take,if_pos af,List.getElem?_append_left (by omega),List.getElem?_append_left (by simp;omega),List.getElem?_take,if_pos (by omega),←an _ (by omega)]
   congr 1;omega
  ·rw[List.getElem?_append_right (by omega),a6]
   have ck:(e.take k).length=k:=by simp;omega
   by_cases ar:j<p+k+vs.length
   ·rw[List.getElem?_append_left (by omega),List.getElem?_append_left (by omega),List.getElem?_append_right (by omega),ck,List.getElem?_append_left (by omega)]
    congr 1;omega
   ·rw[List.getElem?_append_right (by omega),List.getElem?_drop]
    by_cases aQ:j<p+n
    ·rw[List.getElem?_append_left (by omega),List.getElem?_append_right (by omega),ck,List.getElem?_append_right (by omega),List.getElem?_drop,←an _ (by omega)]
     congr 1;omega
    ·rw[List.getElem?_append_right (by omega),ah,List.getElem?_drop]
     congr 1;omega
theorem RV{α:Type}(l:List α)(off m:Nat)(ys:List α)(h:off+ys.length≤m)(hm:m≤l.length):(dH l off ys).take m=dH (l.take m) off ys:=by
 have aC:min m off=off:=by omega
 have a6:min off m=off:=by omega
 have ck:min off l.length=off:=by omega
 have eT:List.take (m-off) ys=ys:=List.take_of_length_le (by omega)
 have rf:m-off-ys.length=m-(off+ys.length):=by omega
 simp only[dH,List.take_append,List.take_take,List.length_take,List.drop_take,aC,a6,ck,eT,rf]
theorem Jq(t:TypeId)(p x:Operand)(ao:o.op= .store t p x){id i off:Nat}(ak:aE G s p= .cn id i off){bt:TypeId}{n:Nat}{es:List (List ba)}(hid:aA s.heap id=some (.row false bt n es))
 {e:List ba}(mW:es[i]? =some e){vs:List ba}(av:hN (ch (aE G s x))=some vs)(bA:(P.info? t).map (·.size)=some vs.length)(qc:off+vs.length≤n):
 dO P G o s ({s with heap:=eG s.heap id (.row false bt n (es.set i (dH e off vs)))}.put o.dst .top):=by
 intro E a w ⟨β,ro,ae⟩ K Q hK
 have Jr:=y6 av
 have dz:(ch (aE G s x)).all (dT s.heap)=true:=by rw[Jr];simp[List.all_eq_true,dT]
 obtain⟨aa,af,ar⟩:=(ae.eval x).ch dz ae.heap
 rw[Jr]at aa af
 rw[List.length_map]at aa
 have rO:=ae.eval p
 rw[ak]at rO
 have c7:=ae.heap.cL id _ hid
 cases c7 with
 |row _ _ _ xs iC hn e0=>
  generalize Dr:a.eval p=ga at rO
  cases rO with
  |cn _ _ _ c an hc=>
   obtain⟨b,l,hL,ad,rfl⟩:=hc _ _ _ _ hid
   have Yo:=iC
   rw[ad]at iC;obtain⟨y3,mX⟩:=iC
   rcases mX with⟨⟨_,h,_⟩,bl⟩|⟨g,cap,cur,Js,Jt,ag,hle,h4,ff,kv⟩
   ·have:=(List.getElem?_eq_some_iff.1 mW).1;omega
   ·simp only[Value.slice.injEq,Option.some.injEq,Addr.mk.injEq,and_true]at Js
    obtain⟨rfl,rfl,rfl⟩:=Js
    have mc:e.length=n:=hn e (List.mem_of_getElem? mW)
    have RX:i<es.length:=(List.getElem?_eq_some_iff.1 mW).1
    have Ds:i*n+n≤es.length*n:=by rw[←Nat.succ_mul];exact Nat.mul_le_mul_right n RX
    have Yp:es.length*n≤hL*n:=Nat.mul_le_mul_right n hle
    have cD:=Jn (P:=P) t b (i*n+off) (a.eval x) w bt cur ag (by rw[bA,aa]) (by omega) ar
    unfold Oper.wp;simp only[execOp,ao,Dr,Sem.run_bind,cD,Result.andThen_ok,Sem.run_pure]
    have jI: ∀k,k<w.heap.size→b0 (β id)≠some k→(w.setRow b (dH cur.toList (i*n+off) (a.eval x).cells.toList).toArray).heap[k]? =w.heap[k]? :=fun k _ aj=>
     setRow_other w b k _ (fun e=>aj (by rw[ad,e];simp[b0,Nat.ne_of_gt Jt]))
    have bZ: ∀k,ro k→(w.setRow b (dH cur.toList (i*n+off) (a.eval x).cells.toList).toArray).heap[k]? =w.heap[k]? :=fun k aj=>
     jI k (ae.heap.lt k aj) fun a1=>ae.heap.fe k aj ⟨id,_,hid,rfl,a1⟩
    have td:(dH e off vs).length=n:=by rw[n5 _ _ _ (by omega),mc]
    refine hK _ _ ⟨β,ro,(ae.write (w':=w.setRow b (dH cur.toList (i*n+off) (a.eval x).cells.toList).toArray) id _ (.row false bt n (es.set i (dH e off vs))) hid rfl rfl (.inr (.inl ⟨_,_,_,_,rfl,rfl⟩)) rfl rfl rfl (by simp) jI ?_).put o.dst _ _ (.top _)⟩
    have o0:(a.eval x).cells.toList.length=vs.length:=by simpa using aa
    refine .row bt n _ (dH xs (i*n+off) (a.eval x).cells.toList) ?_ (fun aw ky=>?_) (fun j y ai=>?_)
    ·rw[ad,List.length_set]
     refine⟨by rw[n5 _ _ _ (by omega)];exact y3,.inr ⟨b,hL,_,rfl,Jt,setRow_heap w b cur _ bt (0,0) ag,hle,h4,?_,?_⟩⟩
     ·rw[List.size_toArray,n5 _ _ _ (by simp;omega)];simpa using ff
     ·show List.take (es.length*n) (dH cur.toList (i*n+off) (a.eval x).cells.toList)=_
      rw[RV _ _ _ _ (by omega) (by simp;omega),kv]
    ·rcases List.mem_or_eq_of_mem_set ky with h|h
     ·exact hn aw h
     ·rw[h];exact td
    ·rw[Jp hn mW td,←RU es.flatten (i*n) n off vs e mc (fun j ai=>oV hn mW j ai) qc (by rw[iW hn];exact Ds)]at ai
     have ah:=Dq (c6 w ro) undef (cs:=es.flatten) (vs:=vs) (xs:=xs) (ys:=(a.eval x).cells.toList) (off:=i*n+off) (by rw[iW hn];omega) (by omega) (by rw[iW hn];omega)
      (fun j x ai=>e0 j x ai)
      (fun j y ai=>by
       have:=af j (.au y) (by simp[ai])
       cases this with
       |au _ _ h=>simpa[Array.getD_eq_getD_getElem?,List.getD]using h) j y ai
     exact ah.keep bZ fun _ h=>h
end
end Go.aG
namespace Go.aG
open Go
def bR(a b:ByteArray):Bool:=a.data.toList==b.data.toList
theorem BV(a b:ByteArray):bR a b=decide (a=b):=by
 unfold bR
 obtain⟨⟨x⟩⟩:=a
 obtain⟨⟨y⟩⟩:=b
 rw[Bool.eq_iff_iff]
 simp
theorem Ju(a b:ByteArray):(a.toList==b.toList)=bR a b:=by rw[ByteArray.toList_eq,ByteArray.toList_eq];rfl
@[simp] theorem sZ{a b:ByteArray}:bR a b=true↔a=b:=by rw[BV];simp
@[simp] theorem yM{a b:ByteArray}:bR a b=false↔a≠b:=by rw[BV];simp
@[simp] theorem Dt(a:ByteArray):bR a a=true:=by simp
def o1(a b:ByteArray):Bool:=Op.bytesLess a.data.toList b.data.toList
theorem RY(a b:ByteArray):Op.bytesLess a.toList b.toList=o1 a b:=by rw[ByteArray.toList_eq,ByteArray.toList_eq];rfl
def y7(op:BinOp)(a b:Int):Option Value:=
 match op with
 | .eql=>some (.bool (a==b))
 | .neq=>some (.bool (a != b))
 | .lss=>some (.bool (decide (a<b)))
 | .leq=>some (.bool (decide (a≤b)))
 | .gtr=>some (.bool (decide (a>b)))
 | .geq=>some (.bool (decide (a≥b)))
 |_=>none
def iY(op:BinOp):Value→Value→Option Value
 | .int k a,.int bj b=>
  match op with
  | .shl=>if b<0 then none else some (.int k (k.wrap (a*2^(min b.toNat k.bits))))
  | .shr=>if b<0 then none else some (.int k (a.fdiv (2^(min b.toNat k.bits))))
  |op=>if k=bj then match op with
   | .add=>some (.int k (k.wrap (a+b)))
   | .sub=>some (.int k (k.wrap (a-b)))
   | .mul=>some (.int k (k.wrap (a*b)))
   | .quo=>if b=0 then none else some (.int k (k.wrap (a.tdiv b)))
   | .rem=>if b=0 then none else some (.int k (a.tmod b))
   |op=>y7 op a b
   else none
 | .string a,.string b=>
  match op with
  | .add=>if((a.size+b.size:Nat):Int)>IntKind.i64.max then none else some (.string (a++b))
  | .eql=>some (.bool (bR a b))
  | .neq=>some (.bool (!bR a b))
  | .lss=>some (.bool (o1 a b))
  | .leq=>some (.bool (o1 a b||bR a b))
  | .gtr=>some (.bool (!(o1 a b||bR a b)))
  | .geq=>some (.bool (!o1 a b))
  |_=>none
 |_,_=>none
theorem RZ {P : Program} {op : BinOp} {x y c : Value} (h : iY op x y = some c) (t : TypeId) (p q : Operand) (w : World) :
    (eqGuard op t p q x y).run P w = .ok () w ∧ (binOp op t x y).run P w = .ok c w ∧ c.oneCell' = true := by
  cases x with
  | int k a =>
    cases y with
    | int bj b =>
      simp only [iY] at h; refine ⟨by rw [eqGuard_at_int]; rfl, ?_⟩
      cases op
      all_goals first
        | (simp only at h
           split at h
           · cases h
           · rename_i hn
             simp only [Option.some.injEq] at h; subst h; refine ⟨?_, rfl⟩
             simp [binOp, Op.shift, hn]; done)
        | (simp only at h
           split at h
           · rename_i aj
             subst aj
             first
               | (simp only [Option.some.injEq, y7] at h; subst h; exact ⟨by simp [binOp, Op.intArith, Op.intCmp], rfl⟩)
               | (split at h
                  · cases h
                  · rename_i bl
                    simp only [Option.some.injEq] at h; subst h
                    exact ⟨by simp [binOp, Op.intDiv, bl], rfl⟩)
               | (simp [y7] at h; done)
           · cases h)
    | _ => simp [iY] at h
  | string a =>
    cases y with
    | string b =>
      simp only [iY] at h; refine ⟨by rw [eqGuard_at_string]; rfl, ?_⟩
      cases op <;> simp only at h
      all_goals first
        | cases h; done
        | (split at h
           · cases h
           · rename_i hn
             simp only [Option.some.injEq] at h; subst h
             exact ⟨by simp only [binOp_string_add, Op.stringOp, hn, if_false]; rfl, rfl⟩)
        | (simp only [Option.some.injEq] at h; subst h; exact ⟨by simp only [binOp, Op.stringOp, Ju, RY]; rfl, rfl⟩)
    | _ => simp [iY] at h
  | _ => simp [iY] at h
section
variable {P:Program} {G:aY} {o:Oper} {s:aJ}
theorem bk.val{w:World}{ro:Nat→Prop}{σ:bp}{β:Nat→Value}{N:Nat}{x c:Value}(h:bk w ro σ β N (.au (.v x)) c):c=x:=by
 cases h with
 |au _ _ h=>cases h;rfl
theorem cP.dU{E:Entry}{a:Act}{w:World}{β:Nat→Value}{ro:Nat→Prop}(h:cP E G s a w β ro){x:Operand}{v:Value}(hx:aE G s x= .au (.v v)):a.eval x=v:=
 bk.val (hx ▸ h.eval x)
theorem bk.fw{w:World}{ro:Nat→Prop}{σ:bp}{β:Nat→Value}{N:Nat}{c:Value}(h:c.oneCell'=true):bk w ro σ β N (.au (.v c)) c:=.au _ _ (.v _ h)
theorem nd(op:BinOp)(b4 ty:TypeId)(x y:Operand)(ao:o.op= .binOp op b4 x y ty){u v c:Value}(hx:aE G s x= .au (.v u))(ax:aE G s y= .au (.v v))(hc:iY op u v=some c):
 cE P G o s (.au (.v c)):=
 fun _ a w β ro ae=>by
  obtain⟨aa,af,ar⟩:=RZ (P:=P) hc b4 x y w;exact⟨c,by simp[execOp,ao,ae.dU hx,ae.dU ax,aa,af],.fw ar⟩
theorem Jv(b4 ty:TypeId)(x y:Operand)(ao:o.op= .binOp .eql b4 x y ty)(aB:P.underlying b4=some .bool){u v:Bool}(hx:aE G s x= .au (.v (.bool u)))(ax:aE G s y= .au (.v (.bool v))):
 cE P G o s (.au (.v (.bool (u==v)))):=
 fun _ a w β ro ae=>⟨.bool (u==v),by simp[execOp,ao,ae.dU hx,ae.dU ax,eqGuard_at_bool,run_eql_bool w b4 u v aB],.fw rfl⟩
theorem Jw(b4 ty:TypeId)(x y:Operand)(ao:o.op= .binOp .neq b4 x y ty)(aB:P.underlying b4=some .bool){u v:Bool}(hx:aE G s x= .au (.v (.bool u)))(ax:aE G s y= .au (.v (.bool v))):
 cE P G o s (.au (.v (.bool (!(u==v))))):=
 fun _ a w β ro ae=>⟨.bool (!(u==v)),by simp[execOp,ao,ae.dU hx,ae.dU ax,eqGuard_at_bool,run_neq_bool w b4 u v aB],.fw rfl⟩
def lB:Value→Value→Option Bool
 | .int k a,.int bj b=>if k=bj then some (a==b)else none
 | .bool a,.bool b=>some (a==b)
 | .string a,.string b=>some (bR a b)
 |_,_=>none
def o2(P:Program)(t:TypeId):Value→Bool
 | .int k _=>match P.underlying t with
  |some (.int bj)=>decide (k=bj)
  |_=>false
 | .bool _=>match P.underlying t with
  |some .bool=>true
  |_=>false
 | .string _=>match P.underlying t with
  |some .string=>true
  |_=>false
 |_=>false
def Jx(e:TypeId)(c i:Nat):Field:={(default:Field)with name:= "e",type:=e,offset:=i*c}
theorem Du(d:Nat)(e:TypeId)(c:Nat)(X Y:Array Value): ∀(is:List Nat),Op.eqFields d X Y (is.map (Jx e c))=Op.eqItems d e c X Y is
 |[]=>rfl
 |i::is=>by
  simp only[List.map_cons,Op.eqFields,Op.eqItems,Du d e c X Y is];rfl
def lC(P:Program)(t:TypeId):Option (List Field):=
 match P.underlying t with
 |some (.struct fs)=>if P.stoodInHeld t||P.eqGuardType P.depth t then none else some fs.toList
 |some (.array n e)=>match P.info? e with
  |some _=>if P.eqGuardType P.depth t then none else some ((List.range n).map (Jx e (P.cellsOf e)))
  |none=>none
 |_=>none
theorem R0{P:Program}{t:TypeId}{gs:List Field}(h:lC P t=some gs)(D:Nat)(p q:Array Value)(w:World):
 (Op.equalIn (D+1) t (.agg p) (.agg q)).run P w=(Op.eqFields D p q gs).run P w∧(isAgg t).run P w= .ok true w:=by
 unfold lC at h
 split at h
 ·rename_i y8 hu
  split at h
  ·cases h
  ·rename_i hc
   simp only[Bool.or_eq_true,not_or,Bool.not_eq_true]at hc;simp only[Option.some.injEq]at h;subst h
   have n6:P.fieldsOf t=y8:=by simp[Program.fieldsOf,hu]
   exact⟨by rw[run_equalIn_struct w D t p q (by rw[n6];exact hu) hc.1,n6],by simp[isAgg,run_underlying hu]⟩
 ·rename_i n e hu
  split at h
  ·rename_i inf te
   split at h
   ·cases h
   ·simp only[Option.some.injEq]at h
    subst h;exact⟨by rw[run_equalIn_array w D p q hu te,←Du],by simp[isAgg,run_underlying hu]⟩
  ·cases h
 ·cases h
def n7(P:Program):Nat→Nat→List Field→List Value→List Value→Option Bool
 |0,_,_,_,_=>none
 |_+1,_,[],_,_=>some true
 |d+1,k,f::fs,xs,ys=>
  if f.name= "_" ||f.offset != k then none
  else match lC P f.type with
   |some gs=>match P.info? f.type with
    |some inf=>match n7 P d 0 gs (xs.take inf.size) (ys.take inf.size),n7 P d (k+inf.size) fs (xs.drop inf.size) (ys.drop inf.size)with
     |some a,some b=>some (a&&b)
     |_,_=>none
    |none=>none
   |none=>match xs,ys with
    |x::xs,y::ys=>if o2 P f.type x then match lB x y,n7 P d (k+1) fs xs ys with
     |some a,some b=>some (a&&b)
     |_,_=>none
     else none
    |_,_=>none
def vQ(P:Program)(k:Nat)(fs:List Field)(xs ys:List Value):Option Bool:=n7 P 64 k fs xs ys
theorem R1{t:TypeId}{x y:Value}{b:Bool}(h:lB x y=some b)(hf:o2 P t x=true)(d:Nat)(w:World):(Op.equalIn (d+1) t x y).run P w= .ok b w∧x.oneCell'=true∧y.oneCell'=true∧(isAgg t).run P w= .ok false w:=by
 cases x with
 |int k a=>
  cases y with
  |int bj b'=>
   simp only[lB]at h
   split at h
   ·rename_i aj
    subst aj;simp only[Option.some.injEq]at h;subst h;simp only[o2]at hf
    split at hf
    ·rename_i hb hu
     exact⟨run_equalIn_int w d t k hb a b' hu,rfl,rfl,by simp[isAgg,run_underlying hu]⟩
    ·cases hf
   ·cases h
  |_=>simp[lB]at h
 |bool a=>
  cases y with
  |bool b'=>
   simp only[lB,Option.some.injEq]at h;subst h;simp only[o2]at hf
   split at hf
   ·rename_i hu
    exact⟨run_equalIn_bool w d t a b' hu,rfl,rfl,by simp[isAgg,run_underlying hu]⟩
   ·cases hf
  |_=>simp[lB]at h
 |string a=>
  cases y with
  |string b'=>
   simp only[lB,Option.some.injEq]at h;subst h;simp only[o2]at hf
   split at hf
   ·rename_i hu
    refine⟨?_,rfl,rfl,by simp[isAgg,run_underlying hu]⟩
    rw[run_equalIn_string w d t a b' hu,Ju]
   ·cases hf
  |_=>simp[lB]at h
 |_=>simp[lB]at h
theorem Jy{xs:List Value}{X:Array Value}{k n:Nat}(gN: ∀j x,xs[j]? =some x→X[k+j]? =some x): ∀j x,(xs.take n)[j]? =some x→(X.extract k (k+n))[0+j]? =some x:=by
 intro j x ai
 rw[List.getElem?_take]at ai
 split at ai
 ·rename_i mY
  have:=gN j x ai
  rw[Nat.zero_add,Array.getElem?_extract]
  have bz:k+j<X.size:=(Array.getElem?_eq_some_iff.1 this).1
  rw[if_pos (by omega)]
  exact this
 ·cases ai
theorem y9: ∀(d:Nat) (fs:List Field) (k:Nat) (xs ys:List Value) (X Y:Array Value) (b:Bool) (D:Nat) (w:World),n7 P d k fs xs ys=some b→d≤D→(∀j x,xs[j]? =some x→X[k+j]? =some x)→(∀j y,ys[j]? =some y→Y[k+j]? =some y)→
 (Op.eqFields D X Y fs).run P w= .ok b w
 |0,_,k,xs,ys,X,Y,b,D,w,h,_,_,_=>by simp[n7]at h
 |d+1,[],k,xs,ys,X,Y,b,D,w,h,_,gN,nf=>by
  simp[n7]at h;subst h;simp[Op.eqFields]
 |d+1,f::fs,k,xs,ys,X,Y,b,0,w,h,k1,_,_=>by omega
 |d+1,f::fs,k,xs,ys,X,Y,b,D+1,w,h,k1,gN,nf=>by
  unfold n7 at h
  split at h
  ·cases h
  ·rename_i hc
   simp only[Bool.or_eq_true,decide_eq_true_eq,bne_iff_ne,ne_eq,not_or,Decidable.not_not]at hc;obtain⟨tf,vP⟩:=hc
   split at h
   ·rename_i gs ag
    split at h
    ·rename_i inf te
     split at h
     ·rename_i ez gB aa af
      simp only[Option.some.injEq]at h;subst h
      have cB:=y9 d gs 0 _ _ (X.extract k (k+inf.size)) (Y.extract k (k+inf.size)) ez D w aa (by omega) (Jy gN) (Jy nf)
      have c4:=y9 d fs (k+inf.size) _ _ X Y gB (D+1) w af (by omega) (fun j x ai=>by rw[List.getElem?_drop]at ai;have:=gN _ x ai;rwa[show k+(inf.size+j)=k+inf.size+j from by omega]at this) (fun j x ai=>by rw[List.getElem?_drop]at ai;have:=nf _ x ai;rwa[show k+(inf.size+j)=k+inf.size+j from by omega]at this)
      obtain⟨aC,a6⟩:=R0 ag D (X.extract k (k+inf.size)) (Y.extract k (k+inf.size)) w
      have ff:P.cellsOf f.type=inf.size:=by simp[Program.cellsOf,te]
      simp only[Op.eqFields,Sem.run_bind,tf,ne_eq,not_false_eq_true,if_true,part,a6,Result.andThen_ok,run_sizeOf w te,ff,vP,Sem.run_pure,aC,cB]
      cases ez
      ·simp
      ·simpa using c4
     ·cases h
    ·cases h
   ·split at h
    ·rename_i x Dv y R2
     split at h
     ·rename_i qc
      split at h
      ·rename_i ez gB he ae
       simp only[Option.some.injEq]at h;subst h;obtain⟨aa,_,_,aQ⟩:=R1 he qc D w
       have Jz:=gN 0 x rfl
       have za:=nf 0 y rfl
       have aO:=y9 d fs (k+1) Dv R2 X Y gB (D+1) w ae (by omega) (fun j x ai=>by have:=gN (j+1) x ai;rwa[show k+(j+1)=k+1+j from by omega]at this) (fun j x ai=>by have:=nf (j+1) x ai;rwa[show k+(j+1)=k+1+j from by omega]at this)
       simp only[Nat.add_zero]at Jz za;simp only[Op.eqFields,Sem.run_bind,tf,ne_eq,not_false_eq_true,if_true,part,aQ,Result.andThen_ok,Bool.false_eq_true,if_false,vP,Jz,za,Sem.run_pure,aa]
       cases ez
       ·simp
       ·simpa using aO
      ·cases h
     ·cases h
    ·cases h
theorem JA(fs:List Field)(k:Nat)(xs ys:List Value)(X Y:Array Value)(b:Bool)(d:Nat)(w:World)(h:vQ P k fs xs ys=some b)(hd:64≤d+1)(gN: ∀j x,xs[j]? =some x→X[k+j]? =some x)(nf: ∀j y,ys[j]? =some y→Y[k+j]? =some y):
 (Op.eqFields (d+1) X Y fs).run P w= .ok b w:=y9 64 fs k xs ys X Y b (d+1) w h hd gN nf
def gD:List az→Option (List Value)
 |[]=>some []
 | .au (.v x)::r=>match gD r with
  |some l=>some (x::l)
  |none=>none
 |_::_=>none
theorem vR{w:World}{ro:Nat→Prop}{σ:bp}{β:Nat→Value}{N:Nat}: ∀{cs:List az} {l:List Value} {c:Nat→Value},gD cs=some l→(∀j x,cs[j]? =some x→bk w ro σ β N x (c j))→l.length=cs.length∧∀j x,l[j]? =some x→c j=x
 |[],l,c,h,_=>by simp[gD]at h;subst h;simp
 | .au (.v x)::r,l,c,h,hc=>by
  simp only[gD]at h
  cases ae:gD r with
  |none=>simp[ae]at h
  |some eB=>
   simp[ae]at h;subst h;obtain⟨aa,af⟩:=vR (c:=fun j=>c (j+1)) ae fun j x ai=>hc (j+1) x ai;refine⟨by simp[aa],fun j y ai=>?_⟩
   cases j with
   |zero=>simp at ai;subst ai;exact bk.val (hc 0 _ rfl)
   |succ j=>exact af j y ai
 | .au (.ptr _)::_,_,_,h,_=>by simp[gD]at h
 | .au (.aL _ _)::_,_,_,h,_=>by simp[gD]at h
 | .agg _::_,_,_,h,_=>by simp[gD]at h
 | .tuple _::_,_,_,h,_=>by simp[gD]at h
 | .ptr _ _::_,_,_,h,_=>by simp[gD]at h
 | .dh _ _::_,_,_,h,_=>by simp[gD]at h
 | .cn _ _ _::_,_,_,h,_=>by simp[gD]at h
 | .aL _::_,_,_,h,_=>by simp[gD]at h
 | .fn _ _ _::_,_,_,h,_=>by simp[gD]at h
 | .ref _::_,_,_,h,_=>by simp[gD]at h
 | .top::_,_,_,h,_=>by simp[gD]at h
theorem JB{t:TypeId}{fs:List Field}(h:lC P t=some fs){cs ds:List az}{xs ys:List Value}{b:Bool}(lD:gD cs=some xs)(k2:gD ds=some ys)(ad:vQ P 0 fs xs ys=some b)
 {w:World}{ro:Nat→Prop}{σ:bp}{β:Nat→Value}{N:Nat}{X Y:Value}(gN:bk w ro σ β N (.agg cs) X)(nf:bk w ro σ β N (.agg ds) Y):
 ∃p q,X= .agg p∧Y= .agg q∧P.eqGuardType P.depth t=false∧(Op.equalIn 10000 t (.agg p) (.agg q)).run P w= .ok b w:=by
 unfold lC at h
 split at h
 ·rename_i y8 hu
  split at h
  ·cases h
  ·rename_i hc
   simp only[Bool.or_eq_true,not_or,Bool.not_eq_true]at hc;simp only[Option.some.injEq]at h;subst h
   cases gN with
   |agg _ p ak Dw=>
    cases nf with
    |agg _ q aH Dx=>
     refine⟨p,q,rfl,rfl,hc.2,?_⟩
     have n6:P.fieldsOf t=y8:=by simp[Program.fieldsOf,hu]
     rw[run_equalIn_struct w 9999 t p q (by rw[n6];exact hu) hc.1,n6]
     obtain⟨aa,af⟩:=vR (c:=fun j=>p.getD j undef) lD Dw;obtain⟨ar,aQ⟩:=vR (c:=fun j=>q.getD j undef) k2 Dx;refine JA y8.toList 0 xs ys p q b 9998 w ad (by omega) (fun j x ai=>?_) (fun j x ai=>?_)
     ·have bz:j<p.size:=by
       rcases Nat.lt_or_ge j xs.length with h|h
       ·omega
       ·rw[List.getElem?_eq_none h]at ai;cases ai
      have:=af j x ai
      simp[bz]at this;simp[bz,this]
     ·have bz:j<q.size:=by
       rcases Nat.lt_or_ge j ys.length with h|h
       ·omega
       ·rw[List.getElem?_eq_none h]at ai;cases ai
      have:=aQ j x ai
      simp[bz]at this;simp[bz,this]
 ·rename_i n e hu
  split at h
  ·rename_i inf te
   split at h
   ·cases h
   ·rename_i hc
    simp only[Bool.not_eq_true]at hc;simp only[Option.some.injEq]at h;subst h
    cases gN with
    |agg _ p ak Dw=>
     cases nf with
     |agg _ q aH Dx=>
      refine⟨p,q,rfl,rfl,hc,?_⟩
      rw[run_equalIn_array w 9999 p q hu te,←Du];obtain⟨aa,af⟩:=vR (c:=fun j=>p.getD j undef) lD Dw;obtain⟨ar,aQ⟩:=vR (c:=fun j=>q.getD j undef) k2 Dx;refine JA _ 0 xs ys p q b 9998 w ad (by omega) (fun j x ai=>?_) (fun j x ai=>?_)
      ·have bz:j<p.size:=by
        rcases Nat.lt_or_ge j xs.length with h|h
        ·omega
        ·rw[List.getElem?_eq_none h]at ai;cases ai
       have:=af j x ai
       simp[bz]at this;simp[bz,this]
      ·have bz:j<q.size:=by
        rcases Nat.lt_or_ge j ys.length with h|h
        ·omega
        ·rw[List.getElem?_eq_none h]at ai;cases ai
       have:=aQ j x ai
       simp[bz]at this;simp[bz,this]
  ·cases h
 ·cases h
theorem JC(b4 ty:TypeId)(x y:Operand)(ao:o.op= .binOp .eql b4 x y ty){fs:List Field}(h:lC P b4=some fs){cs ds:List az}(hx:aE G s x= .agg cs)(ax:aE G s y= .agg ds)
 {xs ys:List Value}{b:Bool}(lD:gD cs=some xs)(k2:gD ds=some ys)(ad:vQ P 0 fs xs ys=some b):cE P G o s (.au (.v (.bool b))):=
 fun _ a w β ro ae=>by
  obtain⟨p,q,aa,af,ar,aQ⟩:=JB h lD k2 ad (hx ▸ ae.eval x) (ax ▸ ae.eval y);exact⟨.bool b,by simp only[execOp,ao,aa,af,Sem.run_bind,run_eqGuard_agg w .eql b4 x y p q ar,Result.andThen_ok,run_eql_struct,aQ,Sem.run_pure],.fw rfl⟩
theorem JD(b4 ty:TypeId)(x y:Operand)(ao:o.op= .binOp .neq b4 x y ty){fs:List Field}(h:lC P b4=some fs){cs ds:List az}(hx:aE G s x= .agg cs)(ax:aE G s y= .agg ds)
 {xs ys:List Value}{b:Bool}(lD:gD cs=some xs)(k2:gD ds=some ys)(ad:vQ P 0 fs xs ys=some b):cE P G o s (.au (.v (.bool (!b)))):=
 fun _ a w β ro ae=>by
  obtain⟨p,q,aa,af,ar,aQ⟩:=JB h lD k2 ad (hx ▸ ae.eval x) (ax ▸ ae.eval y);exact⟨.bool (!b),by simp only[execOp,ao,aa,af,Sem.run_bind,run_eqGuard_agg w .neq b4 x y p q ar,Result.andThen_ok,run_neq_struct,aQ,Sem.run_pure],.fw rfl⟩
theorem JE(t:TypeId)(x:Operand)(ao:o.op= .unOp .not t x){b:Bool}(hx:aE G s x= .au (.v (.bool b))):cE P G o s (.au (.v (.bool (!b)))):=
 fun _ a w β ro ae=>⟨.bool (!b),by simp[execOp,ao,ae.dU hx,Op.unary],.fw rfl⟩
theorem JF(t:TypeId)(x:Operand)(ao:o.op= .unOp .neg t x){k:IntKind}{n:Int}(hx:aE G s x= .au (.v (.int k n))):cE P G o s (.au (.v (.int k (k.wrap (0-n))))):=
 fun _ a w β ro ae=>⟨.int k (k.wrap (0-n)),by simp[execOp,ao,ae.dU hx,Op.unary,Op.intArith],.fw rfl⟩
theorem vS(c x y:Operand)(ao:o.op= .pick c x y){b:Bool}(hc:aE G s c= .au (.v (.bool b))){v:az}(av:(if b then aE G s x else aE G s y)=v):cE P G o s v:=
 fun _ a w β ro ae=>⟨if b then a.eval x else a.eval y,by simp[execOp,ao,ae.dU hc,asBool],by
  subst av
  cases b
  ·simpa using ae.eval y
  ·simpa using ae.eval x⟩
theorem JG(x:Operand)(i:Nat)(ao:o.op= .extract x i){cs:List az}(hx:aE G s x= .tuple cs){v:az}(av:cs[i]? =some v):cE P G o s v:=
 fun _ a w β ro ae=>by
  have h:=ae.eval x
  rw[hx]at h;generalize he:a.eval x=c at h
  cases h with
  |tuple _ c ah hc=>
   have bz:i<c.size:=by have:=(List.getElem?_eq_some_iff.1 av).1;omega
   refine⟨c[i],?_,?_⟩
   ·simp[execOp,ao,Instr.extract,he,bz]
   ·simpa[bz]using hc i v av
end
end Go.aG
