/- The AV calculus, part A: values as trees, the relation between a symbolic state and a world, and how it is kept. Conditions: none; nothing here speaks of a particular program. -/
import Derived.Test.YtmkpmgfieagphaaGreatDoorKST0
import Derived.Laws.StructEq
import Derived.ChangeKeysEq
namespace Go.aL
open Go
theorem qi(a:Addr)(n:Nat):(a.add n).block=a.block:=by unfold Addr.add;split<;>rfl
theorem zC(a:Addr)(i j:Nat):(a.add i).add j=a.add (i+j):=by
 unfold Addr.add
 by_cases hi:i=0<;>by_cases af:j=0<;>simp[hi,af,Nat.add_assoc]
theorem addLit(b o n:Nat):(⟨b,o,none⟩:Addr).add n=⟨b,o+n,none⟩:=by
 unfold Addr.add;split
 ·rename_i h;subst h;rfl
 ·rfl
inductive aD where
 |av (x:a6)
 |agg (cs:List aD)
 |tuple (cs:List aD)
 |ptr (id off:Nat)
 |cW (id i off:Nat)
 |aO (id:Nat)
 |fn (f:Fn) (first captured:List aD)
 |ref (id:Nat)
 |dA (id n:Nat)
 |top
def QQ(agg:Bool)(n:Nat)(v:Value)(p:Nat→Value):Prop:=
 match agg with
 |true=>∃c:Array Value,v= .agg c∧c.size=n∧∀i,i<n→c.getD i undef=p i
 |false=>n=1∧v=p 0
inductive cR (w:World) (ro:Nat→Prop):a6→Value→Prop where
 |v (x:Value):x.oneCell'=true→cR w ro (.v x) x
 |ptr (cs:List a6) (a:Addr) (c:Nat→Value):(∀j x,cs[j]? =some x→ro a.block∧w.cell? (a.add j)=some (c j))→
  (∀j x,cs[j]? =some x→cR w ro x (c j))→cR w ro (.ptr cs) (.pointer (some a))
 |aO (n:Nat) (es:List (List a6)) (b:Option Addr) (cap:Nat) (c:Nat→Value):es.length≤cap→cap≤maxLen→(∀e∈es,e.length=n)→
  (0<es.length→∃a,b=some a∧∀j,j<es.length*n→ro a.block∧w.cell? (a.add j)=some (c j))→
  (∀j x,es.flatten[j]? =some x→cR w ro x (c j))→cR w ro (.aO n es) (.slice b es.length cap)
 |mp (agg:Bool) (ks:List Value) (vs:List (List a6)) (r:Nat) (es:Array MapEntry) (clock:Nat) (p:Nat→Nat→Value):ro r→w.heap[r]? =some (.map es clock)→es.size=ks.length→vs.length=ks.length→ks.Nodup→
  (∀j k cs,ks[j]? =some k→vs[j]? =some cs→∃e:MapEntry,es[j]? =some e∧e.key=k∧QQ agg cs.length e.val (p j))→
  (∀j cs i x,vs[j]? =some cs→cs[i]? =some x→cR w ro x (p j i))→cR w ro (.mp agg ks vs) (.map (some r))
 |li (i:bL) (l:List (fO i)) (c:Value):cR w ro (.aO (bZ i) (l.map (cb i))) c→cR w ro (.li i l) c
 |et (t:TypeId) (agg:Bool) (cs:List a6) (v:Value) (p:Nat→Value):QQ agg cs.length v p→(∀i x,cs[i]? =some x→cR w ro x (p i))→cR w ro (.et t agg cs) (.iface t v)
theorem cR.one{w:World}{ro:Nat→Prop}{x:a6}{c:Value}(h:cR w ro x c):c.oneCell'=true:=by
 induction h with
 |v x hx=>exact hx
 |ptr=>rfl
 |aO=>rfl
 |mp=>rfl
 |li i l c h aY=>exact aY
 |et=>rfl
theorem cR.keep{w w':World}{ro ro':Nat→Prop}{x:a6}{c:Value}(h:cR w ro x c)
 (hw: ∀b,ro b→w'.heap[b]? =w.heap[b]?)(cc: ∀b,ro b→ro' b):cR w' ro' x c:=by
 induction h with
 |v x hx=>exact .v x hx
 |ptr cs a c aa _ aY=>
  exact .ptr cs a c (fun j x af=>⟨cc _ (aa j x af).1,by
   rw[World.cell?_of_block (w:=w) (by rw[qi];exact hw _ (aa j x af).1)];exact(aa j x af).2⟩) aY
 |aO n es b cap c aa ae au aQ _ aY=>
  refine .aO n es b cap c aa ae au (fun ak=>?_) aY
  obtain⟨a,ad,hc⟩:=aQ ak
  exact⟨a,ad,fun j af=>⟨cc _ (hc j af).1,by
   rw[World.cell?_of_block (w:=w) (by rw[qi];exact hw _ (hc j af).1)];exact(hc j af).2⟩⟩
 |mp agg ks vs r es clock p aa ae au aQ bF cG _ aY=>exact .mp agg ks vs r es clock p (cc _ aa) ((hw _ aa).trans ae) au aQ bF cG aY
 |li i l c _ aY=>exact .li i l c aY
 |et t agg cs v p aa _ aY=>exact .et t agg cs v p aa aY
def b3:Value→Option Nat
 | .pointer (some a)=>some a.block
 | .slice (some a) _ cap=>if cap=0 then none else some a.block
 | .map (some r)=>some r
 |_=>none
structure wR where
 holds:(a6→Value→Prop)→Value→Obj→Prop
 mono: ∀(R rq:a6→Value→Prop) v o,(∀x c,R x c→rq x c)→holds R v o→holds rq v o
 view:Option a6
 QR: ∀av,view=some av→∀(w:World) (ro ro':Nat→Prop) (v:Value) (o:Obj) (b:Nat),holds (cR w ro) v o→b3 v=some b→w.heap[b]? =some o→(∀x,ro x→ro' x)→ro' b→cR w ro' av v
inductive ek where
 |box (t:TypeId) (cs:List aD)
 |row (QS:Bool) (t:TypeId) (n:Nat) (es:List (List a6))
 |bM (bP:wR)
def ek.live:ek→Bool
 | .box _ _=>true
 | .row QS _ _ _=>!QS
 | .bM _=>true
abbrev Heap:=List (Nat × ek)
def aE:Heap→Nat→Option ek
 |[],_=>none
 |(k,o)::r,id=>if k=id then some o else aE r id
def eN:Heap→Nat→ek→Heap
 |[],id,o=>[(id,o)]
 |(k,x)::r,id,o=>if k=id then(k,o)::r else(k,x)::eN r id o
def gk:Heap→Nat→Heap
 |[],_=>[]
 |(k,x)::r,id=>if k=id then gk r id else(k,x)::gk r id
theorem wS(h:Heap)(id:Nat)(o:ek)(k:Nat):aE (eN h id o) k=if id=k then some o else aE h k:=by
 induction h with
 |nil=>simp[eN,aE]
 |cons p r aY=>
  obtain⟨j,x⟩:=p
  by_cases af:j=id
  ·subst af
   by_cases aj:j=k<;>simp[eN,aE,aj]
  ·by_cases aj:j=k
   ·subst aj
    simp[eN,aE,af,Ne.symm af]
   ·simp[eN,aE,af,aj,aY]
theorem zD(h:Heap)(id k:Nat):aE (gk h id) k=if id=k then none else aE h k:=by
 induction h with
 |nil=>simp[gk,aE]
 |cons p r aY=>
  obtain⟨j,x⟩:=p
  by_cases af:j=id
  ·subst af
   by_cases aj:j=k
   ·subst aj;simp[gk,aY]
   ·simp[gk,aE,aj,aY]
  ·by_cases aj:j=k
   ·subst aj
    simp[gk,aE,af,Ne.symm af]
   ·simp[gk,aE,af,aj,aY]
def ib(w:World)(t:TypeId)(n:Nat)(v:Value)(len:Nat)(xs:List Value):Prop:=
 xs.length=len*n∧(((∃b,v= .slice b 0 0∧∀a,b=some a→a.block<w.heap.size)∧len=0)∨
  ∃g cap cur,v= .slice (some ⟨g,0,none⟩) len cap∧0<cap∧w.heap[g]? =some (.cells cur t (0,0))∧len≤cap∧cap≤maxLen∧cur.size=cap*n∧cur.toList.take (len*n)=xs)
inductive bs (w:World) (ro:Nat→Prop) (σ:Heap) (β:Nat→Value) (N:Nat):aD→Value→Prop where
 |av (x:a6) (c:Value):cR w ro x c→bs w ro σ β N (.av x) c
 |agg (cs:List aD) (c:Array Value):c.size=cs.length→(∀j x,cs[j]? =some x→bs w ro σ β N x (c.getD j undef))→bs w ro σ β N (.agg cs) (.agg c)
 |tuple (cs:List aD) (c:Array Value):c.size=cs.length→(∀j x,cs[j]? =some x→bs w ro σ β N x (c.getD j undef))→bs w ro σ β N (.tuple cs) (.tuple c)
 |ptr (id off:Nat) (c:Value):id<N→(∀t cs,aE σ id=some (.box t cs)→∃b,β id= .pointer (some ⟨b,0,none⟩)∧c= .pointer (some ⟨b,off,none⟩))→bs w ro σ β N (.ptr id off) c
 |dA (id n:Nat) (c:Value):id<N→(∀t cs,aE σ id=some (.box t cs)→∃b,β id= .pointer (some ⟨b,0,none⟩)∧c= .slice (some ⟨b,0,none⟩) n n)→bs w ro σ β N (.dA id n) c
 |cW (id i off:Nat) (c:Value):id<N→(∀z t n es,aE σ id=some (.row z t n es)→∃b l h1,β id= .slice (some ⟨b,0,none⟩) l h1∧c= .pointer (some ⟨b,i*n+off,none⟩))→bs w ro σ β N (.cW id i off) c
 |aO (id:Nat) (c:Value):id<N→(∀z t n es,aE σ id=some (.row z t n es)→c=β id)→bs w ro σ β N (.aO id) c
 |fn (f:Fn) (p q:List aD) (c d:Array Value):c.size=p.length→d.size=q.length→(∀j x,p[j]? =some x→bs w ro σ β N x (c.getD j undef))→
  (∀j x,q[j]? =some x→bs w ro σ β N x (d.getD j undef))→bs w ro σ β N (.fn f p q) (.func f c d)
 |ref (id:Nat) (c:Value):id<N→(∀bP,aE σ id=some (.bM bP)→c=β id)→bs w ro σ β N (.ref id) c
 |top (c:Value):bs w ro σ β N .top c
inductive k9 (w:World) (ro:Nat→Prop) (σ:Heap) (β:Nat→Value) (N:Nat) (id:Nat):ek→Prop where
 |box (t:TypeId) (cs:List aD) (b:Nat) (arr:Array Value):β id= .pointer (some ⟨b,0,none⟩)→w.heap[b]? =some (.cells arr t (0,0))→arr.size=cs.length→
  (∀j x,cs[j]? =some x→bs w ro σ β N x (arr.getD j undef))→k9 w ro σ β N id (.box t cs)
 |row (t:TypeId) (n:Nat) (es:List (List a6)) (xs:List Value):ib w t n (β id) es.length xs→(∀e∈es,e.length=n)→
  (∀j x,es.flatten[j]? =some x→cR w ro x (xs.getD j undef))→k9 w ro σ β N id (.row false t n es)
 |gb (t:TypeId) (n:Nat) (es:List (List a6)):cR w ro (.aO n es) (β id)→k9 w ro σ β N id (.row true t n es)
 |bM (bP:wR) (b:Nat) (o:Obj):b3 (β id)=some b→w.heap[b]? =some o→bP.holds (cR w ro) (β id) o→k9 w ro σ β N id (.bM bP)
theorem ib.hL{w:World}{t:TypeId}{n:Nat}{v:Value}{len:Nat}{xs:List Value}(h:ib w t n v len xs){b:Nat}(ad:b3 v=some b):
 b<w.heap.size∧∃cap cur,v= .slice (some ⟨b,0,none⟩) len cap∧w.heap[b]? =some (.cells cur t (0,0)):=by
 rcases h.2 with⟨⟨c,rfl,_⟩,_⟩|⟨g,cap,cur,rfl,hc,ah,_⟩
 ·cases c<;>simp[b3]at ad
 ·have:cap≠0:=by omega
  simp[b3,this]at ad;subst ad;exact⟨(Array.getElem?_eq_some_iff.1 ah).1,cap,cur,rfl,ah⟩
theorem ib.keep{w w':World}{t:TypeId}{n:Nat}{v:Value}{len:Nat}{xs:List Value}(h:ib w t n v len xs)(hw: ∀b,b3 v=some b→w'.heap[b]? =w.heap[b]?)(bN:w.heap.size≤w'.heap.size):ib w' t n v len xs:=by
 refine⟨h.1,?_⟩
 rcases h.2 with⟨⟨b,aw,ad⟩,aq⟩|⟨g,cap,cur,aw,hc,ah,rest⟩
 ·exact .inl ⟨⟨b,aw,fun a a1=>Nat.lt_of_lt_of_le (ad a a1) bN⟩,aq⟩
 ·have:cap≠0:=by omega
  exact .inr ⟨g,cap,cur,aw,hc,(hw g (by rw[aw];simp[b3,this])).trans ah,rest⟩
theorem k9.hL{w:World}{ro:Nat→Prop}{σ:Heap}{β:Nat→Value}{N id:Nat}{o:ek}(h:k9 w ro σ β N id o)(aq:o.live=true){b:Nat}(ad:b3 (β id)=some b):b<w.heap.size:=by
 cases h with
 |box t cs b' arr aa ae=>rw[aa]at ad;simp[b3]at ad;subst ad;exact(Array.getElem?_eq_some_iff.1 ae).1
 |row t n es xs aa=>exact(aa.hL ad).1
 |gb=>simp[ek.live]at aq
 |bM bP b' o aa ae=>rw[aa]at ad;simp only[Option.some.injEq]at ad;subst ad;exact(Array.getElem?_eq_some_iff.1 ae).1
def Own(σ:Heap)(β:Nat→Value)(b:Nat):Prop:=∃id o,aE σ id=some o∧o.live=true∧b3 (β id)=some b
structure hj (w:World) (ro:Nat→Prop) (σ:Heap) (β:Nat→Value) (N:Nat):Prop where
 c6: ∀id o,aE σ id=some o→k9 w ro σ β N id o
 inj: ∀id gl o cA b,aE σ id=some o→aE σ gl=some cA→o.live=true→cA.live=true→b3 (β id)=some b→b3 (β gl)=some b→id=gl
 fh: ∀b,ro b→¬Own σ β b
 lt: ∀b,ro b→b<w.heap.size
abbrev a8:=Nat→Option (List a6)
def sq(w:World)(ro:Nat→Prop)(G:a8):Prop:=∀g cs,G g=some cs→cR w ro (.ptr cs) (.pointer (some ⟨g,0,none⟩))∧ro g∧∃arr t tV,w.heap[g]? =some (.cells arr t tV)∧arr.size=cs.length
structure Entry where
 w:World
 ro:Nat→Prop
 σ:Heap
 β:Nat→Value
 n:Nat
structure Trans (E:Entry) (w:World) (ro:Nat→Prop) (σ:Heap) (β:Nat→Value) (n:Nat):Prop where
 os:w.os=E.w.os
 tape:w.tape=E.w.tape
 output:w.output=E.w.output
 size:E.w.heap.size≤w.heap.size
 frame: ∀b,b<E.w.heap.size→¬Own E.σ E.β b→w.heap[b]? =E.w.heap[b]?
 jl: ∀b,ro b→E.ro b∨Own E.σ E.β b∨E.w.heap.size≤b
 j2: ∀b,E.ro b→ro b
 hk: ∀b,Own σ β b→Own E.σ E.β b∨E.w.heap.size≤b
 dL: ∀id,id<E.n→∀o,aE σ id=some o→aE E.σ id≠none∧β id=E.β id
 new: ∀id o,aE σ id=some o→id<n
 le:E.n≤n
structure aP where
 cS:List aD
 heap:Heap
 next:Nat
 base:Nat
structure c3 (E:Entry) (G:a8) (s:aP) (a:Act) (w:World) (β:Nat→Value) (ro:Nat→Prop):Prop where
 defers:a.defers=[]
 size:a.tmps.size=s.cS.length
 slot: ∀i x,s.cS[i]? =some x→bs w ro s.heap β s.next x (a.tmps.getD i undef)
 heap:hj w ro s.heap β s.next
 ic:sq w ro G
 trans:Trans E w ro s.heap β s.next
 base:E.n≤s.base
def Rel(E:Entry)(G:a8)(s:aP)(a:Act)(w:World):Prop:=∃β ro,c3 E G s a w β ro
theorem bs.keep{w w':World}{ro ro':Nat→Prop}{σ eV:Heap}{β dM:Nat→Value}{N oW:Nat}{x:aD}{c:Value}(h:bs w ro σ β N x c)
 (hw: ∀b,ro b→w'.heap[b]? =w.heap[b]?)(cc: ∀b,ro b→ro' b)(gU:N≤oW)
 (nQ: ∀id t cs,aE eV id=some (.box t cs)→dM id=β id∧∃t cs,aE σ id=some (.box t cs))
 (cZ: ∀id z t n es,aE eV id=some (.row z t n es)→dM id=β id∧∃z t es,aE σ id=some (.row z t n es))
 (nR: ∀id bP,aE eV id=some (.bM bP)→dM id=β id∧∃bP,aE σ id=some (.bM bP)):bs w' ro' eV dM oW x c:=by
 induction h with
 |av x c hx=>exact .av x c (hx.keep hw cc)
 |agg cs c ai _ aY=>exact .agg cs c ai aY
 |tuple cs c ai _ aY=>exact .tuple cs c ai aY
 |ptr id off c aq ak=>
  refine .ptr id off c (by omega) fun t cs ah=>?_
  obtain⟨ad,bD,cs',dW⟩:=nQ id t cs ah;obtain⟨b,aa,ae⟩:=ak bD cs' dW;exact⟨b,ad.trans aa,ae⟩
 |dA id off c aq ak=>
  refine .dA id off c (by omega) fun t cs ah=>?_
  obtain⟨ad,bD,cs',dW⟩:=nQ id t cs ah;obtain⟨b,aa,ae⟩:=ak bD cs' dW;exact⟨b,ad.trans aa,ae⟩
 |cW id i off c aq ak=>
  refine .cW id i off c (by omega) fun z t n es ah=>?_
  obtain⟨ad,iw,bD,dQ,dW⟩:=cZ id z t n es ah;obtain⟨b,l,h1,aa,ae⟩:=ak iw bD n dQ dW;exact⟨b,l,h1,ad.trans aa,ae⟩
 |aO id c aq ak=>
  refine .aO id c (by omega) fun z t n es ah=>?_
  obtain⟨ad,iw,bD,dQ,dW⟩:=cZ id z t n es ah;rw[ad];exact ak iw bD n dQ dW
 |fn f p q c d aa ae _ _ hl ho=>exact .fn f p q c d aa ae hl ho
 |ref id c aq ak=>
  refine .ref id c (by omega) fun bP ah=>?_
  obtain⟨ad,lI,dW⟩:=nR id bP ah;rw[ad];exact ak lI dW
 |top c=>exact .top c
theorem sq.keep{w w':World}{ro ro':Nat→Prop}{G:a8}(h:sq w ro G)
 (hw: ∀b,ro b→w'.heap[b]? =w.heap[b]?)(cc: ∀b,ro b→ro' b):sq w' ro' G:=fun g cs ah=>by
 obtain⟨aa,ae,arr,t,tV,au,aQ⟩:=h g cs ah
 exact⟨aa.keep hw cc,cc g ae,arr,t,tV,(hw g ae).trans au,aQ⟩
def aP.put(s:aP)(dst:Option Nat)(v:aD):aP:=
 match dst with
 |some d=>{s with cS:=s.cS.set d v}
 |none=>s
theorem c3.put{E:Entry}{G:a8}{s:aP}{a:Act}{w:World}{β:Nat→Value}{ro:Nat→Prop}(h:c3 E G s a w β ro)(dst:Option Nat)(v:aD)(c:Value)
 (aw:bs w ro s.heap β s.next v c):c3 E G (s.put dst v) (a.put dst c) w β ro:=by
 cases dst with
 |none=>exact h
 |some d=>
  refine⟨h.defers,by simpa[Act.put,aP.put]using h.size,fun i x hx=>?_,h.heap,h.ic,h.trans,h.base⟩
  simp only[aP.put,Act.put]at hx⊢;rw[List.getElem?_set]at hx
  have bN:=h.size
  by_cases JZ:d=i
  ·subst JZ
   simp only[if_true]at hx
   split at hx
   ·rename_i bH
    simp only[Option.some.injEq]at hx;subst hx
    have:d<a.tmps.size:=by omega
    simpa[this]using aw
   ·cases hx
  ·simp only[JZ,if_false]at hx
   have:=h.slot i x hx
   simpa[Array.getElem?_setIfInBounds_ne JZ]using this
end Go.aL
namespace Go.aL
open Go
def aJ(G:a8)(s:aP):Operand→aD
 | .tmp t=>s.cS.getD t .top
 | .const v=>if v.oneCell' then .av (.v v)else .top
 | .global g=>match G g with
  |some cs=>.av (.ptr cs)
  |none=>.top
 | .func f=>.fn (.func f) [] []
theorem c3.eval{E:Entry}{G:a8}{s:aP}{a:Act}{w:World}{β:Nat→Value}{ro:Nat→Prop}(h:c3 E G s a w β ro)(x:Operand):
 bs w ro s.heap β s.next (aJ G s x) (a.eval x):=by
 cases x with
 |tmp t=>
  simp only[aJ,Act.eval]
  cases aH:s.cS[t]? with
  |none=>simp only[List.getD,aH];exact .top _
  |some v=>simp only[List.getD,aH];exact h.slot t v aH
 |const v=>
  simp only[aJ,Act.eval]
  split
  ·exact .av _ _ (.v _ (by assumption))
  ·exact .top _
 |global g=>
  simp only[aJ,Act.eval]
  split
  ·exact .av _ _ (h.ic g _ (by assumption)).1
  ·exact .top _
 |func f=>exact .fn _ _ _ _ _ rfl rfl (by simp) (by simp)
def dR(P:Program)(G:a8)(o:Oper)(s bp:aP):Prop:=
 ∀E a w,Rel E G s a w→∀(K:Act→World→Prop) (Q:Exit→Act→World→Prop),(∀bc w',Rel E G bp bc w'→K bc w')→o.wp P a w K Q
def gd(w w':World):Prop:=∀b,b<w.heap.size→w'.heap[b]? =w.heap[b]?
def mg(P:Program)(G:a8)(o:Oper)(s bp:aP):Prop:=
 ∀E a w,Rel E G s a w→∀(K:Act→World→Prop) (Q:Exit→Act→World→Prop),(∀bc w',Rel E G bp bc w'→gd w w'→K bc w')→o.wp P a w K Q
theorem mg.op{P:Program}{G:a8}{o:Oper}{s bp:aP}(h:mg P G o s bp):dR P G o s bp:=fun E a w ag K Q hK=>h E a w ag K Q fun bc w' dX _=>hK bc w' dX
section
variable {P:Program} {G:a8} {o:Oper} {s:aP}
theorem dR.value{v:aD}(h: ∀E a w β ro,c3 E G s a w β ro→∃c,(execOp a.eval o).run P w= .ok (.value c) w∧bs w ro s.heap β s.next v c):
 dR P G o s (s.put o.dst v):=by
 intro E a w ⟨β,ro,ag⟩ K Q hK
 obtain⟨c,cr,aw⟩:=h E a w β ro ag
 unfold Oper.wp
 rw[cr]
 exact hK _ _ ⟨β,ro,ag.put o.dst v c aw⟩
abbrev cQ(P:Program)(G:a8)(o:Oper)(s:aP)(v:aD):Prop:=
 ∀E a w β ro,c3 E G s a w β ro→∃c,(execOp a.eval o).run P w= .ok (.value c) w∧bs w ro s.heap β s.next v c
theorem cQ.step{v:aD}(h:cQ P G o s v):dR P G o s (s.put o.dst v):=.value h
theorem cQ.QT{v:aD}(h:cQ P G o s v):mg P G o s (s.put o.dst v):=by
 intro E a w ⟨β,ro,ag⟩ K Q hK
 obtain⟨c,cr,aw⟩:=h E a w β ro ag
 unfold Oper.wp
 rw[cr]
 exact hK _ _ ⟨β,ro,ag.put o.dst v c aw⟩ fun _ _=>rfl
theorem QU(x:Operand)(an:o.op= .move x):cQ P G o s (aJ G s x):=
 fun _ a w _ _ ag=>⟨a.eval x,by simp[execOp,an],ag.eval x⟩
theorem QV(x:Operand)(an:o.op= .assign x):cQ P G o s (aJ G s x):=
 fun _ a w _ _ ag=>⟨a.eval x,by simp[execOp,an],ag.eval x⟩
def fp(σ:Heap):aD→Option (List aD)
 | .av (.ptr cs)=>some (cs.map .av)
 | .ptr id off=>match aE σ id with
  |some (.box _ cs)=>some (cs.drop off)
  |_=>none
 | .cW id i off=>match aE σ id with
  |some (.row false _ _ es)=>match es[i]? with
   |some e=>some ((e.drop off).map .av)
   |none=>none
  |_=>none
 |_=>none
theorem rr{α:Type}{n:Nat}: ∀{es:List (List α)},(∀e∈es,e.length=n)→∀{i:Nat} {e:List α},es[i]? =some e→∀j,j<n→es.flatten[i*n+j]? =e[j]?
 |[],_,i,e,h,_,_=>by simp at h
 |x::r,hn,i,e,h,j,af=>by
  have hx:x.length=n:=hn x (by simp)
  cases i with
  |zero=>
   simp at h;subst h;simp only[List.flatten_cons,Nat.zero_mul,Nat.zero_add];rw[List.getElem?_append_left (by omega)]
  |succ i=>
   simp at h
   have aY:=rr (es:=r) (fun e he=>hn e (by simp[he])) h j af
   simp only[List.flatten_cons];rw[List.getElem?_append_right (by rw[Nat.succ_mul];omega),←aY]
   congr 1
   rw[Nat.succ_mul];omega
theorem j3{α:Type}{n:Nat}: ∀{es:List (List α)},(∀e∈es,e.length=n)→es.flatten.length=es.length*n
 |[],_=>by simp
 |x::r,hn=>by
  simp only[List.flatten_cons,List.length_append,List.length_cons,Nat.succ_mul];rw[j3 (es:=r) (fun e he=>hn e (by simp[he])),hn x (by simp)]
  omega
theorem bs.one{w:World}{ro:Nat→Prop}{σ:Heap}{β:Nat→Value}{N:Nat}{x:a6}{c:Value}(h:bs w ro σ β N (.av x) c):c.oneCell'=true:=by
 cases h with
 |av _ _ h=>exact h.one
theorem wT{w:World}{ro:Nat→Prop}{σ:Heap}{β:Nat→Value}{N:Nat}(bb:hj w ro σ β N){p:aD}{c:Value}{cs:List aD}(ak:fp σ p=some cs)(hc:bs w ro σ β N p c)
 (b4:cs≠[]): ∃a,c= .pointer (some a)∧∃f:Nat→Value,∀j x,cs[j]? =some x→w.cell? (a.add j)=some (f j)∧bs w ro σ β N x (f j):=by
 cases hc with
 |av x c hx=>
  cases hx with
  |v x=>simp[fp]at ak
  |ptr cs' a f aa ae=>
   simp only[fp,Option.some.injEq]at ak;subst ak;refine⟨a,rfl,f,fun j x af=>?_⟩
   rw[List.getElem?_map]at af
   cases oX:cs'[j]? with
   |none=>simp[oX]at af
   |some y=>
    simp[oX]at af;subst af;exact⟨(aa j y oX).2,.av _ _ (ae j y oX)⟩
  |aO=>simp[fp]at ak
  |mp=>simp[fp]at ak
  |et=>simp[fp]at ak
  |li=>simp[fp]at ak
 |ptr id off c bH sS=>
  simp only[fp]at ak
  cases an:aE σ id with
  |none=>simp[an]at ak
  |some ie=>
   cases ie with
   |row=>simp[an]at ak
   |bM=>simp[an]at ak
   |box t cs'=>
    simp only[an,Option.some.injEq]at ak;subst ak;obtain⟨b,ad,rfl⟩:=sS t cs' an
    have dh:=bb.c6 id _ an
    cases dh with
    |box _ _ b' arr gz ah bN eW=>
     rw[ad]at gz;simp only[Value.pointer.injEq,Option.some.injEq,Addr.mk.injEq,and_true]at gz;subst gz;refine⟨_,rfl,fun j=>arr.getD (off+j) undef,fun j x af=>?_⟩
     rw[List.getElem?_drop]at af
     have bH:off+j<cs'.length:=by
      rcases Nat.lt_or_ge (off+j) cs'.length with h|h
      ·exact h
      ·rw[List.getElem?_eq_none h]at af;cases af
     refine⟨?_,eW _ _ af⟩
     rw[addLit,cell_of_row w b (off+j) arr t (0,0) ah]
     have:off+j<arr.size:=by omega
     simp[this]
 |cW id i off c bH sS=>
  simp only[fp]at ak
  cases an:aE σ id with
  |none=>simp[an]at ak
  |some ie=>
   cases ie with
   |box=>simp[an]at ak
   |bM=>simp[an]at ak
   |row z t n es=>
    cases z with
    |true=>simp[an]at ak
    |false=>
     simp only[an]at ak
     cases m0:es[i]? with
     |none=>simp[m0]at ak
     |some e=>
      simp only[m0,Option.some.injEq]at ak;subst ak;obtain⟨b,l,h1,ad,rfl⟩:=sS false t n es an
      have dh:=bb.c6 id _ an
      cases dh with
      |row _ _ _ xs hB hn eW=>
       rw[ad]at hB;obtain⟨Di,mP⟩:=hB
       rcases mP with⟨⟨_,h,_⟩,aS⟩|⟨g,cap,cur,aw,_,ah,hle,ig,dJ,lJ⟩
       ·have:=(List.getElem?_eq_some_iff.1 m0).1;omega
       ·simp only[Value.slice.injEq,Option.some.injEq,Addr.mk.injEq,and_true]at aw
        obtain⟨rfl,_,_⟩:=aw;refine⟨_,rfl,fun j=>xs.getD (i*n+(off+j)) undef,fun j x af=>?_⟩
        rw[List.getElem?_map]at af
        cases oX:(e.drop off)[j]? with
        |none=>simp[oX]at af
        |some y=>
         simp[oX]at af;subst af;rw[List.getElem?_drop]at oX
         have nS:e.length=n:=hn e (List.mem_of_getElem? m0)
         have mU:off+j<n:=by
          rcases Nat.lt_or_ge (off+j) e.length with h|h
          ·omega
          ·rw[List.getElem?_eq_none h]at oX;cases oX
         have mh:es.flatten[i*n+(off+j)]? =some y:=by rw[rr hn m0 _ mU];exact oX
         refine⟨?_,.av _ _ (eW _ _ mh)⟩
         have jL:i*n+(off+j)<xs.length:=by
          have aa:i*n+(off+j)<es.flatten.length:=by
           rcases Nat.lt_or_ge (i*n+(off+j)) es.flatten.length with h|h
           ·exact h
           ·rw[List.getElem?_eq_none h]at mh;cases mh
          rw[j3 hn]at aa
          have ae:=Di
          omega
         rw[addLit,Nat.add_assoc,cell_of_row w b _ cur t (0,0) ah]
         have hx:xs[i*n+(off+j)]? =cur[i*n+(off+j)]? :=by
          rw[←lJ,List.getElem?_take]
          have ae:=Di
          rw[if_pos (by omega)]
          simp
         rw[←hx];simp[List.getD,List.getElem?_eq_getElem jL]
 |agg=>simp[fp]at ak
 |tuple=>simp[fp]at ak
 |aO=>simp[fp]at ak
 |fn=>simp[fp]at ak
 |ref=>simp[fp]at ak
 |dA=>simp[fp]at ak
 |top=>simp[fp]at ak
def mi(P:Program)(t:TypeId):Option Nat:=
 match P.underlying t with
 |some (.struct _)|some (.array _ _)=>(P.info? t).map (·.size)
 |_=>none
def scalar(P:Program)(t:TypeId):Bool:=
 match P.underlying t with
 |some (.struct _)|some (.array _ _)|none=>false
 |_=>true
theorem Dj{t:TypeId}{n:Nat}(h:mi P t=some n)(w:World):(isAgg t).run P w= .ok true w∧(sizeOf t).run P w= .ok n w:=by
 unfold mi at h
 cases hu:P.underlying t with
 |none=>simp[hu]at h
 |some d=>
  cases hi:P.info? t with
  |none=>cases d<;>simp[hu,hi]at h
  |some i=>
   cases d<;>simp[hu,hi]at h
   all_goals
    subst h;exact⟨by simp[isAgg,run_underlying hu],by simp[sizeOf,typeInfo,hi]⟩
theorem zE{t:TypeId}(h:scalar P t=true)(w:World):(isAgg t).run P w= .ok false w:=by
 unfold scalar at h
 cases hu:P.underlying t with
 |none=>simp[hu]at h
 |some d=>cases d<;>simp[hu]at h<;>simp[isAgg,run_underlying hu]
theorem QW(t:TypeId)(x:Operand)(an:o.op= .load t x){n:Nat}(aH:mi P t=some n){cs:List aD}(ak:fp s.heap (aJ G s x)=some cs)(hn:n≤cs.length)(aM:0<n):
 cQ P G o s (.agg (cs.take n)):=
 fun _ a w β ro ag=>by
  obtain⟨cX,hc,f,hf⟩:=wT ag.heap ak (ag.eval x) (by intro h;subst h;simp at hn;omega)
  obtain⟨aa,ae⟩:=Dj aH w
  have aq:=run_loadCells (P:=P) w cX n f (fun j af=>(hf j (cs[j]'(by omega)) (by simp)).1)
  refine⟨.agg ((List.range n).map f).toArray,?_,.agg _ _ (by simp;omega) fun j y af=>?_⟩
  ·simp[execOp,an,hc,Instr.loadAt,Instr.sureAddr,loadVar,aa,ae,aq]
  ·rw[List.getElem?_take]at af
   split at af
   ·have:=(hf j y af).2
    rename_i mU;simpa[mU]using this
   ·cases af
theorem J0(t:TypeId)(x:Operand)(an:o.op= .load t x)(aH:scalar P t=true){y:aD}{cs:List aD}(ak:fp s.heap (aJ G s x)=some (y::cs)):
 cQ P G o s y:=
 fun _ a w β ro ag=>by
  obtain⟨cX,hc,f,hf⟩:=wT ag.heap ak (ag.eval x) (by simp)
  have aa:=zE aH w
  obtain⟨la,dB⟩:=hf 0 y rfl;rw[show cX.add 0=cX from by simp[Addr.add]]at la
  exact⟨f 0,by simp[execOp,an,hc,Instr.loadAt,Instr.sureAddr,loadVar,aa,run_load,la],dB⟩
def sT(P:Program)(t:TypeId)(f:Nat):Option Nat:=
 match P.underlying t with
 |some (.struct fs)=>match fs[f]? with
  |some fd=>match P.info? fd.type with
   |some i=>if i.size=0 then none else some fd.offset
   |none=>none
  |none=>none
 |_=>none
def iP(k:Nat):aD→Option aD
 | .av (.ptr cs)=>some (.av (.ptr (cs.drop k)))
 | .ptr id off=>some (.ptr id (off+k))
 | .cW id i off=>some (.cW id i (off+k))
 |_=>none
theorem QX{w:World}{ro:Nat→Prop}{σ:Heap}{β:Nat→Value}{N:Nat}{p q:aD}{c:Value}{cs:List aD}{k:Nat}(ai:iP k p=some q)(ak:fp σ p=some cs)(hc:bs w ro σ β N p c):
 ∃a,c= .pointer (some a)∧bs w ro σ β N q (.pointer (some (a.add k))):=by
 cases hc with
 |av x c hx=>
  cases hx with
  |v x=>simp[iP]at ai
  |ptr cs' a f aa ae=>
   simp only[iP,Option.some.injEq]at ai;subst ai;refine⟨a,rfl,.av _ _ (.ptr _ _ (fun j=>f (k+j)) (fun j x af=>?_) (fun j x af=>?_))⟩
   ·rw[List.getElem?_drop]at af
    rw[qi,zC];exact aa _ _ af
   ·rw[List.getElem?_drop]at af
    exact ae _ _ af
  |aO=>simp[iP]at ai
  |mp=>simp[iP]at ai
  |et=>simp[iP]at ai
  |li=>simp[iP]at ai
 |ptr id off c bH sS=>
  simp only[iP,Option.some.injEq]at ai;subst ai;simp only[fp]at ak
  split at ak
  ·rename_i t cs' an
   obtain⟨b,ad,rfl⟩:=sS t cs' an;refine⟨_,rfl,.ptr _ _ _ bH fun bD zjJ lC=>⟨b,ad,by rw[addLit]⟩⟩
  ·cases ak
 |cW id i off c bH sS=>
  simp only[iP,Option.some.injEq]at ai;subst ai;simp only[fp]at ak
  split at ak
  ·rename_i t n es an
   obtain⟨b,l,h1,ad,rfl⟩:=sS false t n es an;refine⟨_,rfl,.cW _ _ _ _ bH fun iw bD cJ dQ lC=>⟨b,l,h1,ad,?_⟩⟩
   rw[an]at lC;simp only[Option.some.injEq,ek.row.injEq]at lC;obtain⟨_,_,rfl,_⟩:=lC;rw[addLit,Nat.add_assoc]
  ·cases ak
 |agg=>simp[iP]at ai
 |tuple=>simp[iP]at ai
 |aO=>simp[iP]at ai
 |fn=>simp[iP]at ai
 |ref=>simp[iP]at ai
 |dA=>simp[iP]at ai
 |top=>simp[iP]at ai
theorem QY{t f k:Nat}(h:sT P t f=some k)(a:Addr)(w:World):(Instr.fieldAt t (.pointer (some a)) f).run P w= .ok (.pointer (some (a.add k))) w:=by
 unfold sT at h
 split at h
 ·rename_i fs hu
  split at h
  ·rename_i fd hf
   split at h
   ·rename_i i hi
    split at h
    ·cases h
    ·rename_i aS
     simp only[Option.some.injEq]at h;subst h;simp[Instr.fieldAt,run_underlying hu,hf,Instr.sureAddr,fieldPlace,sizeOf,typeInfo,hi,aS]
   ·cases h
  ·cases h
 ·cases h
def jM(σ:Heap):aD→Bool
 | .av (.ptr _)=>true
 | .ptr id _=>match aE σ id with
  |some (.box _ _)=>true
  |_=>false
 | .cW id _ _=>match aE σ id with
  |some (.row _ _ _ _)=>true
  |_=>false
 |_=>false
def ru(k:Nat):aD→aD
 | .av (.ptr cs)=>.av (.ptr (cs.drop k))
 | .ptr id off=>.ptr id (off+k)
 | .cW id i off=>.cW id i (off+k)
 |x=>x
theorem zF{w:World}{ro:Nat→Prop}{σ:Heap}{β:Nat→Value}{N:Nat}{x:aD}{c:Value}(hx:jM σ x=true)(h:bs w ro σ β N x c): ∃a,c= .pointer (some a)∧∀k,bs w ro σ β N (ru k x) (.pointer (some (a.add k))):=by
 cases h with
 |av x c ag=>
  cases ag with
  |ptr cs a f aa ae=>
   refine⟨a,rfl,fun k=>.av _ _ (.ptr _ _ (fun j=>f (k+j)) (fun j x af=>?_) (fun j x af=>?_))⟩
   ·rw[List.getElem?_drop]at af
    rw[qi,zC];exact aa _ _ af
   ·rw[List.getElem?_drop]at af
    exact ae _ _ af
  |v=>simp[jM]at hx
  |aO=>simp[jM]at hx
  |mp=>simp[jM]at hx
  |et=>simp[jM]at hx
  |li=>simp[jM]at hx
 |ptr id off c aq ak=>
  simp only[jM]at hx
  split at hx
  ·rename_i t cs ah
   obtain⟨b,ad,rfl⟩:=ak t cs ah;refine⟨_,rfl,fun k=>.ptr id (off+k) _ aq fun bD cs' dW=>?_⟩
   obtain⟨b',gz,zG⟩:=ak bD cs' dW;rw[ad]at gz;simp only[Value.pointer.injEq,Option.some.injEq,Addr.mk.injEq,and_true]at gz;subst gz;exact⟨b,ad,by rw[addLit]⟩
  ·cases hx
 |cW id i off c aq ak=>
  simp only[jM]at hx
  split at hx
  ·rename_i z t n es ah
   obtain⟨b,l,h1,ad,rfl⟩:=ak z t n es ah;refine⟨_,rfl,fun k=>.cW id i (off+k) _ aq fun iw bD cJ dQ dW=>?_⟩
   rw[ah]at dW;simp only[Option.some.injEq,ek.row.injEq]at dW;obtain⟨_,_,rfl,_⟩:=dW;exact⟨b,l,h1,ad,by rw[addLit,Nat.add_assoc]⟩
  ·cases hx
 |_=>simp[jM]at hx
theorem QZ(t:TypeId)(x:Operand)(f:Nat)(an:o.op= .fieldAddr t x f){k:Nat}(aj:sT P t f=some k)(ak:jM s.heap (aJ G s x)=true):cQ P G o s (ru k (aJ G s x)):=
 fun _ a w β ro ag=>by
  obtain⟨cX,hc,dB⟩:=zF ak (ag.eval x);exact⟨_,by simp[execOp,an,hc,QY aj],dB k⟩
theorem Q0(x:Operand)(an:o.op= .nilCheck x)(ak:jM s.heap (aJ G s x)=true):cQ P G o s (aJ G s x):=
 fun _ a w β ro ag=>by
  obtain⟨cX,hc,_⟩:=zF ak (ag.eval x);exact⟨_,by simp[execOp,an,hc],hc ▸ ag.eval x⟩
end
end Go.aL
namespace Go.aL
open Go
def gW(β:Nat→Value)(id:Nat)(v:Value):Nat→Value:=fun k=>if k=id then v else β k
theorem dS(β:Nat→Value)(id:Nat)(v:Value):gW β id v id=v:=by simp[gW]
theorem c0(β:Nat→Value){id k:Nat}(v:Value)(h:k≠id):gW β id v k=β k:=by simp[gW,h]
section
variable {E:Entry} {G:a8} {s:aP} {a:Act} {w w':World} {β:Nat→Value} {ro:Nat→Prop}
theorem k9.keep{w w':World}{ro ro':Nat→Prop}{σ eV:Heap}{β dM:Nat→Value}{N oW:Nat}{id:Nat}{o:ek}(h:k9 w ro σ β N id o)
 (hw: ∀b,ro b→w'.heap[b]? =w.heap[b]?)(cc: ∀b,ro b→ro' b)(gU:N≤oW)(bN:w.heap.size≤w'.heap.size)(bd:dM id=β id)(gI:o.live=true→∀b,b3 (β id)=some b→w'.heap[b]? =w.heap[b]?)
 (nQ: ∀id t cs,aE eV id=some (.box t cs)→dM id=β id∧∃t cs,aE σ id=some (.box t cs))
 (cZ: ∀id z t n es,aE eV id=some (.row z t n es)→dM id=β id∧∃z t es,aE σ id=some (.row z t n es))
 (nR: ∀id bP,aE eV id=some (.bM bP)→dM id=β id∧∃bP,aE σ id=some (.bM bP)):k9 w' ro' eV dM oW id o:=by
 cases h with
 |box t cs b arr aa ae au aQ=>
  exact .box t cs b arr (bd.trans aa) ((gI rfl b (by rw[aa];rfl)).trans ae) au fun j x af=>(aQ j x af).keep hw cc gU nQ cZ nR
 |row t n es xs aa ae au=>
  exact .row t n es xs (by rw[bd];exact aa.keep (fun b ad=>gI rfl b ad) bN) ae fun j x af=>(au j x af).keep hw cc
 |gb t n es aa=>exact .gb t n es (by rw[bd];exact aa.keep hw cc)
 |bM bP b o aa ae au=>exact .bM bP b o (by rw[bd];exact aa) ((gI rfl b aa).trans ae) (by rw[bd];exact bP.mono _ _ _ _ (fun x c h=>h.keep hw cc) au)
theorem c3.new(h:c3 E G s a w β ro)(id:Nat)(bd:aE s.heap id=none)(ad:s.base≤id)(bH:s.next≤id)(o:ek)(val:Value)
 (oY:w'.os=w.os)(oZ:w'.tape=w.tape)(kF:w'.output=w.output)(bN:w.heap.size≤w'.heap.size)(hw: ∀b,b<w.heap.size→w'.heap[b]? =w.heap[b]?)
 (gI: ∀b,b3 val=some b→w.heap.size≤b)(_hlive:o.live=true)
 (dh:k9 w' ro ((id,o)::s.heap) (gW β id val) (id+1) id o):c3 E G {s with heap:=(id,o)::s.heap,next:=id+1} a w' (gW β id val) ro:=by
 have cc: ∀b,ro b→w'.heap[b]? =w.heap[b]? :=fun b ag=>hw b (h.heap.lt b ag)
 have ah: ∀k,k≠id→aE ((id,o)::s.heap) k=aE s.heap k:=fun k aj=>by simp[aE,Ne.symm aj]
 have uR:aE ((id,o)::s.heap) id=some o:=by simp[aE]
 have J1: ∀k p b,aE s.heap k=some p→p.live=true→b3 (β k)=some b→b<w.heap.size:=fun k p b aj ak bg=>(h.heap.c6 k p aj).hL ak bg
 have key: ∀x c,bs w ro s.heap β s.next x c→bs w' ro ((id,o)::s.heap) (gW β id val) (id+1) x c:=by
  intro x c hx
  induction hx with
  |av x c hx=>exact .av x c (hx.keep cc fun _ h=>h)
  |agg cs c ai _ aY=>exact .agg cs c ai aY
  |tuple cs c ai _ aY=>exact .tuple cs c ai aY
  |ptr k off c aq ak=>
   have aj:k≠id:=by omega
   exact .ptr k off c (by omega) fun t cs bn=>by rw[c0 _ _ aj];rw[ah k aj]at bn;exact ak t cs bn
  |dA k off c aq ak=>
   have aj:k≠id:=by omega
   exact .dA k off c (by omega) fun t cs bn=>by rw[c0 _ _ aj];rw[ah k aj]at bn;exact ak t cs bn
  |cW k i off c aq ak=>
   have aj:k≠id:=by omega
   exact .cW k i off c (by omega) fun z t n es bn=>by rw[c0 _ _ aj];rw[ah k aj]at bn;exact ak z t n es bn
  |aO k c aq ak=>
   have aj:k≠id:=by omega
   exact .aO k c (by omega) fun z t n es bn=>by rw[c0 _ _ aj];rw[ah k aj]at bn;exact ak z t n es bn
  |fn f p q c d aa ae _ _ hl ho=>exact .fn f p q c d aa ae hl ho
  |ref k c aq ak=>
   have aj:k≠id:=by omega
   exact .ref k c (by omega) fun bP bn=>by rw[c0 _ _ aj];rw[ah k aj]at bn;exact ak bP bn
  |top c=>exact .top c
 refine⟨h.defers,h.size,fun i x hx=>key _ _ (h.slot i x hx),⟨fun k p aj=>?_,fun k bk p fX b aj eB ak gJ bg eu=>?_,fun b ag=>?_,fun b ag=>Nat.lt_of_lt_of_le (h.heap.lt b ag) bN⟩,
  h.ic.keep cc fun _ h=>h,?_,h.base⟩
 ·by_cases bx:k=id
  ·subst bx
   rw[uR]at aj;simp only[Option.some.injEq]at aj;subst aj;exact dh
  ·rw[ah k bx]at aj
   have gK:=h.heap.c6 k p aj
   cases gK with
   |box t cs b arr aa ae au aQ=>
    have hM:=J1 k _ b aj rfl (by rw[aa];rfl)
    exact .box t cs b arr (by rw[c0 _ _ bx];exact aa) ((hw b hM).trans ae) au fun j x af=>key _ _ (aQ j x af)
   |row t n es xs aa ae au=>
    exact .row t n es xs (by rw[c0 _ _ bx];exact aa.keep (fun b ad=>hw b (aa.hL ad).1) bN) ae fun j x af=>(au j x af).keep cc fun _ h=>h
   |gb t n es aa=>exact .gb t n es (by rw[c0 _ _ bx];exact aa.keep cc fun _ h=>h)
   |bM bP b o aa ae au=>exact .bM bP b o (by rw[c0 _ _ bx];exact aa) ((hw b (Array.getElem?_eq_some_iff.1 ae).1).trans ae) (by rw[c0 _ _ bx];exact bP.mono _ _ _ _ (fun x c h=>h.keep cc fun _ h=>h) au)
 ·by_cases bx:k=id
  ·by_cases gL:bk=id
   ·rw[bx,gL]
   ·subst bx
    rw[dS]at bg;rw[c0 _ _ gL]at eu;rw[ah bk gL]at eB
    have aa:=gI b bg
    have ae:=J1 bk fX b eB gJ eu
    omega
  ·by_cases gL:bk=id
   ·subst gL
    rw[dS]at eu;rw[c0 _ _ bx]at bg;rw[ah k bx]at aj
    have aa:=gI b eu
    have ae:=J1 k p b aj ak bg
    omega
   ·rw[c0 _ _ bx]at bg
    rw[c0 _ _ gL]at eu;rw[ah k bx]at aj;rw[ah bk gL]at eB;exact h.heap.inj k bk p fX b aj eB ak gJ bg eu
 ·rintro⟨k,p,aj,ak,bg⟩
  by_cases bx:k=id
  ·subst bx
   rw[dS]at bg
   have aa:=gI b bg
   have ae:=h.heap.lt b ag
   omega
  ·rw[c0 _ _ bx]at bg
   rw[ah k bx]at aj;exact h.heap.fh b ag ⟨k,p,aj,ak,bg⟩
 ·have t:=h.trans
  refine⟨oY.trans t.os,oZ.trans t.tape,kF.trans t.output,Nat.le_trans t.size bN,fun b hM gf=>?_,t.jl,t.j2,?_,fun k aj p bn=>?_,fun k p bn=>?_,Nat.le_trans h.base (Nat.le_trans ad (Nat.le_succ _))⟩
  ·rw[hw b (Nat.lt_of_lt_of_le hM t.size)]
   exact t.frame b hM gf
  ·rintro b ⟨k,p,aj,ak,bg⟩
   by_cases bx:k=id
   ·subst bx
    rw[dS]at bg;exact .inr (Nat.le_trans t.size (gI b bg))
   ·rw[c0 _ _ bx]at bg
    rw[ah k bx]at aj;exact t.hk b ⟨k,p,aj,ak,bg⟩
  ·have bx:k≠id:=by have:=h.base;omega
   rw[ah k bx]at bn;rw[c0 _ _ bx];exact t.dL k aj p bn
  ·by_cases bx:k=id
   ·subst bx;exact Nat.lt_succ_self _
   ·rw[ah k bx]at bn
    have:=t.new k p bn
    show k<id+1;omega
theorem c3.write(h:c3 E G s a w β ro)(id:Nat)(o cA:ek)(bd:aE s.heap id=some o)(wU:o.live=true)(zjK:cA.live=true)
 (zH:(∃t cs cs',o= .box t cs∧cA= .box t cs')∨(∃t n es dQ,o= .row false t n es∧cA= .row false t n dQ)∨(∃bP lI,o= .bM bP∧cA= .bM lI))
 (oY:w'.os=w.os)(oZ:w'.tape=w.tape)(kF:w'.output=w.output)(bN:w.heap.size≤w'.heap.size)(hw: ∀b,b<w.heap.size→b3 (β id)≠some b→w'.heap[b]? =w.heap[b]?)
 (dh:k9 w' ro (eN s.heap id cA) β s.next id cA):c3 E G {s with heap:=eN s.heap id cA} a w' β ro:=by
 have cc: ∀b,ro b→w'.heap[b]? =w.heap[b]? :=fun b ag=>hw b (h.heap.lt b ag) fun ad=>h.heap.fh b ag ⟨id,o,bd,wU,ad⟩
 have ah:=wS s.heap id cA
 have own: ∀b,Own (eN s.heap id cA) β b→Own s.heap β b:=by
  rintro b ⟨k,p,aj,ak,bg⟩
  rw[ah k]at aj
  by_cases bx:id=k
  ·subst bx;exact⟨id,o,bd,wU,bg⟩
  ·rw[if_neg bx]at aj;exact⟨k,p,aj,ak,bg⟩
 have nT: ∀k p b,aE s.heap k=some p→p.live=true→b3 (β k)=some b→b<w.heap.size:=fun k p b aj ak bg=>(h.heap.c6 k p aj).hL ak bg
 have nQ: ∀k t cs,aE (eN s.heap id cA) k=some (.box t cs)→β k=β k∧∃t cs,aE s.heap k=some (.box t cs):=by
  intro k t cs aj;rw[ah k]at aj
  by_cases bx:id=k
  ·subst bx
   rw[if_pos rfl]at aj;simp only[Option.some.injEq]at aj
   rcases zH with⟨t1,aW,dq,rfl,rfl⟩|⟨t1,n,aB,bf,rfl,rfl⟩|⟨_,_,rfl,rfl⟩
   ·exact⟨rfl,t1,aW,bd⟩
   ·cases aj
   ·cases aj
  ·rw[if_neg bx]at aj;exact⟨rfl,t,cs,aj⟩
 have cZ: ∀k z t n es,aE (eN s.heap id cA) k=some (.row z t n es)→β k=β k∧∃z t es,aE s.heap k=some (.row z t n es):=by
  intro k z t n es aj;rw[ah k]at aj
  by_cases bx:id=k
  ·subst bx
   rw[if_pos rfl]at aj;simp only[Option.some.injEq]at aj
   rcases zH with⟨t1,aW,dq,rfl,rfl⟩|⟨t1,gV,aB,bf,rfl,rfl⟩|⟨_,_,rfl,rfl⟩
   ·cases aj
   ·simp only[ek.row.injEq]at aj
    obtain⟨_,_,rfl,_⟩:=aj;exact⟨rfl,_,_,_,bd⟩
   ·cases aj
  ·rw[if_neg bx]at aj;exact⟨rfl,z,t,es,aj⟩
 have nR: ∀k bP,aE (eN s.heap id cA) k=some (.bM bP)→β k=β k∧∃bP,aE s.heap k=some (.bM bP):=by
  intro k bP aj;rw[ah k]at aj
  by_cases bx:id=k
  ·subst bx
   rw[if_pos rfl]at aj;simp only[Option.some.injEq]at aj
   rcases zH with⟨t1,aW,dq,rfl,rfl⟩|⟨t1,gV,aB,bf,rfl,rfl⟩|⟨zc6,_,rfl,rfl⟩
   ·cases aj
   ·cases aj
   ·exact⟨rfl,zc6,bd⟩
  ·rw[if_neg bx]at aj;exact⟨rfl,bP,aj⟩
 refine⟨h.defers,h.size,fun i x hx=>(h.slot i x hx).keep cc (fun _ h=>h) (Nat.le_refl _) nQ cZ nR,⟨fun k p aj=>?_,fun k bk p fX b aj eB ak gJ bg eu=>?_,fun b ag ad=>h.heap.fh b ag (own b ad),
  fun b ag=>Nat.lt_of_lt_of_le (h.heap.lt b ag) bN⟩,h.ic.keep cc fun _ h=>h,?_,h.base⟩
 ·rw[ah k]at aj
  by_cases bx:id=k
  ·subst bx
   rw[if_pos rfl]at aj;simp only[Option.some.injEq]at aj;subst aj;exact dh
  ·rw[if_neg bx]at aj
   refine(h.heap.c6 k p aj).keep cc (fun _ h=>h) (Nat.le_refl _) bN rfl (fun aq b ad=>hw b (nT k p b aj aq ad) fun jN=>bx (h.heap.inj id k o p b bd aj wU aq jN ad)) nQ cZ nR
 ·have aa: ∃q,aE s.heap k=some q∧q.live=true:=by
   rw[ah k]at aj
   by_cases bx:id=k
   ·subst bx;exact⟨o,bd,wU⟩
   ·rw[if_neg bx]at aj;exact⟨p,aj,ak⟩
  have ae: ∃q,aE s.heap bk=some q∧q.live=true:=by
   rw[ah bk]at eB
   by_cases bx:id=bk
   ·subst bx;exact⟨o,bd,wU⟩
   ·rw[if_neg bx]at eB;exact⟨fX,eB,gJ⟩
  obtain⟨q,aI,rv⟩:=aa;obtain⟨q',uS,zI⟩:=ae;exact h.heap.inj k bk q q' b aI uS rv zI bg eu
 ·have t:=h.trans
  refine⟨oY.trans t.os,oZ.trans t.tape,kF.trans t.output,Nat.le_trans t.size bN,fun b hM gf=>?_,t.jl,t.j2,fun b ad=>t.hk b (own b ad),fun k aj p bn=>?_,fun k p bn=>?_,t.le⟩
  ·by_cases jN:b3 (β id)=some b
   ·rcases t.hk b ⟨id,o,bd,wU,jN⟩with hc|hc
    ·exact absurd hc gf
    ·omega
   ·rw[hw b (Nat.lt_of_lt_of_le hM t.size) jN]
    exact t.frame b hM gf
  ·rw[ah k]at bn
   by_cases bx:id=k
   ·subst bx;exact t.dL id aj o bd
   ·rw[if_neg bx]at bn;exact t.dL k aj p bn
  ·rw[ah k]at bn
   by_cases bx:id=k
   ·subst bx;exact t.new id o bd
   ·rw[if_neg bx]at bn;exact t.new k p bn
end
end Go.aL
namespace Go.aL
open Go
def cT:aD→List aD
 | .agg cs=>cs
 |x=>[x]
section
variable {w:World} {ro:Nat→Prop} {σ:Heap} {β:Nat→Value} {N:Nat}
def eE(σ:Heap):aD→Bool
 | .av _| .fn _ _ _=>true
 | .ptr id _=>match aE σ id with
  |some (.box _ _)=>true
  |_=>false
 | .aO id=>match aE σ id with
  |some (.row _ _ _ _)=>true
  |_=>false
 | .cW id _ _=>match aE σ id with
  |some (.row _ _ _ _)=>true
  |_=>false
 |_=>false
theorem Dk(bb:hj w ro σ β N){x:aD}{c:Value}(hx:eE σ x=true)(h:bs w ro σ β N x c):c.oneCell'=true:=by
 cases h with
 |av x c h=>exact h.one
 |agg=>simp[eE]at hx
 |tuple=>simp[eE]at hx
 |ptr id off c aq ak=>
  simp only[eE]at hx
  split at hx
  ·rename_i t cs ah
   obtain⟨b,_,rfl⟩:=ak t cs ah;rfl
  ·cases hx
 |cW id i off c aq ak=>
  simp only[eE]at hx
  split at hx
  ·rename_i z t n es ah
   obtain⟨b,l,h1,_,rfl⟩:=ak z t n es ah;rfl
  ·cases hx
 |aO id c aq ak=>
  simp only[eE]at hx
  split at hx
  ·rename_i z t n es ah
   rw[ak z t n es ah]
   have:=bb.c6 id _ ah
   cases this with
   |row _ _ _ xs aa=>
    rcases aa.2 with⟨⟨_,aw,_⟩,_⟩|⟨g,cap,cur,aw,_⟩<;>rw[aw]<;>rfl
   |gb _ _ _ aa=>exact aa.one
  ·cases hx
 |fn=>rfl
 |ref=>simp[eE]at hx
 |dA=>simp[eE]at hx
 |top=>simp[eE]at hx
theorem bs.cT{x:aD}{c:Value}(h:bs w ro σ β N x c)(ec:(cT x).all (eE σ)=true)(bb:hj w ro σ β N):
 c.cells.size=(cT x).length∧(∀j y,(Go.aL.cT x)[j]? =some y→bs w ro σ β N y (c.cells.getD j undef))∧∀u∈c.cells.toList,u.oneCell'=true:=by
 cases h with
 |agg cs c ai hc=>
  refine⟨ai,hc,fun u hu=>?_⟩
  obtain⟨j,af,rfl⟩:=List.mem_iff_getElem.1 hu
  have Q1:j<cs.length:=by simpa[Value.cells,ai]using af
  have aa:=hc j cs[j] (List.getElem?_eq_getElem Q1)
  have ae:eE σ cs[j]=true:=by
   simp only[Go.aL.cT,List.all_eq_true]at ec;exact ec _ (List.getElem_mem Q1)
  have au:=Dk bb ae aa
  have zJ:j<c.size:=by omega
  simpa[Value.cells,zJ]using au
 |av x c hx=>
  have aa:c.cells= #[c]:=by have:=hx.one;cases c<;>simp_all[Value.cells,Value.oneCell']
  refine⟨by simp[aa,Go.aL.cT],fun j y af=>?_,fun u hu=>?_⟩
  ·cases j with
   |zero=>simp[Go.aL.cT]at af;subst af;simpa[aa]using bs.av x c hx
   |succ j=>simp[Go.aL.cT]at af
  ·simp[aa]at hu;subst hu;exact hx.one
 |tuple cs c ai hc=>simp[Go.aL.cT,eE]at ec
 |top c=>simp[Go.aL.cT,eE]at ec
 |ref id c=>simp[Go.aL.cT,eE]at ec
 |dA id n c=>simp[Go.aL.cT,eE]at ec
 |ptr id off c aq ak=>
  have hx:eE σ (.ptr id off)=true:=by simpa[Go.aL.cT]using ec
  have o0:=Dk bb hx (bs.ptr (w:=w) (ro:=ro) id off c aq ak)
  have aa:c.cells= #[c]:=by cases c<;>simp_all[Value.cells,Value.oneCell']
  refine⟨by simp[aa,Go.aL.cT],fun j y af=>?_,fun u hu=>?_⟩
  ·cases j with
   |zero=>simp[Go.aL.cT]at af;subst af;simpa[aa]using bs.ptr id off c aq ak
   |succ j=>simp[Go.aL.cT]at af
  ·simp[aa]at hu;subst hu;exact o0
 |cW id i off c aq ak=>
  have hx:eE σ (.cW id i off)=true:=by simpa[Go.aL.cT]using ec
  have o0:=Dk bb hx (bs.cW (w:=w) (ro:=ro) id i off c aq ak)
  have aa:c.cells= #[c]:=by cases c<;>simp_all[Value.cells,Value.oneCell']
  refine⟨by simp[aa,Go.aL.cT],fun j y af=>?_,fun u hu=>?_⟩
  ·cases j with
   |zero=>simp[Go.aL.cT]at af;subst af;simpa[aa]using bs.cW id i off c aq ak
   |succ j=>simp[Go.aL.cT]at af
  ·simp[aa]at hu;subst hu;exact o0
 |aO id c aq ak=>
  have hx:eE σ (.aO id)=true:=by simpa[Go.aL.cT]using ec
  have o0:=Dk bb hx (bs.aO (w:=w) (ro:=ro) id c aq ak)
  have aa:c.cells= #[c]:=by cases c<;>simp_all[Value.cells,Value.oneCell']
  refine⟨by simp[aa,Go.aL.cT],fun j y af=>?_,fun u hu=>?_⟩
  ·cases j with
   |zero=>simp[Go.aL.cT]at af;subst af;simpa[aa]using bs.aO id c aq ak
   |succ j=>simp[Go.aL.cT]at af
  ·simp[aa]at hu;subst hu;exact o0
 |fn f p q c d aa ae au aQ=>
  refine⟨by simp[Value.cells,Go.aL.cT],fun j y af=>?_,fun u hu=>?_⟩
  ·cases j with
   |zero=>simp[Go.aL.cT]at af;subst af;simpa[Value.cells]using bs.fn f p q c d aa ae au aQ
   |succ j=>simp[Go.aL.cT]at af
  ·simp[Value.cells]at hu;subst hu;rfl
end
section
variable {P:Program} {G:a8} {o:Oper} {s:aP}
theorem Q2(t:TypeId)(c:Value)(w:World):(newVar t c).run P w= .ok ⟨w.heap.size,0,none⟩ (w.alloc (.cells c.cells t)):=by
 simp[newVar,newRow]
theorem mg.Q3{t:TypeId}{cs:List aD}(h: ∀E a w β ro,c3 E G s a w β ro→∃arr:Array Value,(execOp a.eval o).run P w= .ok (.value (.pointer (some ⟨w.heap.size,0,none⟩))) (w.alloc (.cells arr t))∧
      arr.size=cs.length∧∀j x,cs[j]? =some x→bs w ro s.heap β s.next x (arr.getD j undef))(ad:s.base≤s.next):
    mg P G o s ({s with heap:=(s.next,.box t cs)::s.heap,next:=s.next+1}.put o.dst (.ptr s.next 0)):=by
  intro E a w ⟨β,ro,ag⟩ K Q hK;obtain⟨arr,cr,bN,eW⟩:=h E a w β ro ag;unfold Oper.wp;rw[cr]
  have jm:aE s.heap s.next=none:=by
    cases ah:aE s.heap s.next with
    |none=>rfl
    |some p=>have:=ag.trans.new _ _ ah;omega
  have fe:c3 E G {s with heap:=(s.next,.box t cs)::s.heap,next:=s.next+1} a (w.alloc (.cells arr t)) (gW β s.next (.pointer (some ⟨w.heap.size,0,none⟩))) ro:=by
    refine ag.new s.next jm ad (Nat.le_refl _) _ _ rfl rfl rfl (by simp) (fun b ad=>Go.RowKit.Below.heap_alloc w _ b ad) (fun b ad=>by simp[b3]at ad;omega) rfl ?_
    refine .box t cs w.heap.size arr (dS _ _ _) (heap_alloc_new w _) bN fun j x af=>?_
    have hx:=eW j x af
    have cc: ∀b,ro b→(w.alloc (.cells arr t)).heap[b]? =w.heap[b]? :=fun b ad=>Go.RowKit.Below.heap_alloc w _ b (ag.heap.lt b ad)
    clear af eW;generalize arr.getD j undef=c at hx
    induction hx with
    |av x c hx=>exact .av x c (hx.keep cc fun _ h=>h)
    |agg cs c ai _ aY=>exact .agg cs c ai aY
    |tuple cs c ai _ aY=>exact .tuple cs c ai aY
    |ptr k off c aq ak=>
      have aj:k≠s.next:=by omega
      exact .ptr k off c (by omega) fun t cs bn=>by rw[c0 _ _ aj];simp only[aE,if_neg (Ne.symm aj)]at bn;exact ak t cs bn
    |dA k off c aq ak=>
      have aj:k≠s.next:=by omega
      exact .dA k off c (by omega) fun t cs bn=>by rw[c0 _ _ aj];simp only[aE,if_neg (Ne.symm aj)]at bn;exact ak t cs bn
    |cW k i off c aq ak=>
      have aj:k≠s.next:=by omega
      exact .cW k i off c (by omega) fun z t n es bn=>by rw[c0 _ _ aj];simp only[aE,if_neg (Ne.symm aj)]at bn;exact ak z t n es bn
    |aO k c aq ak=>
      have aj:k≠s.next:=by omega
      exact .aO k c (by omega) fun z t n es bn=>by rw[c0 _ _ aj];simp only[aE,if_neg (Ne.symm aj)]at bn;exact ak z t n es bn
    |fn f p q c d aa ae _ _ hl ho=>exact .fn f p q c d aa ae hl ho
    |ref k c aq ak=>
      have aj:k≠s.next:=by omega
      exact .ref k c (by omega) fun bP bn=>by rw[c0 _ _ aj];simp only[aE,if_neg (Ne.symm aj)]at bn;exact ak bP bn
    |top c=>exact .top c
  refine hK _ _ ⟨_,ro,fe.put o.dst _ _ ?_⟩ fun b ad=>Go.RowKit.Below.heap_alloc w _ b ad
  refine .ptr _ _ _ (Nat.lt_succ_self _) fun bD cs' ah=>⟨w.heap.size,dS _ _ _,rfl⟩
theorem Q4(t:TypeId)(x:Operand)(an:o.op= .box t x)(ad:s.base≤s.next)(ec:(cT (aJ G s x)).all (eE s.heap)=true):
 mg P G o s ({s with heap:=(s.next,.box t (cT (aJ G s x)))::s.heap,next:=s.next+1}.put o.dst (.ptr s.next 0)):=
 .Q3 (fun _ a w β ro ag=>by
  obtain⟨aa,ae,_⟩:=(ag.eval x).cT ec ag.heap
  exact⟨(a.eval x).cells,by simp[execOp,an,Instr.box,Q2],aa,ae⟩) ad
theorem Q5(t:TypeId)(x:Operand)(an:o.op= .box t x)(ad:s.base≤s.next)(ec:(cT (aJ G s x)).all (eE s.heap)=true):
 dR P G o s ({s with heap:=(s.next,.box t (cT (aJ G s x)))::s.heap,next:=s.next+1}.put o.dst (.ptr s.next 0)):=(Q4 t x an ad ec).op
def zeroCells(P:Program)(t:TypeId):Option (List Value):=
 match P.info? t with
 |some i=>match i.zero with
  |some z=>some z.cells.toList
  |none=>none
 |none=>none
theorem zK{t:TypeId}{zs:List Value}(h:zeroCells P t=some zs)(w:World): ∃z:Value,(zeroValue t).run P w= .ok z w∧z.cells=zs.toArray∧∃i,P.info? t=some i∧i.zero=some z:=by
 unfold zeroCells at h
 cases hi:P.info? t with
 |none=>simp[hi]at h
 |some i=>
  cases aS:i.zero with
  |none=>simp[hi,aS]at h
  |some z=>
   simp[hi,aS]at h;exact⟨z,by simp[zeroValue,typeInfo,hi,aS],by rw[←h],i,rfl,aS⟩
theorem Q6(t:TypeId)(an:o.op= .alloc t)(ad:s.base≤s.next){zs:List Value}(aS:zeroCells P t=some zs)(ec:zs.all Value.oneCell'=true):
 mg P G o s ({s with heap:=(s.next,.box t (zs.map fun z=>.av (.v z)))::s.heap,next:=s.next+1}.put o.dst (.ptr s.next 0)):=
 .Q3 (fun _ a w β ro ag=>by
  obtain⟨z,cr,o1,_⟩:=zK aS w;refine⟨z.cells,by simp[execOp,an,Instr.alloc,cr,Q2],by simp[o1],fun j x af=>?_⟩
  rw[List.getElem?_map]at af
  cases ry:zs[j]? with
  |none=>simp[ry]at af
  |some y=>
   simp[ry]at af;subst af
   have:y.oneCell'=true:=by
    rw[List.all_eq_true]at ec;exact ec y (List.mem_of_getElem? ry)
   rw[o1]
   simpa[ry]using bs.av (w:=w) (ro:=ro) (σ:=s.heap) (β:=β) (N:=s.next) _ _ (.v y this)) ad
theorem Q7(t:TypeId)(an:o.op= .alloc t)(ad:s.base≤s.next){zs:List Value}(aS:zeroCells P t=some zs)(ec:zs.all Value.oneCell'=true):
 dR P G o s ({s with heap:=(s.next,.box t (zs.map fun z=>.av (.v z)))::s.heap,next:=s.next+1}.put o.dst (.ptr s.next 0)):=(Q6 t an ad aS ec).op
end
end Go.aL
namespace Go.aL
open Go
section
variable {P:Program} {G:a8} {o:Oper} {s:aP}
theorem J2{w w':World}{ro:Nat→Prop}{σ:Heap}{β:Nat→Value}{N id:Nat}{t:TypeId}{cs cs':List aD}(bd:aE σ id=some (.box t cs)){x:aD}{c:Value}
 (h:bs w ro σ β N x c)(cc: ∀b,ro b→w'.heap[b]? =w.heap[b]?):bs w' ro (eN σ id (.box t cs')) β N x c:=by
 refine h.keep cc (fun _ h=>h) (Nat.le_refl _) (fun k t1 aW aj=>?_) (fun k z t1 n es aj=>?_) (fun k bP aj=>?_)
 ·rw[wS]at aj
  by_cases bx:id=k
  ·subst bx;exact⟨rfl,t,cs,bd⟩
  ·rw[if_neg bx]at aj;exact⟨rfl,t1,aW,aj⟩
 ·rw[wS]at aj
  by_cases bx:id=k
  ·subst bx;rw[if_pos rfl]at aj;cases aj
  ·rw[if_neg bx]at aj;exact⟨rfl,z,t1,es,aj⟩
 ·rw[wS]at aj
  by_cases bx:id=k
  ·subst bx;rw[if_pos rfl]at aj;cases aj
  ·rw[if_neg bx]at aj;exact⟨rfl,bP,aj⟩
def en{α:Type}(cs:List α)(off:Nat)(vs:List α):List α:=cs.take off++(vs++cs.drop (off+vs.length))
theorem qj{α:Type}(cs:List α)(off:Nat)(vs:List α)(h:off+vs.length≤cs.length):(en cs off vs).length=cs.length:=by
 simp[en];omega
theorem J3{α β:Type}(R:α→β→Prop)(d:β){cs vs:List α}{xs ys:List β}{off:Nat}(aq:cs.length≤xs.length)(aw:vs.length=ys.length)(zL:off+vs.length≤cs.length)
 (aa: ∀j x,cs[j]? =some x→R x (xs.getD j d))(ae: ∀j x,vs[j]? =some x→R x (ys.getD j d)): ∀j x,(en cs off vs)[j]? =some x→R x ((en xs off ys).getD j d):=by
 intro j x af
 unfold en at*
 by_cases a1:j<off
 ·rw[List.getElem?_append_left (by simp;omega),List.getElem?_take,if_pos a1]at af
  have:=aa j x af
  rw[List.getD,List.getElem?_append_left (by simp;omega),List.getElem?_take,if_pos a1]
  exact this
 ·have aB:(cs.take off).length=off:=by simp;omega
  have bf:(xs.take off).length=off:=by simp;omega
  rw[List.getElem?_append_right (by omega),aB]at af
  rw[List.getD,List.getElem?_append_right (by omega),bf]
  by_cases ad:j-off<vs.length
  ·rw[List.getElem?_append_left ad]at af
   rw[List.getElem?_append_left (by omega)]
   exact ae _ _ af
  ·rw[List.getElem?_append_right (by omega),List.getElem?_drop]at af
   rw[List.getElem?_append_right (by omega),List.getElem?_drop]
   have ck:off+vs.length+(j-off-vs.length)=j:=by omega
   have ep:off+ys.length+(j-off-ys.length)=j:=by omega
   rw[ck]at af;rw[ep];exact aa j x af
theorem Q8(t:TypeId)(b off:Nat)(c:Value)(w:World)(bt:TypeId)(arr:Array Value)(ah:w.heap[b]? =some (.cells arr bt (0,0)))(bN:(P.info? t).map (·.size)=some c.cells.size)
 (qk:off+c.cells.size≤arr.size)(aa: ∀u∈c.cells.toList,u.oneCell'=true):
 (Instr.storeAt t (.pointer (some ⟨b,off,none⟩)) c).run P w= .ok () (w.setRow b (en arr.toList off c.cells.toList).toArray):=by
 have dD:=run_storeCells_at P b off bt c.cells.toList 0 arr w ah (by simpa using qk) aa
 cases hi:P.info? t with
 |none=>simp[hi]at bN
 |some i=>
  have ai:i.size=c.cells.size:=by simpa[hi]using bN
  simp only[Nat.add_zero,List.append_assoc]at dD;simp only[Instr.storeAt,Instr.sureAddr,storeVar,sizeOf,typeInfo,Sem.run_bind,Sem.run_pure,Result.andThen_ok,en];simp[hi,ai,dD]
theorem Q9(t:TypeId)(p x:Operand)(an:o.op= .store t p x){id off:Nat}(ak:aJ G s p= .ptr id off){bt:TypeId}{cs:List aD}(bd:aE s.heap id=some (.box bt cs))
 {vs:List aD}(aw:cT (aJ G s x)=vs)(ec:vs.all (eE s.heap)=true)(bN:(P.info? t).map (·.size)=some vs.length)(qk:off+vs.length≤cs.length):
 dR P G o s ({s with heap:=eN s.heap id (.box bt (en cs off vs))}.put o.dst .top):=by
 intro E a w ⟨β,ro,ag⟩ K Q hK
 subst aw
 obtain⟨aa,ae,au⟩:=(ag.eval x).cT ec ag.heap
 have rz:=ag.eval p
 rw[ak]at rz
 have dh:=ag.heap.c6 id _ bd
 cases dh with
 |box _ _ b arr ad ah zc7 eW=>
  generalize J4:a.eval p=gX at rz
  cases rz with
  |ptr _ _ c aq hc=>
   obtain⟨b',gz,rfl⟩:=hc _ _ bd;rw[ad]at gz;simp only[Value.pointer.injEq,Option.some.injEq,Addr.mk.injEq,and_true]at gz;subst gz
   have cr:=Q8 (P:=P) t b off (a.eval x) w bt arr ah (by rw[bN,aa]) (by omega) au
   unfold Oper.wp;simp only[execOp,an,J4,Sem.run_bind,cr,Result.andThen_ok,Sem.run_pure]
   have jn: ∀k,k<w.heap.size→b3 (β id)≠some k→(w.setRow b (en arr.toList off (a.eval x).cells.toList).toArray).heap[k]? =w.heap[k]? :=fun k _ aj=>
    setRow_other w b k _ (fun e=>aj (by rw[ad,e];rfl))
   have cc: ∀k,ro k→(w.setRow b (en arr.toList off (a.eval x).cells.toList).toArray).heap[k]? =w.heap[k]? :=fun k aj=>
    jn k (ag.heap.lt k aj) fun bg=>ag.heap.fh k aj ⟨id,_,bd,rfl,bg⟩
   refine hK _ _ ⟨β,ro,(ag.write (w':=w.setRow b (en arr.toList off (a.eval x).cells.toList).toArray) id _ (.box bt (en cs off (cT (aJ G s x)))) bd rfl rfl (.inl ⟨_,_,_,rfl,rfl⟩) rfl rfl rfl (by simp) jn ?_).put o.dst _ _ (.top _)⟩
   refine .box bt _ b _ ad (setRow_heap w b arr _ bt (0,0) ah) ?_ fun j y af=>?_
   ·rw[List.size_toArray,qj _ _ _ (by simp only[Array.length_toList];omega),qj _ _ _ qk,Array.length_toList,zc7]
   ·have ai:=J3 (bs w ro s.heap β s.next) undef (cs:=cs) (vs:=cT (aJ G s x)) (xs:=arr.toList) (ys:=(a.eval x).cells.toList) (off:=off) (by simp only[Array.length_toList];omega) (by simp only[Array.length_toList];omega) qk
     (fun j x af=>by have:=eW j x af;simpa[Array.getD_eq_getD_getElem?,List.getD]using this)
     (fun j x af=>by have:=ae j x af;simpa[Array.getD_eq_getD_getElem?,List.getD]using this) j y af
    have eX:=J2 (cs':=en cs off (cT (aJ G s x))) bd ai cc
    simpa[Array.getD_eq_getD_getElem?,List.getD]using eX
def iQ:List aD→Option (List a6)
 |[]=>some []
 | .av x::r=>match iQ r with
  |some l=>some (x::l)
  |none=>none
 |_::_=>none
theorem Dl: ∀{vs:List aD} {l:List a6},iQ vs=some l→vs=l.map .av
 |[],l,h=>by simp[iQ]at h;subst h;rfl
 | .av x::r,l,h=>by
  simp only[iQ]at h
  cases ag:iQ r with
  |none=>simp[ag]at h
  |some h2=>
   simp[ag]at h;subst h;simp[Dl ag]
 | .agg _::_,_,h=>by simp[iQ]at h
 | .tuple _::_,_,h=>by simp[iQ]at h
 | .ptr _ _::_,_,h=>by simp[iQ]at h
 | .dA _ _::_,_,h=>by simp[iQ]at h
 | .cW _ _ _::_,_,h=>by simp[iQ]at h
 | .aO _::_,_,h=>by simp[iQ]at h
 | .fn _ _ _::_,_,h=>by simp[iQ]at h
 | .ref _::_,_,h=>by simp[iQ]at h
 | .top::_,_,h=>by simp[iQ]at h
theorem Ra{α:Type}{n:Nat}: ∀{es:List (List α)},(∀e∈es,e.length=n)→∀{i:Nat} {e ay:List α},es[i]? =some e→ay.length=n→(es.set i ay).flatten=es.flatten.take (i*n)++(ay++es.flatten.drop (i*n+n))
 |[],_,i,e,ay,h,_=>by simp at h
 |x::r,hn,i,e,ay,h,he=>by
  have hx:x.length=n:=hn x (by simp)
  cases i with
  |zero=>simp[hx]
  |succ i=>
   simp at h
   have aY:=Ra (es:=r) (fun e he=>hn e (by simp[he])) h he
   simp only[List.set_cons_succ,List.flatten_cons,aY]
   have aB:(i+1)*n=x.length+i*n:=by rw[Nat.succ_mul];omega
   have bf:(i+1)*n+n=x.length+(i*n+n):=by rw[Nat.succ_mul];omega
   have ck:x.length+(i*n+n)-x.length=i*n+n:=by omega
   have ep:x.length+i*n-x.length=i*n:=by omega
   rw[bf,aB,List.take_append,List.drop_append,ck,ep,List.take_of_length_le (l:=x) (by omega),List.drop_of_length_le (l:=x) (by omega)]
   simp
theorem zc8{α:Type}(l:List α)(p n k:Nat)(vs:List α)(e:List α)(he:e.length=n)(aq: ∀j,j<n→l[p+j]? =e[j]?)(aj:k+vs.length≤n)(ak:p+n≤l.length):
 en l (p+k) vs=l.take p++(en e k vs++l.drop (p+n)):=by
 apply List.ext_getElem?
 intro j
 have ai:(en e k vs).length=n:=by rw[qj _ _ _ (by omega),he]
 unfold en at*
 by_cases aa:j<p
 ·rw[List.getElem?_append_left (by simp;omega),List.getElem?_take,if_pos (by omega),List.getElem?_append_left (by simp;omega),List.getElem?_take,if_pos aa]
 ·have aB:(l.take p).length=p:=by simp;omega
  have bf:(l.take (p+k)).length=p+k:=by simp;omega
  rw[List.getElem?_append_right (l₁:=l.take p) (by omega),aB]
  by_cases ae:j<p+k
  ·rw[List.getElem?_append_left (by omega),List.getElem?_take,if_pos ae,List.getElem?_append_left (by omega),List.getElem?_append_left (by simp;omega),List.getElem?_take,if_pos (by omega),←aq _ (by omega)]
   congr 1;omega
  ·rw[List.getElem?_append_right (by omega),bf]
   have ck:(e.take k).length=k:=by simp;omega
   by_cases au:j<p+k+vs.length
   ·rw[List.getElem?_append_left (by omega),List.getElem?_append_left (by omega),List.getElem?_append_right (by omega),ck,List.getElem?_append_left (by omega)]
    congr 1;omega
   ·rw[List.getElem?_append_right (by omega),List.getElem?_drop]
    by_cases aQ:j<p+n
    ·rw[List.getElem?_append_left (by omega),List.getElem?_append_right (by omega),ck,List.getElem?_append_right (by omega),List.getElem?_drop,←aq _ (by omega)]
     congr 1;omega
    ·rw[List.getElem?_append_right (by omega),ai,List.getElem?_drop]
     congr 1;omega
theorem zc9{α:Type}(l:List α)(off m:Nat)(ys:List α)(h:off+ys.length≤m)(hm:m≤l.length):(en l off ys).take m=en (l.take m) off ys:=by
 have aB:min m off=off:=by omega
 have bf:min off m=off:=by omega
 have ck:min off l.length=off:=by omega
 have ep:List.take (m-off) ys=ys:=List.take_of_length_le (by omega)
 have ku:m-off-ys.length=m-(off+ys.length):=by omega
 simp only[en,List.take_append,List.take_take,List.length_take,List.drop_take,aB,bf,ck,ep,ku]
theorem Rb(t:TypeId)(p x:Operand)(an:o.op= .store t p x){id i off:Nat}(ak:aJ G s p= .cW id i off){bt:TypeId}{n:Nat}{es:List (List a6)}(bd:aE s.heap id=some (.row false bt n es))
 {e:List a6}(m0:es[i]? =some e){vs:List a6}(aw:iQ (cT (aJ G s x))=some vs)(bN:(P.info? t).map (·.size)=some vs.length)(qk:off+vs.length≤n):
 dR P G o s ({s with heap:=eN s.heap id (.row false bt n (es.set i (en e off vs)))}.put o.dst .top):=by
 intro E a w ⟨β,ro,ag⟩ K Q hK
 have Rc:=Dl aw
 have ec:(cT (aJ G s x)).all (eE s.heap)=true:=by rw[Rc];simp[List.all_eq_true,eE]
 obtain⟨aa,ae,au⟩:=(ag.eval x).cT ec ag.heap
 rw[Rc]at aa ae
 rw[List.length_map]at aa
 have rz:=ag.eval p
 rw[ak]at rz
 have dh:=ag.heap.c6 id _ bd
 cases dh with
 |row _ _ _ xs hB hn eW=>
  generalize J4:a.eval p=gX at rz
  cases rz with
  |cW _ _ _ c aq hc=>
   obtain⟨b,l,h1,ad,rfl⟩:=hc _ _ _ _ bd
   have zjL:=hB
   rw[ad]at hB;obtain⟨Di,mP⟩:=hB
   rcases mP with⟨⟨_,h,_⟩,aS⟩|⟨g,cap,cur,Re,Rf,ah,hle,ig,dJ,lJ⟩
   ·have:=(List.getElem?_eq_some_iff.1 m0).1;omega
   ·simp only[Value.slice.injEq,Option.some.injEq,Addr.mk.injEq,and_true]at Re
    obtain⟨rfl,rfl,rfl⟩:=Re
    have nS:e.length=n:=hn e (List.mem_of_getElem? m0)
    have zda:i<es.length:=(List.getElem?_eq_some_iff.1 m0).1
    have k1:i*n+n≤es.length*n:=by rw[←Nat.succ_mul];exact Nat.mul_le_mul_right n zda
    have zjM:es.length*n≤h1*n:=Nat.mul_le_mul_right n hle
    have cr:=Q8 (P:=P) t b (i*n+off) (a.eval x) w bt cur ah (by rw[bN,aa]) (by omega) au
    unfold Oper.wp;simp only[execOp,an,J4,Sem.run_bind,cr,Result.andThen_ok,Sem.run_pure]
    have jn: ∀k,k<w.heap.size→b3 (β id)≠some k→(w.setRow b (en cur.toList (i*n+off) (a.eval x).cells.toList).toArray).heap[k]? =w.heap[k]? :=fun k _ aj=>
     setRow_other w b k _ (fun e=>aj (by rw[ad,e];simp[b3,Nat.ne_of_gt Rf]))
    have cc: ∀k,ro k→(w.setRow b (en cur.toList (i*n+off) (a.eval x).cells.toList).toArray).heap[k]? =w.heap[k]? :=fun k aj=>
     jn k (ag.heap.lt k aj) fun bg=>ag.heap.fh k aj ⟨id,_,bd,rfl,bg⟩
    have ql:(en e off vs).length=n:=by rw[qj _ _ _ (by omega),nS]
    refine hK _ _ ⟨β,ro,(ag.write (w':=w.setRow b (en cur.toList (i*n+off) (a.eval x).cells.toList).toArray) id _ (.row false bt n (es.set i (en e off vs))) bd rfl rfl (.inr (.inl ⟨_,_,_,_,rfl,rfl⟩)) rfl rfl rfl (by simp) jn ?_).put o.dst _ _ (.top _)⟩
    have jo:(a.eval x).cells.toList.length=vs.length:=by simpa using aa
    refine .row bt n _ (en xs (i*n+off) (a.eval x).cells.toList) ?_ (fun ay j4=>?_) (fun j y af=>?_)
    ·rw[ad,List.length_set]
     refine⟨by rw[qj _ _ _ (by omega)];exact Di,.inr ⟨b,h1,_,rfl,Rf,setRow_heap w b cur _ bt (0,0) ah,hle,ig,?_,?_⟩⟩
     ·rw[List.size_toArray,qj _ _ _ (by simp;omega)];simpa using dJ
     ·show List.take (es.length*n) (en cur.toList (i*n+off) (a.eval x).cells.toList)=_
      rw[zc9 _ _ _ _ (by omega) (by simp;omega),lJ]
    ·rcases List.mem_or_eq_of_mem_set j4 with h|h
     ·exact hn ay h
     ·rw[h];exact ql
    ·rw[Ra hn m0 ql,←zc8 es.flatten (i*n) n off vs e nS (fun j af=>rr hn m0 j af) qk (by rw[j3 hn];exact k1)]at af
     have ai:=J3 (cR w ro) undef (cs:=es.flatten) (vs:=vs) (xs:=xs) (ys:=(a.eval x).cells.toList) (off:=i*n+off) (by rw[j3 hn];omega) (by omega) (by rw[j3 hn];omega)
      (fun j x af=>eW j x af)
      (fun j y af=>by
       have:=ae j (.av y) (by simp[af])
       cases this with
       |av _ _ h=>simpa[Array.getD_eq_getD_getElem?,List.getD]using h) j y af
     exact ai.keep cc fun _ h=>h
end
end Go.aL
namespace Go.aL
open Go
def dF(a b:ByteArray):Bool:=a.data.toList==b.data.toList
theorem vV(a b:ByteArray):dF a b=decide (a=b):=by
 unfold dF
 obtain⟨⟨x⟩⟩:=a
 obtain⟨⟨y⟩⟩:=b
 rw[Bool.eq_iff_iff]
 simp
theorem Rg(a b:ByteArray):(a.toList==b.toList)=dF a b:=by rw[ByteArray.toList_eq,ByteArray.toList_eq];rfl
@[simp] theorem zjN{a b:ByteArray}:dF a b=true↔a=b:=by rw[vV];simp
@[simp] theorem zjO{a b:ByteArray}:dF a b=false↔a≠b:=by rw[vV];simp
@[simp] theorem OP(a:ByteArray):dF a a=true:=by simp
def rA(a b:ByteArray):Bool:=Op.bytesLess a.data.toList b.data.toList
theorem zdb(a b:ByteArray):Op.bytesLess a.toList b.toList=rA a b:=by rw[ByteArray.toList_eq,ByteArray.toList_eq];rfl
def Dm(op:BinOp)(a b:Int):Option Value:=
 match op with
 | .eql=>some (.bool (a==b))
 | .neq=>some (.bool (a != b))
 | .lss=>some (.bool (decide (a<b)))
 | .leq=>some (.bool (decide (a≤b)))
 | .gtr=>some (.bool (decide (a>b)))
 | .geq=>some (.bool (decide (a≥b)))
 |_=>none
def j5(op:BinOp):Value→Value→Option Value
 | .int k a,.int bk b=>
  match op with
  | .shl=>if b<0 then none else some (.int k (k.wrap (a*2^(min b.toNat k.bits))))
  | .shr=>if b<0 then none else some (.int k (a.fdiv (2^(min b.toNat k.bits))))
  |op=>if k=bk then match op with
   | .add=>some (.int k (k.wrap (a+b)))
   | .sub=>some (.int k (k.wrap (a-b)))
   | .mul=>some (.int k (k.wrap (a*b)))
   | .quo=>if b=0 then none else some (.int k (k.wrap (a.tdiv b)))
   | .rem=>if b=0 then none else some (.int k (a.tmod b))
   |op=>Dm op a b
   else none
 | .string a,.string b=>
  match op with
  | .add=>if((a.size+b.size:Nat):Int)>IntKind.i64.max then none else some (.string (a++b))
  | .eql=>some (.bool (dF a b))
  | .neq=>some (.bool (!dF a b))
  | .lss=>some (.bool (rA a b))
  | .leq=>some (.bool (rA a b||dF a b))
  | .gtr=>some (.bool (!(rA a b||dF a b)))
  | .geq=>some (.bool (!rA a b))
  |_=>none
 |_,_=>none
theorem zdc {P : Program} {op : BinOp} {x y c : Value} (h : j5 op x y = some c) (t : TypeId) (p q : Operand) (w : World) :
    (eqGuard op t p q x y).run P w = .ok () w ∧ (binOp op t x y).run P w = .ok c w ∧ c.oneCell' = true := by
  cases x with
  | int k a =>
    cases y with
    | int bk b =>
      simp only [j5] at h; refine ⟨by rw [eqGuard_at_int]; rfl, ?_⟩
      cases op
      all_goals first
        | (simp only at h
           split at h
           · cases h
           · rename_i hn
             simp only [Option.some.injEq] at h; subst h; refine ⟨?_, rfl⟩
             simp [binOp, Op.shift, hn]; done)
        | (simp only at h
           split at h
           · rename_i aj
             subst aj
             first
               | (simp only [Option.some.injEq, Dm] at h; subst h; exact ⟨by simp [binOp, Op.intArith, Op.intCmp], rfl⟩)
               | (split at h
                  · cases h
                  · rename_i aS
                    simp only [Option.some.injEq] at h; subst h
                    exact ⟨by simp [binOp, Op.intDiv, aS], rfl⟩)
               | (simp [Dm] at h; done)
           · cases h)
    | _ => simp [j5] at h
  | string a =>
    cases y with
    | string b =>
      simp only [j5] at h; refine ⟨by rw [eqGuard_at_string]; rfl, ?_⟩
      cases op <;> simp only at h
      all_goals first
        | cases h; done
        | (split at h
           · cases h
           · rename_i hn
             simp only [Option.some.injEq] at h; subst h
             exact ⟨by simp only [binOp_string_add, Op.stringOp, hn, if_false] <;> rfl, rfl⟩)
        | (simp only [Option.some.injEq] at h; subst h; exact ⟨by simp only [binOp, Op.stringOp, Rg, zdb] <;> rfl, rfl⟩)
    | _ => simp [j5] at h
  | _ => simp [j5] at h
section
variable {P:Program} {G:a8} {o:Oper} {s:aP}
theorem bs.val{w:World}{ro:Nat→Prop}{σ:Heap}{β:Nat→Value}{N:Nat}{x c:Value}(h:bs w ro σ β N (.av (.v x)) c):c=x:=by
 cases h with
 |av _ _ h=>cases h;rfl
theorem c3.ef{E:Entry}{a:Act}{w:World}{β:Nat→Value}{ro:Nat→Prop}(h:c3 E G s a w β ro){x:Operand}{v:Value}(hx:aJ G s x= .av (.v v)):a.eval x=v:=
 bs.val (hx ▸ h.eval x)
theorem bs.fE{w:World}{ro:Nat→Prop}{σ:Heap}{β:Nat→Value}{N:Nat}{c:Value}(h:c.oneCell'=true):bs w ro σ β N (.av (.v c)) c:=.av _ _ (.v _ h)
theorem o2(op:BinOp)(cw ty:TypeId)(x y:Operand)(an:o.op= .binOp op cw x y ty){u v c:Value}(hx:aJ G s x= .av (.v u))(ax:aJ G s y= .av (.v v))(hc:j5 op u v=some c):
 cQ P G o s (.av (.v c)):=
 fun _ a w β ro ag=>by
  obtain⟨aa,ae,au⟩:=zdc (P:=P) hc cw x y w;exact⟨c,by simp[execOp,an,ag.ef hx,ag.ef ax,aa,ae],.fE au⟩
theorem Rh(cw ty:TypeId)(x y:Operand)(an:o.op= .binOp .eql cw x y ty)(aH:P.underlying cw=some .bool){u v:Bool}(hx:aJ G s x= .av (.v (.bool u)))(ax:aJ G s y= .av (.v (.bool v))):
 cQ P G o s (.av (.v (.bool (u==v)))):=
 fun _ a w β ro ag=>⟨.bool (u==v),by simp[execOp,an,ag.ef hx,ag.ef ax,eqGuard_at_bool,run_eql_bool w cw u v aH],.fE rfl⟩
theorem Ri(cw ty:TypeId)(x y:Operand)(an:o.op= .binOp .neq cw x y ty)(aH:P.underlying cw=some .bool){u v:Bool}(hx:aJ G s x= .av (.v (.bool u)))(ax:aJ G s y= .av (.v (.bool v))):
 cQ P G o s (.av (.v (.bool (!(u==v))))):=
 fun _ a w β ro ag=>⟨.bool (!(u==v)),by simp[execOp,an,ag.ef hx,ag.ef ax,eqGuard_at_bool,run_neq_bool w cw u v aH],.fE rfl⟩
def m1:Value→Value→Option Bool
 | .int k a,.int bk b=>if k=bk then some (a==b)else none
 | .bool a,.bool b=>some (a==b)
 | .string a,.string b=>some (dF a b)
 |_,_=>none
def rB(P:Program)(t:TypeId):Value→Bool
 | .int k _=>match P.underlying t with
  |some (.int bk)=>decide (k=bk)
  |_=>false
 | .bool _=>match P.underlying t with
  |some .bool=>true
  |_=>false
 | .string _=>match P.underlying t with
  |some .string=>true
  |_=>false
 |_=>false
def Rj(e:TypeId)(c i:Nat):Field:={(default:Field)with name:= "e",type:=e,offset:=i*c}
theorem J5(d:Nat)(e:TypeId)(c:Nat)(X Y:Array Value): ∀(is:List Nat),Op.eqFields d X Y (is.map (Rj e c))=Op.eqItems d e c X Y is
 |[]=>rfl
 |i::is=>by
  simp only[List.map_cons,Op.eqFields,Op.eqItems,J5 d e c X Y is];rfl
def m2(P:Program)(t:TypeId):Option (List Field):=
 match P.underlying t with
 |some (.struct fs)=>if P.stoodInHeld t||P.eqGuardType P.depth t then none else some fs.toList
 |some (.array n e)=>match P.info? e with
  |some _=>if P.eqGuardType P.depth t then none else some ((List.range n).map (Rj e (P.cellsOf e)))
  |none=>none
 |_=>none
theorem zdd{P:Program}{t:TypeId}{gs:List Field}(h:m2 P t=some gs)(D:Nat)(p q:Array Value)(w:World):
 (Op.equalIn (D+1) t (.agg p) (.agg q)).run P w=(Op.eqFields D p q gs).run P w∧(isAgg t).run P w= .ok true w:=by
 unfold m2 at h
 split at h
 ·rename_i Dn hu
  split at h
  ·cases h
  ·rename_i hc
   simp only[Bool.or_eq_true,not_or,Bool.not_eq_true]at hc;simp only[Option.some.injEq]at h;subst h
   have qm:P.fieldsOf t=Dn:=by simp[Program.fieldsOf,hu]
   exact⟨by rw[run_equalIn_struct w D t p q (by rw[qm];exact hu) hc.1,qm],by simp[isAgg,run_underlying hu]⟩
 ·rename_i n e hu
  split at h
  ·rename_i inf wV
   split at h
   ·cases h
   ·simp only[Option.some.injEq]at h
    subst h;exact⟨by rw[run_equalIn_array w D p q hu wV,←J5],by simp[isAgg,run_underlying hu]⟩
  ·cases h
 ·cases h
def qn(P:Program):Nat→Nat→List Field→List Value→List Value→Option Bool
 |0,_,_,_,_=>none
 |_+1,_,[],_,_=>some true
 |d+1,k,f::fs,xs,ys=>
  if f.name= "_" ||f.offset != k then none
  else match m2 P f.type with
   |some gs=>match P.info? f.type with
    |some inf=>match qn P d 0 gs (xs.take inf.size) (ys.take inf.size),qn P d (k+inf.size) fs (xs.drop inf.size) (ys.drop inf.size)with
     |some a,some b=>some (a&&b)
     |_,_=>none
    |none=>none
   |none=>match xs,ys with
    |x::xs,y::ys=>if rB P f.type x then match m1 x y,qn P d (k+1) fs xs ys with
     |some a,some b=>some (a&&b)
     |_,_=>none
     else none
    |_,_=>none
def zM(P:Program)(k:Nat)(fs:List Field)(xs ys:List Value):Option Bool:=qn P 64 k fs xs ys
theorem zde{t:TypeId}{x y:Value}{b:Bool}(h:m1 x y=some b)(hf:rB P t x=true)(d:Nat)(w:World):(Op.equalIn (d+1) t x y).run P w= .ok b w∧x.oneCell'=true∧y.oneCell'=true∧(isAgg t).run P w= .ok false w:=by
 cases x with
 |int k a=>
  cases y with
  |int bk b'=>
   simp only[m1]at h
   split at h
   ·rename_i aj
    subst aj;simp only[Option.some.injEq]at h;subst h;simp only[rB]at hf
    split at hf
    ·rename_i gH hu
     exact⟨run_equalIn_int w d t k gH a b' hu,rfl,rfl,by simp[isAgg,run_underlying hu]⟩
    ·cases hf
   ·cases h
  |_=>simp[m1]at h
 |bool a=>
  cases y with
  |bool b'=>
   simp only[m1,Option.some.injEq]at h;subst h;simp only[rB]at hf
   split at hf
   ·rename_i hu
    exact⟨run_equalIn_bool w d t a b' hu,rfl,rfl,by simp[isAgg,run_underlying hu]⟩
   ·cases hf
  |_=>simp[m1]at h
 |string a=>
  cases y with
  |string b'=>
   simp only[m1,Option.some.injEq]at h;subst h;simp only[rB]at hf
   split at hf
   ·rename_i hu
    refine⟨?_,rfl,rfl,by simp[isAgg,run_underlying hu]⟩
    rw[run_equalIn_string w d t a b' hu,Rg]
   ·cases hf
  |_=>simp[m1]at h
 |_=>simp[m1]at h
theorem Rk{xs:List Value}{X:Array Value}{k n:Nat}(hN: ∀j x,xs[j]? =some x→X[k+j]? =some x): ∀j x,(xs.take n)[j]? =some x→(X.extract k (k+n))[0+j]? =some x:=by
 intro j x af
 rw[List.getElem?_take]at af
 split at af
 ·rename_i mU
  have:=hN j x af
  rw[Nat.zero_add,Array.getElem?_extract]
  have bH:k+j<X.size:=(Array.getElem?_eq_some_iff.1 this).1
  rw[if_pos (by omega)]
  exact this
 ·cases af
theorem Dp: ∀(d:Nat) (fs:List Field) (k:Nat) (xs ys:List Value) (X Y:Array Value) (b:Bool) (D:Nat) (w:World),qn P d k fs xs ys=some b→d≤D→(∀j x,xs[j]? =some x→X[k+j]? =some x)→(∀j y,ys[j]? =some y→Y[k+j]? =some y)→
 (Op.eqFields D X Y fs).run P w= .ok b w
 |0,_,k,xs,ys,X,Y,b,D,w,h,_,_,_=>by simp[qn]at h
 |d+1,[],k,xs,ys,X,Y,b,D,w,h,_,hN,o3=>by
  simp[qn]at h;subst h;simp[Op.eqFields]
 |d+1,f::fs,k,xs,ys,X,Y,b,0,w,h,mj,_,_=>by omega
 |d+1,f::fs,k,xs,ys,X,Y,b,D+1,w,h,mj,hN,o3=>by
  unfold qn at h
  split at h
  ·cases h
  ·rename_i hc
   simp only[Bool.or_eq_true,decide_eq_true_eq,bne_iff_ne,ne_eq,not_or,Decidable.not_not]at hc;obtain⟨wW,zL⟩:=hc
   split at h
   ·rename_i gs ah
    split at h
    ·rename_i inf wV
     split at h
     ·rename_i gq iq aa ae
      simp only[Option.some.injEq]at h;subst h
      have dH:=Dp d gs 0 _ _ (X.extract k (k+inf.size)) (Y.extract k (k+inf.size)) gq D w aa (by omega) (Rk hN) (Rk o3)
      have eR:=Dp d fs (k+inf.size) _ _ X Y iq (D+1) w ae (by omega) (fun j x af=>by rw[List.getElem?_drop]at af;have:=hN _ x af;rwa[show k+(inf.size+j)=k+inf.size+j from by omega]at this) (fun j x af=>by rw[List.getElem?_drop]at af;have:=o3 _ x af;rwa[show k+(inf.size+j)=k+inf.size+j from by omega]at this)
      obtain⟨aB,bf⟩:=zdd ah D (X.extract k (k+inf.size)) (Y.extract k (k+inf.size)) w
      have dJ:P.cellsOf f.type=inf.size:=by simp[Program.cellsOf,wV]
      simp only[Op.eqFields,Sem.run_bind,wW,ne_eq,not_false_eq_true,if_true,part,bf,Result.andThen_ok,run_sizeOf w wV,dJ,zL,Sem.run_pure,aB,dH]
      cases gq
      ·simp
      ·simpa using eR
     ·cases h
    ·cases h
   ·split at h
    ·rename_i x J6 y zdf
     split at h
     ·rename_i qk
      split at h
      ·rename_i gq iq he ag
       simp only[Option.some.injEq]at h;subst h;obtain⟨aa,_,_,aQ⟩:=zde he qk D w
       have Rl:=hN 0 x rfl
       have wX:=o3 0 y rfl
       have aY:=Dp d fs (k+1) J6 zdf X Y iq (D+1) w ag (by omega) (fun j x af=>by have:=hN (j+1) x af;rwa[show k+(j+1)=k+1+j from by omega]at this) (fun j x af=>by have:=o3 (j+1) x af;rwa[show k+(j+1)=k+1+j from by omega]at this)
       simp only[Nat.add_zero]at Rl wX;simp only[Op.eqFields,Sem.run_bind,wW,ne_eq,not_false_eq_true,if_true,part,aQ,Result.andThen_ok,Bool.false_eq_true,if_false,zL,Rl,wX,Sem.run_pure,aa]
       cases gq
       ·simp
       ·simpa using aY
      ·cases h
     ·cases h
    ·cases h
theorem Rm(fs:List Field)(k:Nat)(xs ys:List Value)(X Y:Array Value)(b:Bool)(d:Nat)(w:World)(h:zM P k fs xs ys=some b)(hd:64≤d+1)(hN: ∀j x,xs[j]? =some x→X[k+j]? =some x)(o3: ∀j y,ys[j]? =some y→Y[k+j]? =some y):
 (Op.eqFields (d+1) X Y fs).run P w= .ok b w:=Dp 64 fs k xs ys X Y b (d+1) w h hd hN o3
def hC:List aD→Option (List Value)
 |[]=>some []
 | .av (.v x)::r=>match hC r with
  |some l=>some (x::l)
  |none=>none
 |_::_=>none
theorem zN{w:World}{ro:Nat→Prop}{σ:Heap}{β:Nat→Value}{N:Nat}: ∀{cs:List aD} {l:List Value} {c:Nat→Value},hC cs=some l→(∀j x,cs[j]? =some x→bs w ro σ β N x (c j))→l.length=cs.length∧∀j x,l[j]? =some x→c j=x
 |[],l,c,h,_=>by simp[hC]at h;subst h;simp
 | .av (.v x)::r,l,c,h,hc=>by
  simp only[hC]at h
  cases ag:hC r with
  |none=>simp[ag]at h
  |some h2=>
   simp[ag]at h;subst h;obtain⟨aa,ae⟩:=zN (c:=fun j=>c (j+1)) ag fun j x af=>hc (j+1) x af;refine⟨by simp[aa],fun j y af=>?_⟩
   cases j with
   |zero=>simp at af;subst af;exact bs.val (hc 0 _ rfl)
   |succ j=>exact ae j y af
 | .av (.ptr _)::_,_,_,h,_=>by simp[hC]at h
 | .av (.aO _ _)::_,_,_,h,_=>by simp[hC]at h
 | .agg _::_,_,_,h,_=>by simp[hC]at h
 | .tuple _::_,_,_,h,_=>by simp[hC]at h
 | .ptr _ _::_,_,_,h,_=>by simp[hC]at h
 | .dA _ _::_,_,_,h,_=>by simp[hC]at h
 | .cW _ _ _::_,_,_,h,_=>by simp[hC]at h
 | .aO _::_,_,_,h,_=>by simp[hC]at h
 | .fn _ _ _::_,_,_,h,_=>by simp[hC]at h
 | .ref _::_,_,_,h,_=>by simp[hC]at h
 | .top::_,_,_,h,_=>by simp[hC]at h
theorem Rn{t:TypeId}{fs:List Field}(h:m2 P t=some fs){cs ds:List aD}{xs ys:List Value}{b:Bool}(nU:hC cs=some xs)(ml:hC ds=some ys)(ad:zM P 0 fs xs ys=some b)
 {w:World}{ro:Nat→Prop}{σ:Heap}{β:Nat→Value}{N:Nat}{X Y:Value}(hN:bs w ro σ β N (.agg cs) X)(o3:bs w ro σ β N (.agg ds) Y):
 ∃p q,X= .agg p∧Y= .agg q∧P.eqGuardType P.depth t=false∧(Op.equalIn 10000 t (.agg p) (.agg q)).run P w= .ok b w:=by
 unfold m2 at h
 split at h
 ·rename_i Dn hu
  split at h
  ·cases h
  ·rename_i hc
   simp only[Bool.or_eq_true,not_or,Bool.not_eq_true]at hc;simp only[Option.some.injEq]at h;subst h
   cases hN with
   |agg _ p ak J7=>
    cases o3 with
    |agg _ q aI J8=>
     refine⟨p,q,rfl,rfl,hc.2,?_⟩
     have qm:P.fieldsOf t=Dn:=by simp[Program.fieldsOf,hu]
     rw[run_equalIn_struct w 9999 t p q (by rw[qm];exact hu) hc.1,qm]
     obtain⟨aa,ae⟩:=zN (c:=fun j=>p.getD j undef) nU J7;obtain⟨au,aQ⟩:=zN (c:=fun j=>q.getD j undef) ml J8;refine Rm Dn.toList 0 xs ys p q b 9998 w ad (by omega) (fun j x af=>?_) (fun j x af=>?_)
     ·have bH:j<p.size:=by
       rcases Nat.lt_or_ge j xs.length with h|h
       ·omega
       ·rw[List.getElem?_eq_none h]at af;cases af
      have:=ae j x af
      simp[bH]at this;simp[bH,this]
     ·have bH:j<q.size:=by
       rcases Nat.lt_or_ge j ys.length with h|h
       ·omega
       ·rw[List.getElem?_eq_none h]at af;cases af
      have:=aQ j x af
      simp[bH]at this;simp[bH,this]
 ·rename_i n e hu
  split at h
  ·rename_i inf wV
   split at h
   ·cases h
   ·rename_i hc
    simp only[Bool.not_eq_true]at hc;simp only[Option.some.injEq]at h;subst h
    cases hN with
    |agg _ p ak J7=>
     cases o3 with
     |agg _ q aI J8=>
      refine⟨p,q,rfl,rfl,hc,?_⟩
      rw[run_equalIn_array w 9999 p q hu wV,←J5];obtain⟨aa,ae⟩:=zN (c:=fun j=>p.getD j undef) nU J7;obtain⟨au,aQ⟩:=zN (c:=fun j=>q.getD j undef) ml J8;refine Rm _ 0 xs ys p q b 9998 w ad (by omega) (fun j x af=>?_) (fun j x af=>?_)
      ·have bH:j<p.size:=by
        rcases Nat.lt_or_ge j xs.length with h|h
        ·omega
        ·rw[List.getElem?_eq_none h]at af;cases af
       have:=ae j x af
       simp[bH]at this;simp[bH,this]
      ·have bH:j<q.size:=by
        rcases Nat.lt_or_ge j ys.length with h|h
        ·omega
        ·rw[List.getElem?_eq_none h]at af;cases af
       have:=aQ j x af
       simp[bH]at this;simp[bH,this]
  ·cases h
 ·cases h
theorem Ro(cw ty:TypeId)(x y:Operand)(an:o.op= .binOp .eql cw x y ty){fs:List Field}(h:m2 P cw=some fs){cs ds:List aD}(hx:aJ G s x= .agg cs)(ax:aJ G s y= .agg ds)
 {xs ys:List Value}{b:Bool}(nU:hC cs=some xs)(ml:hC ds=some ys)(ad:zM P 0 fs xs ys=some b):cQ P G o s (.av (.v (.bool b))):=
 fun _ a w β ro ag=>by
  obtain⟨p,q,aa,ae,au,aQ⟩:=Rn h nU ml ad (hx ▸ ag.eval x) (ax ▸ ag.eval y);exact⟨.bool b,by simp only[execOp,an,aa,ae,Sem.run_bind,run_eqGuard_agg w .eql cw x y p q au,Result.andThen_ok,run_eql_struct,aQ,Sem.run_pure],.fE rfl⟩
theorem Rp(cw ty:TypeId)(x y:Operand)(an:o.op= .binOp .neq cw x y ty){fs:List Field}(h:m2 P cw=some fs){cs ds:List aD}(hx:aJ G s x= .agg cs)(ax:aJ G s y= .agg ds)
 {xs ys:List Value}{b:Bool}(nU:hC cs=some xs)(ml:hC ds=some ys)(ad:zM P 0 fs xs ys=some b):cQ P G o s (.av (.v (.bool (!b)))):=
 fun _ a w β ro ag=>by
  obtain⟨p,q,aa,ae,au,aQ⟩:=Rn h nU ml ad (hx ▸ ag.eval x) (ax ▸ ag.eval y);exact⟨.bool (!b),by simp only[execOp,an,aa,ae,Sem.run_bind,run_eqGuard_agg w .neq cw x y p q au,Result.andThen_ok,run_neq_struct,aQ,Sem.run_pure],.fE rfl⟩
theorem Rq(t:TypeId)(x:Operand)(an:o.op= .unOp .not t x){b:Bool}(hx:aJ G s x= .av (.v (.bool b))):cQ P G o s (.av (.v (.bool (!b)))):=
 fun _ a w β ro ag=>⟨.bool (!b),by simp[execOp,an,ag.ef hx,Op.unary],.fE rfl⟩
theorem Rr(t:TypeId)(x:Operand)(an:o.op= .unOp .neg t x){k:IntKind}{n:Int}(hx:aJ G s x= .av (.v (.int k n))):cQ P G o s (.av (.v (.int k (k.wrap (0-n))))):=
 fun _ a w β ro ag=>⟨.int k (k.wrap (0-n)),by simp[execOp,an,ag.ef hx,Op.unary,Op.intArith],.fE rfl⟩
theorem zO(c x y:Operand)(an:o.op= .pick c x y){b:Bool}(hc:aJ G s c= .av (.v (.bool b))){v:aD}(aw:(if b then aJ G s x else aJ G s y)=v):cQ P G o s v:=
 fun _ a w β ro ag=>⟨if b then a.eval x else a.eval y,by simp[execOp,an,ag.ef hc,asBool],by
  subst aw
  cases b
  ·simpa using ag.eval y
  ·simpa using ag.eval x⟩
theorem Rs(x:Operand)(i:Nat)(an:o.op= .extract x i){cs:List aD}(hx:aJ G s x= .tuple cs){v:aD}(aw:cs[i]? =some v):cQ P G o s v:=
 fun _ a w β ro ag=>by
  have h:=ag.eval x
  rw[hx]at h;generalize he:a.eval x=c at h
  cases h with
  |tuple _ c ai hc=>
   have bH:i<c.size:=by have:=(List.getElem?_eq_some_iff.1 aw).1;omega
   refine⟨c[i],?_,?_⟩
   ·simp[execOp,an,Instr.extract,he,bH]
   ·simpa[bH]using hc i v aw
end
end Go.aL
