/- The AV calculus, part A: values as trees, the relation between a symbolic state and a world, and how it is kept. Conditions: none; nothing here speaks of a particular program. -/
import Derived.Test.YtmkpmgfieagphaaGreatDoorJST0
import Derived.Laws.StructEq
import Derived.ChangeKeysEq
namespace Go.aM
open Go
theorem qd(a:Addr)(n:Nat):(a.add n).block=a.block:=by unfold Addr.add;split<;>rfl
theorem zf(a:Addr)(i j:Nat):(a.add i).add j=a.add (i+j):=by
 unfold Addr.add
 by_cases hi:i=0<;>by_cases ag:j=0<;>simp[hi,ag,Nat.add_assoc]
theorem addLit(b o n:Nat):(⟨b,o,none⟩:Addr).add n=⟨b,o+n,none⟩:=by
 unfold Addr.add;split
 ·rename_i h;subst h;rfl
 ·rfl
inductive aD where
 |av (x:a6)
 |agg (cs:List aD)
 |tuple (cs:List aD)
 |ptr (id off:Nat)
 |cW (id i off:Nat)
 |aO (id:Nat)
 |fn (f:Fn) (first captured:List aD)
 |ref (id:Nat)
 |dA (id n:Nat)
 |top
def Qj(agg:Bool)(n:Nat)(v:Value)(p:Nat→Value):Prop:=
 match agg with
 |true=>∃c:Array Value,v= .agg c∧c.size=n∧∀i,i<n→c.getD i undef=p i
 |false=>n=1∧v=p 0
inductive cP (w:World) (ro:Nat→Prop):a6→Value→Prop where
 |v (x:Value):x.oneCell'=true→cP w ro (.v x) x
 |ptr (cs:List a6) (a:Addr) (c:Nat→Value):(∀j x,cs[j]? =some x→ro a.block∧w.cell? (a.add j)=some (c j))→
  (∀j x,cs[j]? =some x→cP w ro x (c j))→cP w ro (.ptr cs) (.pointer (some a))
 |aO (n:Nat) (es:List (List a6)) (b:Option Addr) (cap:Nat) (c:Nat→Value):es.length≤cap→cap≤maxLen→(∀e∈es,e.length=n)→
  (0<es.length→∃a,b=some a∧∀j,j<es.length*n→ro a.block∧w.cell? (a.add j)=some (c j))→
  (∀j x,es.flatten[j]? =some x→cP w ro x (c j))→cP w ro (.aO n es) (.slice b es.length cap)
 |mp (agg:Bool) (ks:List Value) (vs:List (List a6)) (r:Nat) (es:Array MapEntry) (clock:Nat) (p:Nat→Nat→Value):ro r→w.heap[r]? =some (.map es clock)→es.size=ks.length→vs.length=ks.length→ks.Nodup→
  (∀j k cs,ks[j]? =some k→vs[j]? =some cs→∃e:MapEntry,es[j]? =some e∧e.key=k∧Qj agg cs.length e.val (p j))→
  (∀j cs i x,vs[j]? =some cs→cs[i]? =some x→cP w ro x (p j i))→cP w ro (.mp agg ks vs) (.map (some r))
 |li (i:bL) (l:List (fJ i)) (c:Value):cP w ro (.aO (bZ i) (l.map (cb i))) c→cP w ro (.li i l) c
 |ep (t:TypeId) (agg:Bool) (cs:List a6) (v:Value) (p:Nat→Value):Qj agg cs.length v p→(∀i x,cs[i]? =some x→cP w ro x (p i))→cP w ro (.ep t agg cs) (.iface t v)
theorem cP.one{w:World}{ro:Nat→Prop}{x:a6}{c:Value}(h:cP w ro x c):c.oneCell'=true:=by
 induction h with
 |v x hx=>exact hx
 |ptr=>rfl
 |aO=>rfl
 |mp=>rfl
 |li i l c h a1=>exact a1
 |ep=>rfl
theorem cP.keep{w w':World}{ro ro':Nat→Prop}{x:a6}{c:Value}(h:cP w ro x c)
 (hw: ∀b,ro b→w'.heap[b]? =w.heap[b]?)(cc: ∀b,ro b→ro' b):cP w' ro' x c:=by
 induction h with
 |v x hx=>exact .v x hx
 |ptr cs a c aa _ a1=>
  exact .ptr cs a c (fun j x ag=>⟨cc _ (aa j x ag).1,by
   rw[World.cell?_of_block (w:=w) (by rw[qd];exact hw _ (aa j x ag).1)];exact(aa j x ag).2⟩) a1
 |aO n es b cap c aa ae au aR _ a1=>
  refine .aO n es b cap c aa ae au (fun ak=>?_) a1
  obtain⟨a,ad,hc⟩:=aR ak
  exact⟨a,ad,fun j ag=>⟨cc _ (hc j ag).1,by
   rw[World.cell?_of_block (w:=w) (by rw[qd];exact hw _ (hc j ag).1)];exact(hc j ag).2⟩⟩
 |mp agg ks vs r es clock p aa ae au aR bA cB _ a1=>exact .mp agg ks vs r es clock p (cc _ aa) ((hw _ aa).trans ae) au aR bA cB a1
 |li i l c _ a1=>exact .li i l c a1
 |ep t agg cs v p aa _ a1=>exact .ep t agg cs v p aa a1
def b4:Value→Option Nat
 | .pointer (some a)=>some a.block
 | .slice (some a) _ cap=>if cap=0 then none else some a.block
 | .map (some r)=>some r
 |_=>none
structure wy where
 holds:(a6→Value→Prop)→Value→Obj→Prop
 mono: ∀(R rb:a6→Value→Prop) v o,(∀x c,R x c→rb x c)→holds R v o→holds rb v o
 view:Option a6
 Qk: ∀av,view=some av→∀(w:World) (ro ro':Nat→Prop) (v:Value) (o:Obj) (b:Nat),holds (cP w ro) v o→b4 v=some b→w.heap[b]? =some o→(∀x,ro x→ro' x)→ro' b→cP w ro' av v
inductive eh where
 |box (t:TypeId) (cs:List aD)
 |row (Ql:Bool) (t:TypeId) (n:Nat) (es:List (List a6))
 |bM (bN:wy)
def eh.live:eh→Bool
 | .box _ _=>true
 | .row Ql _ _ _=>!Ql
 | .bM _=>true
abbrev Heap:=List (Nat × eh)
def aE:Heap→Nat→Option eh
 |[],_=>none
 |(k,o)::r,id=>if k=id then some o else aE r id
def eO:Heap→Nat→eh→Heap
 |[],id,o=>[(id,o)]
 |(k,x)::r,id,o=>if k=id then(k,o)::r else(k,x)::eO r id o
def gl:Heap→Nat→Heap
 |[],_=>[]
 |(k,x)::r,id=>if k=id then gl r id else(k,x)::gl r id
theorem wz(h:Heap)(id:Nat)(o:eh)(k:Nat):aE (eO h id o) k=if id=k then some o else aE h k:=by
 induction h with
 |nil=>simp[eO,aE]
 |cons p r a1=>
  obtain⟨j,x⟩:=p
  by_cases ag:j=id
  ·subst ag
   by_cases aj:j=k<;>simp[eO,aE,aj]
  ·by_cases aj:j=k
   ·subst aj
    simp[eO,aE,ag,Ne.symm ag]
   ·simp[eO,aE,ag,aj,a1]
theorem zg(h:Heap)(id k:Nat):aE (gl h id) k=if id=k then none else aE h k:=by
 induction h with
 |nil=>simp[gl,aE]
 |cons p r a1=>
  obtain⟨j,x⟩:=p
  by_cases ag:j=id
  ·subst ag
   by_cases aj:j=k
   ·subst aj;simp[gl,a1]
   ·simp[gl,aE,aj,a1]
  ·by_cases aj:j=k
   ·subst aj
    simp[gl,aE,ag,Ne.symm ag]
   ·simp[gl,aE,ag,aj,a1]
def ib(w:World)(t:TypeId)(n:Nat)(v:Value)(len:Nat)(xs:List Value):Prop:=
 xs.length=len*n∧(((∃b,v= .slice b 0 0∧∀a,b=some a→a.block<w.heap.size)∧len=0)∨
  ∃g cap cur,v= .slice (some ⟨g,0,none⟩) len cap∧0<cap∧w.heap[g]? =some (.cells cur t (0,0))∧len≤cap∧cap≤maxLen∧cur.size=cap*n∧cur.toList.take (len*n)=xs)
inductive bs (w:World) (ro:Nat→Prop) (σ:Heap) (β:Nat→Value) (N:Nat):aD→Value→Prop where
 |av (x:a6) (c:Value):cP w ro x c→bs w ro σ β N (.av x) c
 |agg (cs:List aD) (c:Array Value):c.size=cs.length→(∀j x,cs[j]? =some x→bs w ro σ β N x (c.getD j undef))→bs w ro σ β N (.agg cs) (.agg c)
 |tuple (cs:List aD) (c:Array Value):c.size=cs.length→(∀j x,cs[j]? =some x→bs w ro σ β N x (c.getD j undef))→bs w ro σ β N (.tuple cs) (.tuple c)
 |ptr (id off:Nat) (c:Value):id<N→(∀t cs,aE σ id=some (.box t cs)→∃b,β id= .pointer (some ⟨b,0,none⟩)∧c= .pointer (some ⟨b,off,none⟩))→bs w ro σ β N (.ptr id off) c
 |dA (id n:Nat) (c:Value):id<N→(∀t cs,aE σ id=some (.box t cs)→∃b,β id= .pointer (some ⟨b,0,none⟩)∧c= .slice (some ⟨b,0,none⟩) n n)→bs w ro σ β N (.dA id n) c
 |cW (id i off:Nat) (c:Value):id<N→(∀z t n es,aE σ id=some (.row z t n es)→∃b l h1,β id= .slice (some ⟨b,0,none⟩) l h1∧c= .pointer (some ⟨b,i*n+off,none⟩))→bs w ro σ β N (.cW id i off) c
 |aO (id:Nat) (c:Value):id<N→(∀z t n es,aE σ id=some (.row z t n es)→c=β id)→bs w ro σ β N (.aO id) c
 |fn (f:Fn) (p q:List aD) (c d:Array Value):c.size=p.length→d.size=q.length→(∀j x,p[j]? =some x→bs w ro σ β N x (c.getD j undef))→
  (∀j x,q[j]? =some x→bs w ro σ β N x (d.getD j undef))→bs w ro σ β N (.fn f p q) (.func f c d)
 |ref (id:Nat) (c:Value):id<N→(∀bN,aE σ id=some (.bM bN)→c=β id)→bs w ro σ β N (.ref id) c
 |top (c:Value):bs w ro σ β N .top c
inductive k1 (w:World) (ro:Nat→Prop) (σ:Heap) (β:Nat→Value) (N:Nat) (id:Nat):eh→Prop where
 |box (t:TypeId) (cs:List aD) (b:Nat) (arr:Array Value):β id= .pointer (some ⟨b,0,none⟩)→w.heap[b]? =some (.cells arr t (0,0))→arr.size=cs.length→
  (∀j x,cs[j]? =some x→bs w ro σ β N x (arr.getD j undef))→k1 w ro σ β N id (.box t cs)
 |row (t:TypeId) (n:Nat) (es:List (List a6)) (xs:List Value):ib w t n (β id) es.length xs→(∀e∈es,e.length=n)→
  (∀j x,es.flatten[j]? =some x→cP w ro x (xs.getD j undef))→k1 w ro σ β N id (.row false t n es)
 |ga (t:TypeId) (n:Nat) (es:List (List a6)):cP w ro (.aO n es) (β id)→k1 w ro σ β N id (.row true t n es)
 |bM (bN:wy) (b:Nat) (o:Obj):b4 (β id)=some b→w.heap[b]? =some o→bN.holds (cP w ro) (β id) o→k1 w ro σ β N id (.bM bN)
theorem ib.hJ{w:World}{t:TypeId}{n:Nat}{v:Value}{len:Nat}{xs:List Value}(h:ib w t n v len xs){b:Nat}(ad:b4 v=some b):
 b<w.heap.size∧∃cap cur,v= .slice (some ⟨b,0,none⟩) len cap∧w.heap[b]? =some (.cells cur t (0,0)):=by
 rcases h.2 with⟨⟨c,rfl,_⟩,_⟩|⟨g,cap,cur,rfl,hc,ah,_⟩
 ·cases c<;>simp[b4]at ad
 ·have:cap≠0:=by omega
  simp[b4,this]at ad;subst ad;exact⟨(Array.getElem?_eq_some_iff.1 ah).1,cap,cur,rfl,ah⟩
theorem ib.keep{w w':World}{t:TypeId}{n:Nat}{v:Value}{len:Nat}{xs:List Value}(h:ib w t n v len xs)(hw: ∀b,b4 v=some b→w'.heap[b]? =w.heap[b]?)(bP:w.heap.size≤w'.heap.size):ib w' t n v len xs:=by
 refine⟨h.1,?_⟩
 rcases h.2 with⟨⟨b,aw,ad⟩,ar⟩|⟨g,cap,cur,aw,hc,ah,rest⟩
 ·exact .inl ⟨⟨b,aw,fun a aY=>Nat.lt_of_lt_of_le (ad a aY) bP⟩,ar⟩
 ·have:cap≠0:=by omega
  exact .inr ⟨g,cap,cur,aw,hc,(hw g (by rw[aw];simp[b4,this])).trans ah,rest⟩
theorem k1.hJ{w:World}{ro:Nat→Prop}{σ:Heap}{β:Nat→Value}{N id:Nat}{o:eh}(h:k1 w ro σ β N id o)(ar:o.live=true){b:Nat}(ad:b4 (β id)=some b):b<w.heap.size:=by
 cases h with
 |box t cs b' arr aa ae=>rw[aa]at ad;simp[b4]at ad;subst ad;exact(Array.getElem?_eq_some_iff.1 ae).1
 |row t n es xs aa=>exact(aa.hJ ad).1
 |ga=>simp[eh.live]at ar
 |bM bN b' o aa ae=>rw[aa]at ad;simp only[Option.some.injEq]at ad;subst ad;exact(Array.getElem?_eq_some_iff.1 ae).1
def Own(σ:Heap)(β:Nat→Value)(b:Nat):Prop:=∃id o,aE σ id=some o∧o.live=true∧b4 (β id)=some b
structure hb (w:World) (ro:Nat→Prop) (σ:Heap) (β:Nat→Value) (N:Nat):Prop where
 c7: ∀id o,aE σ id=some o→k1 w ro σ β N id o
 inj: ∀id gm o cz b,aE σ id=some o→aE σ gm=some cz→o.live=true→cz.live=true→b4 (β id)=some b→b4 (β gm)=some b→id=gm
 ff: ∀b,ro b→¬Own σ β b
 lt: ∀b,ro b→b<w.heap.size
abbrev a8:=Nat→Option (List a6)
def sf(w:World)(ro:Nat→Prop)(G:a8):Prop:=∀g cs,G g=some cs→cP w ro (.ptr cs) (.pointer (some ⟨g,0,none⟩))∧ro g∧∃arr t tL,w.heap[g]? =some (.cells arr t tL)∧arr.size=cs.length
structure Entry where
 w:World
 ro:Nat→Prop
 σ:Heap
 β:Nat→Value
 n:Nat
structure Trans (E:Entry) (w:World) (ro:Nat→Prop) (σ:Heap) (β:Nat→Value) (n:Nat):Prop where
 os:w.os=E.w.os
 tape:w.tape=E.w.tape
 output:w.output=E.w.output
 size:E.w.heap.size≤w.heap.size
 frame: ∀b,b<E.w.heap.size→¬Own E.σ E.β b→w.heap[b]? =E.w.heap[b]?
 jk: ∀b,ro b→E.ro b∨Own E.σ E.β b∨E.w.heap.size≤b
 j7: ∀b,E.ro b→ro b
 hg: ∀b,Own σ β b→Own E.σ E.β b∨E.w.heap.size≤b
 dK: ∀id,id<E.n→∀o,aE σ id=some o→aE E.σ id≠none∧β id=E.β id
 new: ∀id o,aE σ id=some o→id<n
 le:E.n≤n
structure aP where
 cQ:List aD
 heap:Heap
 next:Nat
 base:Nat
structure c5 (E:Entry) (G:a8) (s:aP) (a:Act) (w:World) (β:Nat→Value) (ro:Nat→Prop):Prop where
 defers:a.defers=[]
 size:a.tmps.size=s.cQ.length
 slot: ∀i x,s.cQ[i]? =some x→bs w ro s.heap β s.next x (a.tmps.getD i undef)
 heap:hb w ro s.heap β s.next
 ic:sf w ro G
 trans:Trans E w ro s.heap β s.next
 base:E.n≤s.base
def Rel(E:Entry)(G:a8)(s:aP)(a:Act)(w:World):Prop:=∃β ro,c5 E G s a w β ro
theorem bs.keep{w w':World}{ro ro':Nat→Prop}{σ eV:Heap}{β dL:Nat→Value}{N oS:Nat}{x:aD}{c:Value}(h:bs w ro σ β N x c)
 (hw: ∀b,ro b→w'.heap[b]? =w.heap[b]?)(cc: ∀b,ro b→ro' b)(iZ:N≤oS)
 (nR: ∀id t cs,aE eV id=some (.box t cs)→dL id=β id∧∃t cs,aE σ id=some (.box t cs))
 (c1: ∀id z t n es,aE eV id=some (.row z t n es)→dL id=β id∧∃z t es,aE σ id=some (.row z t n es))
 (nS: ∀id bN,aE eV id=some (.bM bN)→dL id=β id∧∃bN,aE σ id=some (.bM bN)):bs w' ro' eV dL oS x c:=by
 induction h with
 |av x c hx=>exact .av x c (hx.keep hw cc)
 |agg cs c ai _ a1=>exact .agg cs c ai a1
 |tuple cs c ai _ a1=>exact .tuple cs c ai a1
 |ptr id off c ar ak=>
  refine .ptr id off c (by omega) fun t cs ah=>?_
  obtain⟨ad,bz,cs',dV⟩:=nR id t cs ah;obtain⟨b,aa,ae⟩:=ak bz cs' dV;exact⟨b,ad.trans aa,ae⟩
 |dA id off c ar ak=>
  refine .dA id off c (by omega) fun t cs ah=>?_
  obtain⟨ad,bz,cs',dV⟩:=nR id t cs ah;obtain⟨b,aa,ae⟩:=ak bz cs' dV;exact⟨b,ad.trans aa,ae⟩
 |cW id i off c ar ak=>
  refine .cW id i off c (by omega) fun z t n es ah=>?_
  obtain⟨ad,iv,bz,dP,dV⟩:=c1 id z t n es ah;obtain⟨b,l,h1,aa,ae⟩:=ak iv bz n dP dV;exact⟨b,l,h1,ad.trans aa,ae⟩
 |aO id c ar ak=>
  refine .aO id c (by omega) fun z t n es ah=>?_
  obtain⟨ad,iv,bz,dP,dV⟩:=c1 id z t n es ah;rw[ad];exact ak iv bz n dP dV
 |fn f p q c d aa ae _ _ hh hj=>exact .fn f p q c d aa ae hh hj
 |ref id c ar ak=>
  refine .ref id c (by omega) fun bN ah=>?_
  obtain⟨ad,lE,dV⟩:=nS id bN ah;rw[ad];exact ak lE dV
 |top c=>exact .top c
theorem sf.keep{w w':World}{ro ro':Nat→Prop}{G:a8}(h:sf w ro G)
 (hw: ∀b,ro b→w'.heap[b]? =w.heap[b]?)(cc: ∀b,ro b→ro' b):sf w' ro' G:=fun g cs ah=>by
 obtain⟨aa,ae,arr,t,tL,au,aR⟩:=h g cs ah
 exact⟨aa.keep hw cc,cc g ae,arr,t,tL,(hw g ae).trans au,aR⟩
def aP.put(s:aP)(dst:Option Nat)(v:aD):aP:=
 match dst with
 |some d=>{s with cQ:=s.cQ.set d v}
 |none=>s
theorem c5.put{E:Entry}{G:a8}{s:aP}{a:Act}{w:World}{β:Nat→Value}{ro:Nat→Prop}(h:c5 E G s a w β ro)(dst:Option Nat)(v:aD)(c:Value)
 (aw:bs w ro s.heap β s.next v c):c5 E G (s.put dst v) (a.put dst c) w β ro:=by
 cases dst with
 |none=>exact h
 |some d=>
  refine⟨h.defers,by simpa[Act.put,aP.put]using h.size,fun i x hx=>?_,h.heap,h.ic,h.trans,h.base⟩
  simp only[aP.put,Act.put]at hx⊢;rw[List.getElem?_set]at hx
  have bP:=h.size
  by_cases Jw:d=i
  ·subst Jw
   simp only[if_true]at hx
   split at hx
   ·rename_i bI
    simp only[Option.some.injEq]at hx;subst hx
    have:d<a.tmps.size:=by omega
    simpa[this]using aw
   ·cases hx
  ·simp only[Jw,if_false]at hx
   have:=h.slot i x hx
   simpa[Array.getElem?_setIfInBounds_ne Jw]using this
end Go.aM
namespace Go.aM
open Go
def aL(G:a8)(s:aP):Operand→aD
 | .tmp t=>s.cQ.getD t .top
 | .const v=>if v.oneCell' then .av (.v v)else .top
 | .global g=>match G g with
  |some cs=>.av (.ptr cs)
  |none=>.top
 | .func f=>.fn (.func f) [] []
theorem c5.eval{E:Entry}{G:a8}{s:aP}{a:Act}{w:World}{β:Nat→Value}{ro:Nat→Prop}(h:c5 E G s a w β ro)(x:Operand):
 bs w ro s.heap β s.next (aL G s x) (a.eval x):=by
 cases x with
 |tmp t=>
  simp only[aL,Act.eval]
  cases aI:s.cQ[t]? with
  |none=>simp only[List.getD,aI];exact .top _
  |some v=>simp only[List.getD,aI];exact h.slot t v aI
 |const v=>
  simp only[aL,Act.eval]
  split
  ·exact .av _ _ (.v _ (by assumption))
  ·exact .top _
 |global g=>
  simp only[aL,Act.eval]
  split
  ·exact .av _ _ (h.ic g _ (by assumption)).1
  ·exact .top _
 |func f=>exact .fn _ _ _ _ _ rfl rfl (by simp) (by simp)
def dQ(P:Program)(G:a8)(o:Oper)(s bq:aP):Prop:=
 ∀E a w,Rel E G s a w→∀(K:Act→World→Prop) (Q:Exit→Act→World→Prop),(∀bc w',Rel E G bq bc w'→K bc w')→o.wp P a w K Q
def gb(w w':World):Prop:=∀b,b<w.heap.size→w'.heap[b]? =w.heap[b]?
def mg(P:Program)(G:a8)(o:Oper)(s bq:aP):Prop:=
 ∀E a w,Rel E G s a w→∀(K:Act→World→Prop) (Q:Exit→Act→World→Prop),(∀bc w',Rel E G bq bc w'→gb w w'→K bc w')→o.wp P a w K Q
theorem mg.op{P:Program}{G:a8}{o:Oper}{s bq:aP}(h:mg P G o s bq):dQ P G o s bq:=fun E a w af K Q hK=>h E a w af K Q fun bc w' dW _=>hK bc w' dW
section
variable {P:Program} {G:a8} {o:Oper} {s:aP}
theorem dQ.value{v:aD}(h: ∀E a w β ro,c5 E G s a w β ro→∃c,(execOp a.eval o).run P w= .ok (.value c) w∧bs w ro s.heap β s.next v c):
 dQ P G o s (s.put o.dst v):=by
 intro E a w ⟨β,ro,af⟩ K Q hK
 obtain⟨c,cp,aw⟩:=h E a w β ro af
 unfold Oper.wp
 rw[cp]
 exact hK _ _ ⟨β,ro,af.put o.dst v c aw⟩
abbrev cN(P:Program)(G:a8)(o:Oper)(s:aP)(v:aD):Prop:=
 ∀E a w β ro,c5 E G s a w β ro→∃c,(execOp a.eval o).run P w= .ok (.value c) w∧bs w ro s.heap β s.next v c
theorem cN.step{v:aD}(h:cN P G o s v):dQ P G o s (s.put o.dst v):=.value h
theorem cN.Qm{v:aD}(h:cN P G o s v):mg P G o s (s.put o.dst v):=by
 intro E a w ⟨β,ro,af⟩ K Q hK
 obtain⟨c,cp,aw⟩:=h E a w β ro af
 unfold Oper.wp
 rw[cp]
 exact hK _ _ ⟨β,ro,af.put o.dst v c aw⟩ fun _ _=>rfl
theorem Qn(x:Operand)(an:o.op= .move x):cN P G o s (aL G s x):=
 fun _ a w _ _ af=>⟨a.eval x,by simp[execOp,an],af.eval x⟩
theorem Qo(x:Operand)(an:o.op= .assign x):cN P G o s (aL G s x):=
 fun _ a w _ _ af=>⟨a.eval x,by simp[execOp,an],af.eval x⟩
def fl(σ:Heap):aD→Option (List aD)
 | .av (.ptr cs)=>some (cs.map .av)
 | .ptr id off=>match aE σ id with
  |some (.box _ cs)=>some (cs.drop off)
  |_=>none
 | .cW id i off=>match aE σ id with
  |some (.row false _ _ es)=>match es[i]? with
   |some e=>some ((e.drop off).map .av)
   |none=>none
  |_=>none
 |_=>none
theorem re{α:Type}{n:Nat}: ∀{es:List (List α)},(∀e∈es,e.length=n)→∀{i:Nat} {e:List α},es[i]? =some e→∀j,j<n→es.flatten[i*n+j]? =e[j]?
 |[],_,i,e,h,_,_=>by simp at h
 |x::r,hn,i,e,h,j,ag=>by
  have hx:x.length=n:=hn x (by simp)
  cases i with
  |zero=>
   simp at h;subst h;simp only[List.flatten_cons,Nat.zero_mul,Nat.zero_add];rw[List.getElem?_append_left (by omega)]
  |succ i=>
   simp at h
   have a1:=re (es:=r) (fun e he=>hn e (by simp[he])) h j ag
   simp only[List.flatten_cons];rw[List.getElem?_append_right (by rw[Nat.succ_mul];omega),←a1]
   congr 1
   rw[Nat.succ_mul];omega
theorem j8{α:Type}{n:Nat}: ∀{es:List (List α)},(∀e∈es,e.length=n)→es.flatten.length=es.length*n
 |[],_=>by simp
 |x::r,hn=>by
  simp only[List.flatten_cons,List.length_append,List.length_cons,Nat.succ_mul];rw[j8 (es:=r) (fun e he=>hn e (by simp[he])),hn x (by simp)]
  omega
theorem bs.one{w:World}{ro:Nat→Prop}{σ:Heap}{β:Nat→Value}{N:Nat}{x:a6}{c:Value}(h:bs w ro σ β N (.av x) c):c.oneCell'=true:=by
 cases h with
 |av _ _ h=>exact h.one
theorem wA{w:World}{ro:Nat→Prop}{σ:Heap}{β:Nat→Value}{N:Nat}(bb:hb w ro σ β N){p:aD}{c:Value}{cs:List aD}(ak:fl σ p=some cs)(hc:bs w ro σ β N p c)
 (b5:cs≠[]): ∃a,c= .pointer (some a)∧∃f:Nat→Value,∀j x,cs[j]? =some x→w.cell? (a.add j)=some (f j)∧bs w ro σ β N x (f j):=by
 cases hc with
 |av x c hx=>
  cases hx with
  |v x=>simp[fl]at ak
  |ptr cs' a f aa ae=>
   simp only[fl,Option.some.injEq]at ak;subst ak;refine⟨a,rfl,f,fun j x ag=>?_⟩
   rw[List.getElem?_map]at ag
   cases oT:cs'[j]? with
   |none=>simp[oT]at ag
   |some y=>
    simp[oT]at ag;subst ag;exact⟨(aa j y oT).2,.av _ _ (ae j y oT)⟩
  |aO=>simp[fl]at ak
  |mp=>simp[fl]at ak
  |ep=>simp[fl]at ak
  |li=>simp[fl]at ak
 |ptr id off c bI sI=>
  simp only[fl]at ak
  cases an:aE σ id with
  |none=>simp[an]at ak
  |some ie=>
   cases ie with
   |row=>simp[an]at ak
   |bM=>simp[an]at ak
   |box t cs'=>
    simp only[an,Option.some.injEq]at ak;subst ak;obtain⟨b,ad,rfl⟩:=sI t cs' an
    have dk:=bb.c7 id _ an
    cases dk with
    |box _ _ b' arr gz ah bP eW=>
     rw[ad]at gz;simp only[Value.pointer.injEq,Option.some.injEq,Addr.mk.injEq,and_true]at gz;subst gz;refine⟨_,rfl,fun j=>arr.getD (off+j) undef,fun j x ag=>?_⟩
     rw[List.getElem?_drop]at ag
     have bI:off+j<cs'.length:=by
      rcases Nat.lt_or_ge (off+j) cs'.length with h|h
      ·exact h
      ·rw[List.getElem?_eq_none h]at ag;cases ag
     refine⟨?_,eW _ _ ag⟩
     rw[addLit,cell_of_row w b (off+j) arr t (0,0) ah]
     have:off+j<arr.size:=by omega
     simp[this]
 |cW id i off c bI sI=>
  simp only[fl]at ak
  cases an:aE σ id with
  |none=>simp[an]at ak
  |some ie=>
   cases ie with
   |box=>simp[an]at ak
   |bM=>simp[an]at ak
   |row z t n es=>
    cases z with
    |true=>simp[an]at ak
    |false=>
     simp only[an]at ak
     cases m4:es[i]? with
     |none=>simp[m4]at ak
     |some e=>
      simp only[m4,Option.some.injEq]at ak;subst ak;obtain⟨b,l,h1,ad,rfl⟩:=sI false t n es an
      have dk:=bb.c7 id _ an
      cases dk with
      |row _ _ _ xs hA hn eW=>
       rw[ad]at hA;obtain⟨CU,oU⟩:=hA
       rcases oU with⟨⟨_,h,_⟩,aQ⟩|⟨g,cap,cur,aw,_,ah,hle,ig,dI,lF⟩
       ·have:=(List.getElem?_eq_some_iff.1 m4).1;omega
       ·simp only[Value.slice.injEq,Option.some.injEq,Addr.mk.injEq,and_true]at aw
        obtain⟨rfl,_,_⟩:=aw;refine⟨_,rfl,fun j=>xs.getD (i*n+(off+j)) undef,fun j x ag=>?_⟩
        rw[List.getElem?_map]at ag
        cases oT:(e.drop off)[j]? with
        |none=>simp[oT]at ag
        |some y=>
         simp[oT]at ag;subst ag;rw[List.getElem?_drop]at oT
         have nT:e.length=n:=hn e (List.mem_of_getElem? m4)
         have mU:off+j<n:=by
          rcases Nat.lt_or_ge (off+j) e.length with h|h
          ·omega
          ·rw[List.getElem?_eq_none h]at oT;cases oT
         have mh:es.flatten[i*n+(off+j)]? =some y:=by rw[re hn m4 _ mU];exact oT
         refine⟨?_,.av _ _ (eW _ _ mh)⟩
         have jO:i*n+(off+j)<xs.length:=by
          have aa:i*n+(off+j)<es.flatten.length:=by
           rcases Nat.lt_or_ge (i*n+(off+j)) es.flatten.length with h|h
           ·exact h
           ·rw[List.getElem?_eq_none h]at mh;cases mh
          rw[j8 hn]at aa
          have ae:=CU
          omega
         rw[addLit,Nat.add_assoc,cell_of_row w b _ cur t (0,0) ah]
         have hx:xs[i*n+(off+j)]? =cur[i*n+(off+j)]? :=by
          rw[←lF,List.getElem?_take]
          have ae:=CU
          rw[if_pos (by omega)]
          simp
         rw[←hx];simp[List.getD,List.getElem?_eq_getElem jO]
 |agg=>simp[fl]at ak
 |tuple=>simp[fl]at ak
 |aO=>simp[fl]at ak
 |fn=>simp[fl]at ak
 |ref=>simp[fl]at ak
 |dA=>simp[fl]at ak
 |top=>simp[fl]at ak
def mi(P:Program)(t:TypeId):Option Nat:=
 match P.underlying t with
 |some (.struct _)|some (.array _ _)=>(P.info? t).map (·.size)
 |_=>none
def scalar(P:Program)(t:TypeId):Bool:=
 match P.underlying t with
 |some (.struct _)|some (.array _ _)|none=>false
 |_=>true
theorem CV{t:TypeId}{n:Nat}(h:mi P t=some n)(w:World):(isAgg t).run P w= .ok true w∧(sizeOf t).run P w= .ok n w:=by
 unfold mi at h
 cases hu:P.underlying t with
 |none=>simp[hu]at h
 |some d=>
  cases hi:P.info? t with
  |none=>cases d<;>simp[hu,hi]at h
  |some i=>
   cases d<;>simp[hu,hi]at h
   all_goals
    subst h;exact⟨by simp[isAgg,run_underlying hu],by simp[sizeOf,typeInfo,hi]⟩
theorem zh{t:TypeId}(h:scalar P t=true)(w:World):(isAgg t).run P w= .ok false w:=by
 unfold scalar at h
 cases hu:P.underlying t with
 |none=>simp[hu]at h
 |some d=>cases d<;>simp[hu]at h<;>simp[isAgg,run_underlying hu]
theorem Qp(t:TypeId)(x:Operand)(an:o.op= .load t x){n:Nat}(aI:mi P t=some n){cs:List aD}(ak:fl s.heap (aL G s x)=some cs)(hn:n≤cs.length)(aH:0<n):
 cN P G o s (.agg (cs.take n)):=
 fun _ a w β ro af=>by
  obtain⟨cY,hc,f,hf⟩:=wA af.heap ak (af.eval x) (by intro h;subst h;simp at hn;omega)
  obtain⟨aa,ae⟩:=CV aI w
  have ar:=run_loadCells (P:=P) w cY n f (fun j ag=>(hf j (cs[j]'(by omega)) (by simp)).1)
  refine⟨.agg ((List.range n).map f).toArray,?_,.agg _ _ (by simp;omega) fun j y ag=>?_⟩
  ·simp[execOp,an,hc,Instr.loadAt,Instr.sureAddr,loadVar,aa,ae,ar]
  ·rw[List.getElem?_take]at ag
   split at ag
   ·have:=(hf j y ag).2
    rename_i mU;simpa[mU]using this
   ·cases ag
theorem Jx(t:TypeId)(x:Operand)(an:o.op= .load t x)(aI:scalar P t=true){y:aD}{cs:List aD}(ak:fl s.heap (aL G s x)=some (y::cs)):
 cN P G o s y:=
 fun _ a w β ro af=>by
  obtain⟨cY,hc,f,hf⟩:=wA af.heap ak (af.eval x) (by simp)
  have aa:=zh aI w
  obtain⟨k2,dB⟩:=hf 0 y rfl;rw[show cY.add 0=cY from by simp[Addr.add]]at k2
  exact⟨f 0,by simp[execOp,an,hc,Instr.loadAt,Instr.sureAddr,loadVar,aa,run_load,k2],dB⟩
def sJ(P:Program)(t:TypeId)(f:Nat):Option Nat:=
 match P.underlying t with
 |some (.struct fs)=>match fs[f]? with
  |some fd=>match P.info? fd.type with
   |some i=>if i.size=0 then none else some fd.offset
   |none=>none
  |none=>none
 |_=>none
def iK(k:Nat):aD→Option aD
 | .av (.ptr cs)=>some (.av (.ptr (cs.drop k)))
 | .ptr id off=>some (.ptr id (off+k))
 | .cW id i off=>some (.cW id i (off+k))
 |_=>none
theorem Qq{w:World}{ro:Nat→Prop}{σ:Heap}{β:Nat→Value}{N:Nat}{p q:aD}{c:Value}{cs:List aD}{k:Nat}(ai:iK k p=some q)(ak:fl σ p=some cs)(hc:bs w ro σ β N p c):
 ∃a,c= .pointer (some a)∧bs w ro σ β N q (.pointer (some (a.add k))):=by
 cases hc with
 |av x c hx=>
  cases hx with
  |v x=>simp[iK]at ai
  |ptr cs' a f aa ae=>
   simp only[iK,Option.some.injEq]at ai;subst ai;refine⟨a,rfl,.av _ _ (.ptr _ _ (fun j=>f (k+j)) (fun j x ag=>?_) (fun j x ag=>?_))⟩
   ·rw[List.getElem?_drop]at ag
    rw[qd,zf];exact aa _ _ ag
   ·rw[List.getElem?_drop]at ag
    exact ae _ _ ag
  |aO=>simp[iK]at ai
  |mp=>simp[iK]at ai
  |ep=>simp[iK]at ai
  |li=>simp[iK]at ai
 |ptr id off c bI sI=>
  simp only[iK,Option.some.injEq]at ai;subst ai;simp only[fl]at ak
  split at ak
  ·rename_i t cs' an
   obtain⟨b,ad,rfl⟩:=sI t cs' an;refine⟨_,rfl,.ptr _ _ _ bI fun bz ziu mj=>⟨b,ad,by rw[addLit]⟩⟩
  ·cases ak
 |cW id i off c bI sI=>
  simp only[iK,Option.some.injEq]at ai;subst ai;simp only[fl]at ak
  split at ak
  ·rename_i t n es an
   obtain⟨b,l,h1,ad,rfl⟩:=sI false t n es an;refine⟨_,rfl,.cW _ _ _ _ bI fun iv bz cJ dP mj=>⟨b,l,h1,ad,?_⟩⟩
   rw[an]at mj;simp only[Option.some.injEq,eh.row.injEq]at mj;obtain⟨_,_,rfl,_⟩:=mj;rw[addLit,Nat.add_assoc]
  ·cases ak
 |agg=>simp[iK]at ai
 |tuple=>simp[iK]at ai
 |aO=>simp[iK]at ai
 |fn=>simp[iK]at ai
 |ref=>simp[iK]at ai
 |dA=>simp[iK]at ai
 |top=>simp[iK]at ai
theorem Qr{t f k:Nat}(h:sJ P t f=some k)(a:Addr)(w:World):(Instr.fieldAt t (.pointer (some a)) f).run P w= .ok (.pointer (some (a.add k))) w:=by
 unfold sJ at h
 split at h
 ·rename_i fs hu
  split at h
  ·rename_i fd hf
   split at h
   ·rename_i i hi
    split at h
    ·cases h
    ·rename_i aQ
     simp only[Option.some.injEq]at h;subst h;simp[Instr.fieldAt,run_underlying hu,hf,Instr.sureAddr,fieldPlace,sizeOf,typeInfo,hi,aQ]
   ·cases h
  ·cases h
 ·cases h
def jP(σ:Heap):aD→Bool
 | .av (.ptr _)=>true
 | .ptr id _=>match aE σ id with
  |some (.box _ _)=>true
  |_=>false
 | .cW id _ _=>match aE σ id with
  |some (.row _ _ _ _)=>true
  |_=>false
 |_=>false
def rf(k:Nat):aD→aD
 | .av (.ptr cs)=>.av (.ptr (cs.drop k))
 | .ptr id off=>.ptr id (off+k)
 | .cW id i off=>.cW id i (off+k)
 |x=>x
theorem zi{w:World}{ro:Nat→Prop}{σ:Heap}{β:Nat→Value}{N:Nat}{x:aD}{c:Value}(hx:jP σ x=true)(h:bs w ro σ β N x c): ∃a,c= .pointer (some a)∧∀k,bs w ro σ β N (rf k x) (.pointer (some (a.add k))):=by
 cases h with
 |av x c af=>
  cases af with
  |ptr cs a f aa ae=>
   refine⟨a,rfl,fun k=>.av _ _ (.ptr _ _ (fun j=>f (k+j)) (fun j x ag=>?_) (fun j x ag=>?_))⟩
   ·rw[List.getElem?_drop]at ag
    rw[qd,zf];exact aa _ _ ag
   ·rw[List.getElem?_drop]at ag
    exact ae _ _ ag
  |v=>simp[jP]at hx
  |aO=>simp[jP]at hx
  |mp=>simp[jP]at hx
  |ep=>simp[jP]at hx
  |li=>simp[jP]at hx
 |ptr id off c ar ak=>
  simp only[jP]at hx
  split at hx
  ·rename_i t cs ah
   obtain⟨b,ad,rfl⟩:=ak t cs ah;refine⟨_,rfl,fun k=>.ptr id (off+k) _ ar fun bz cs' dV=>?_⟩
   obtain⟨b',gz,zj⟩:=ak bz cs' dV;rw[ad]at gz;simp only[Value.pointer.injEq,Option.some.injEq,Addr.mk.injEq,and_true]at gz;subst gz;exact⟨b,ad,by rw[addLit]⟩
  ·cases hx
 |cW id i off c ar ak=>
  simp only[jP]at hx
  split at hx
  ·rename_i z t n es ah
   obtain⟨b,l,h1,ad,rfl⟩:=ak z t n es ah;refine⟨_,rfl,fun k=>.cW id i (off+k) _ ar fun iv bz cJ dP dV=>?_⟩
   rw[ah]at dV;simp only[Option.some.injEq,eh.row.injEq]at dV;obtain⟨_,_,rfl,_⟩:=dV;exact⟨b,l,h1,ad,by rw[addLit,Nat.add_assoc]⟩
  ·cases hx
 |_=>simp[jP]at hx
theorem Qs(t:TypeId)(x:Operand)(f:Nat)(an:o.op= .fieldAddr t x f){k:Nat}(aj:sJ P t f=some k)(ak:jP s.heap (aL G s x)=true):cN P G o s (rf k (aL G s x)):=
 fun _ a w β ro af=>by
  obtain⟨cY,hc,dB⟩:=zi ak (af.eval x);exact⟨_,by simp[execOp,an,hc,Qr aj],dB k⟩
theorem Qt(x:Operand)(an:o.op= .nilCheck x)(ak:jP s.heap (aL G s x)=true):cN P G o s (aL G s x):=
 fun _ a w β ro af=>by
  obtain⟨cY,hc,_⟩:=zi ak (af.eval x);exact⟨_,by simp[execOp,an,hc],hc ▸ af.eval x⟩
end
end Go.aM
namespace Go.aM
open Go
def gS(β:Nat→Value)(id:Nat)(v:Value):Nat→Value:=fun k=>if k=id then v else β k
theorem dR(β:Nat→Value)(id:Nat)(v:Value):gS β id v id=v:=by simp[gS]
theorem c2(β:Nat→Value){id k:Nat}(v:Value)(h:k≠id):gS β id v k=β k:=by simp[gS,h]
section
variable {E:Entry} {G:a8} {s:aP} {a:Act} {w w':World} {β:Nat→Value} {ro:Nat→Prop}
theorem k1.keep{w w':World}{ro ro':Nat→Prop}{σ eV:Heap}{β dL:Nat→Value}{N oS:Nat}{id:Nat}{o:eh}(h:k1 w ro σ β N id o)
 (hw: ∀b,ro b→w'.heap[b]? =w.heap[b]?)(cc: ∀b,ro b→ro' b)(iZ:N≤oS)(bP:w.heap.size≤w'.heap.size)(bd:dL id=β id)(gH:o.live=true→∀b,b4 (β id)=some b→w'.heap[b]? =w.heap[b]?)
 (nR: ∀id t cs,aE eV id=some (.box t cs)→dL id=β id∧∃t cs,aE σ id=some (.box t cs))
 (c1: ∀id z t n es,aE eV id=some (.row z t n es)→dL id=β id∧∃z t es,aE σ id=some (.row z t n es))
 (nS: ∀id bN,aE eV id=some (.bM bN)→dL id=β id∧∃bN,aE σ id=some (.bM bN)):k1 w' ro' eV dL oS id o:=by
 cases h with
 |box t cs b arr aa ae au aR=>
  exact .box t cs b arr (bd.trans aa) ((gH rfl b (by rw[aa];rfl)).trans ae) au fun j x ag=>(aR j x ag).keep hw cc iZ nR c1 nS
 |row t n es xs aa ae au=>
  exact .row t n es xs (by rw[bd];exact aa.keep (fun b ad=>gH rfl b ad) bP) ae fun j x ag=>(au j x ag).keep hw cc
 |ga t n es aa=>exact .ga t n es (by rw[bd];exact aa.keep hw cc)
 |bM bN b o aa ae au=>exact .bM bN b o (by rw[bd];exact aa) ((gH rfl b aa).trans ae) (by rw[bd];exact bN.mono _ _ _ _ (fun x c h=>h.keep hw cc) au)
theorem c5.new(h:c5 E G s a w β ro)(id:Nat)(bd:aE s.heap id=none)(ad:s.base≤id)(bI:s.next≤id)(o:eh)(val:Value)
 (oV:w'.os=w.os)(oW:w'.tape=w.tape)(kE:w'.output=w.output)(bP:w.heap.size≤w'.heap.size)(hw: ∀b,b<w.heap.size→w'.heap[b]? =w.heap[b]?)
 (gH: ∀b,b4 val=some b→w.heap.size≤b)(_hlive:o.live=true)
 (dk:k1 w' ro ((id,o)::s.heap) (gS β id val) (id+1) id o):c5 E G {s with heap:=(id,o)::s.heap,next:=id+1} a w' (gS β id val) ro:=by
 have cc: ∀b,ro b→w'.heap[b]? =w.heap[b]? :=fun b af=>hw b (h.heap.lt b af)
 have ah: ∀k,k≠id→aE ((id,o)::s.heap) k=aE s.heap k:=fun k aj=>by simp[aE,Ne.symm aj]
 have uB:aE ((id,o)::s.heap) id=some o:=by simp[aE]
 have Jy: ∀k p b,aE s.heap k=some p→p.live=true→b4 (β k)=some b→b<w.heap.size:=fun k p b aj ak bg=>(h.heap.c7 k p aj).hJ ak bg
 have key: ∀x c,bs w ro s.heap β s.next x c→bs w' ro ((id,o)::s.heap) (gS β id val) (id+1) x c:=by
  intro x c hx
  induction hx with
  |av x c hx=>exact .av x c (hx.keep cc fun _ h=>h)
  |agg cs c ai _ a1=>exact .agg cs c ai a1
  |tuple cs c ai _ a1=>exact .tuple cs c ai a1
  |ptr k off c ar ak=>
   have aj:k≠id:=by omega
   exact .ptr k off c (by omega) fun t cs bo=>by rw[c2 _ _ aj];rw[ah k aj]at bo;exact ak t cs bo
  |dA k off c ar ak=>
   have aj:k≠id:=by omega
   exact .dA k off c (by omega) fun t cs bo=>by rw[c2 _ _ aj];rw[ah k aj]at bo;exact ak t cs bo
  |cW k i off c ar ak=>
   have aj:k≠id:=by omega
   exact .cW k i off c (by omega) fun z t n es bo=>by rw[c2 _ _ aj];rw[ah k aj]at bo;exact ak z t n es bo
  |aO k c ar ak=>
   have aj:k≠id:=by omega
   exact .aO k c (by omega) fun z t n es bo=>by rw[c2 _ _ aj];rw[ah k aj]at bo;exact ak z t n es bo
  |fn f p q c d aa ae _ _ hh hj=>exact .fn f p q c d aa ae hh hj
  |ref k c ar ak=>
   have aj:k≠id:=by omega
   exact .ref k c (by omega) fun bN bo=>by rw[c2 _ _ aj];rw[ah k aj]at bo;exact ak bN bo
  |top c=>exact .top c
 refine⟨h.defers,h.size,fun i x hx=>key _ _ (h.slot i x hx),⟨fun k p aj=>?_,fun k bk p fV b aj eA ak gI bg er=>?_,fun b af=>?_,fun b af=>Nat.lt_of_lt_of_le (h.heap.lt b af) bP⟩,
  h.ic.keep cc fun _ h=>h,?_,h.base⟩
 ·by_cases bu:k=id
  ·subst bu
   rw[uB]at aj;simp only[Option.some.injEq]at aj;subst aj;exact dk
  ·rw[ah k bu]at aj
   have gJ:=h.heap.c7 k p aj
   cases gJ with
   |box t cs b arr aa ae au aR=>
    have hL:=Jy k _ b aj rfl (by rw[aa];rfl)
    exact .box t cs b arr (by rw[c2 _ _ bu];exact aa) ((hw b hL).trans ae) au fun j x ag=>key _ _ (aR j x ag)
   |row t n es xs aa ae au=>
    exact .row t n es xs (by rw[c2 _ _ bu];exact aa.keep (fun b ad=>hw b (aa.hJ ad).1) bP) ae fun j x ag=>(au j x ag).keep cc fun _ h=>h
   |ga t n es aa=>exact .ga t n es (by rw[c2 _ _ bu];exact aa.keep cc fun _ h=>h)
   |bM bN b o aa ae au=>exact .bM bN b o (by rw[c2 _ _ bu];exact aa) ((hw b (Array.getElem?_eq_some_iff.1 ae).1).trans ae) (by rw[c2 _ _ bu];exact bN.mono _ _ _ _ (fun x c h=>h.keep cc fun _ h=>h) au)
 ·by_cases bu:k=id
  ·by_cases gK:bk=id
   ·rw[bu,gK]
   ·subst bu
    rw[dR]at bg;rw[c2 _ _ gK]at er;rw[ah bk gK]at eA
    have aa:=gH b bg
    have ae:=Jy bk fV b eA gI er
    omega
  ·by_cases gK:bk=id
   ·subst gK
    rw[dR]at er;rw[c2 _ _ bu]at bg;rw[ah k bu]at aj
    have aa:=gH b er
    have ae:=Jy k p b aj ak bg
    omega
   ·rw[c2 _ _ bu]at bg
    rw[c2 _ _ gK]at er;rw[ah k bu]at aj;rw[ah bk gK]at eA;exact h.heap.inj k bk p fV b aj eA ak gI bg er
 ·rintro⟨k,p,aj,ak,bg⟩
  by_cases bu:k=id
  ·subst bu
   rw[dR]at bg
   have aa:=gH b bg
   have ae:=h.heap.lt b af
   omega
  ·rw[c2 _ _ bu]at bg
   rw[ah k bu]at aj;exact h.heap.ff b af ⟨k,p,aj,ak,bg⟩
 ·have t:=h.trans
  refine⟨oV.trans t.os,oW.trans t.tape,kE.trans t.output,Nat.le_trans t.size bP,fun b hL gd=>?_,t.jk,t.j7,?_,fun k aj p bo=>?_,fun k p bo=>?_,Nat.le_trans h.base (Nat.le_trans ad (Nat.le_succ _))⟩
  ·rw[hw b (Nat.lt_of_lt_of_le hL t.size)]
   exact t.frame b hL gd
  ·rintro b ⟨k,p,aj,ak,bg⟩
   by_cases bu:k=id
   ·subst bu
    rw[dR]at bg;exact .inr (Nat.le_trans t.size (gH b bg))
   ·rw[c2 _ _ bu]at bg
    rw[ah k bu]at aj;exact t.hg b ⟨k,p,aj,ak,bg⟩
  ·have bu:k≠id:=by have:=h.base;omega
   rw[ah k bu]at bo;rw[c2 _ _ bu];exact t.dK k aj p bo
  ·by_cases bu:k=id
   ·subst bu;exact Nat.lt_succ_self _
   ·rw[ah k bu]at bo
    have:=t.new k p bo
    show k<id+1;omega
theorem c5.write(h:c5 E G s a w β ro)(id:Nat)(o cz:eh)(bd:aE s.heap id=some o)(wB:o.live=true)(ziv:cz.live=true)
 (zk:(∃t cs cs',o= .box t cs∧cz= .box t cs')∨(∃t n es dP,o= .row false t n es∧cz= .row false t n dP)∨(∃bN lE,o= .bM bN∧cz= .bM lE))
 (oV:w'.os=w.os)(oW:w'.tape=w.tape)(kE:w'.output=w.output)(bP:w.heap.size≤w'.heap.size)(hw: ∀b,b<w.heap.size→b4 (β id)≠some b→w'.heap[b]? =w.heap[b]?)
 (dk:k1 w' ro (eO s.heap id cz) β s.next id cz):c5 E G {s with heap:=eO s.heap id cz} a w' β ro:=by
 have cc: ∀b,ro b→w'.heap[b]? =w.heap[b]? :=fun b af=>hw b (h.heap.lt b af) fun ad=>h.heap.ff b af ⟨id,o,bd,wB,ad⟩
 have ah:=wz s.heap id cz
 have own: ∀b,Own (eO s.heap id cz) β b→Own s.heap β b:=by
  rintro b ⟨k,p,aj,ak,bg⟩
  rw[ah k]at aj
  by_cases bu:id=k
  ·subst bu;exact⟨id,o,bd,wB,bg⟩
  ·rw[if_neg bu]at aj;exact⟨k,p,aj,ak,bg⟩
 have nU: ∀k p b,aE s.heap k=some p→p.live=true→b4 (β k)=some b→b<w.heap.size:=fun k p b aj ak bg=>(h.heap.c7 k p aj).hJ ak bg
 have nR: ∀k t cs,aE (eO s.heap id cz) k=some (.box t cs)→β k=β k∧∃t cs,aE s.heap k=some (.box t cs):=by
  intro k t cs aj;rw[ah k]at aj
  by_cases bu:id=k
  ·subst bu
   rw[if_pos rfl]at aj;simp only[Option.some.injEq]at aj
   rcases zk with⟨t1,aU,da,rfl,rfl⟩|⟨t1,n,aC,bf,rfl,rfl⟩|⟨_,_,rfl,rfl⟩
   ·exact⟨rfl,t1,aU,bd⟩
   ·cases aj
   ·cases aj
  ·rw[if_neg bu]at aj;exact⟨rfl,t,cs,aj⟩
 have c1: ∀k z t n es,aE (eO s.heap id cz) k=some (.row z t n es)→β k=β k∧∃z t es,aE s.heap k=some (.row z t n es):=by
  intro k z t n es aj;rw[ah k]at aj
  by_cases bu:id=k
  ·subst bu
   rw[if_pos rfl]at aj;simp only[Option.some.injEq]at aj
   rcases zk with⟨t1,aU,da,rfl,rfl⟩|⟨t1,gR,aC,bf,rfl,rfl⟩|⟨_,_,rfl,rfl⟩
   ·cases aj
   ·simp only[eh.row.injEq]at aj
    obtain⟨_,_,rfl,_⟩:=aj;exact⟨rfl,_,_,_,bd⟩
   ·cases aj
  ·rw[if_neg bu]at aj;exact⟨rfl,z,t,es,aj⟩
 have nS: ∀k bN,aE (eO s.heap id cz) k=some (.bM bN)→β k=β k∧∃bN,aE s.heap k=some (.bM bN):=by
  intro k bN aj;rw[ah k]at aj
  by_cases bu:id=k
  ·subst bu
   rw[if_pos rfl]at aj;simp only[Option.some.injEq]at aj
   rcases zk with⟨t1,aU,da,rfl,rfl⟩|⟨t1,gR,aC,bf,rfl,rfl⟩|⟨zb4,_,rfl,rfl⟩
   ·cases aj
   ·cases aj
   ·exact⟨rfl,zb4,bd⟩
  ·rw[if_neg bu]at aj;exact⟨rfl,bN,aj⟩
 refine⟨h.defers,h.size,fun i x hx=>(h.slot i x hx).keep cc (fun _ h=>h) (Nat.le_refl _) nR c1 nS,⟨fun k p aj=>?_,fun k bk p fV b aj eA ak gI bg er=>?_,fun b af ad=>h.heap.ff b af (own b ad),
  fun b af=>Nat.lt_of_lt_of_le (h.heap.lt b af) bP⟩,h.ic.keep cc fun _ h=>h,?_,h.base⟩
 ·rw[ah k]at aj
  by_cases bu:id=k
  ·subst bu
   rw[if_pos rfl]at aj;simp only[Option.some.injEq]at aj;subst aj;exact dk
  ·rw[if_neg bu]at aj
   refine(h.heap.c7 k p aj).keep cc (fun _ h=>h) (Nat.le_refl _) bP rfl (fun ar b ad=>hw b (nU k p b aj ar ad) fun jQ=>bu (h.heap.inj id k o p b bd aj wB ar jQ ad)) nR c1 nS
 ·have aa: ∃q,aE s.heap k=some q∧q.live=true:=by
   rw[ah k]at aj
   by_cases bu:id=k
   ·subst bu;exact⟨o,bd,wB⟩
   ·rw[if_neg bu]at aj;exact⟨p,aj,ak⟩
  have ae: ∃q,aE s.heap bk=some q∧q.live=true:=by
   rw[ah bk]at eA
   by_cases bu:id=bk
   ·subst bu;exact⟨o,bd,wB⟩
   ·rw[if_neg bu]at eA;exact⟨fV,eA,gI⟩
  obtain⟨q,aJ,rh⟩:=aa;obtain⟨q',uC,zl⟩:=ae;exact h.heap.inj k bk q q' b aJ uC rh zl bg er
 ·have t:=h.trans
  refine⟨oV.trans t.os,oW.trans t.tape,kE.trans t.output,Nat.le_trans t.size bP,fun b hL gd=>?_,t.jk,t.j7,fun b ad=>t.hg b (own b ad),fun k aj p bo=>?_,fun k p bo=>?_,t.le⟩
  ·by_cases jQ:b4 (β id)=some b
   ·rcases t.hg b ⟨id,o,bd,wB,jQ⟩with hc|hc
    ·exact absurd hc gd
    ·omega
   ·rw[hw b (Nat.lt_of_lt_of_le hL t.size) jQ]
    exact t.frame b hL gd
  ·rw[ah k]at bo
   by_cases bu:id=k
   ·subst bu;exact t.dK id aj o bd
   ·rw[if_neg bu]at bo;exact t.dK k aj p bo
  ·rw[ah k]at bo
   by_cases bu:id=k
   ·subst bu;exact t.new id o bd
   ·rw[if_neg bu]at bo;exact t.new k p bo
end
end Go.aM
namespace Go.aM
open Go
def cR:aD→List aD
 | .agg cs=>cs
 |x=>[x]
section
variable {w:World} {ro:Nat→Prop} {σ:Heap} {β:Nat→Value} {N:Nat}
def eE(σ:Heap):aD→Bool
 | .av _| .fn _ _ _=>true
 | .ptr id _=>match aE σ id with
  |some (.box _ _)=>true
  |_=>false
 | .aO id=>match aE σ id with
  |some (.row _ _ _ _)=>true
  |_=>false
 | .cW id _ _=>match aE σ id with
  |some (.row _ _ _ _)=>true
  |_=>false
 |_=>false
theorem CW(bb:hb w ro σ β N){x:aD}{c:Value}(hx:eE σ x=true)(h:bs w ro σ β N x c):c.oneCell'=true:=by
 cases h with
 |av x c h=>exact h.one
 |agg=>simp[eE]at hx
 |tuple=>simp[eE]at hx
 |ptr id off c ar ak=>
  simp only[eE]at hx
  split at hx
  ·rename_i t cs ah
   obtain⟨b,_,rfl⟩:=ak t cs ah;rfl
  ·cases hx
 |cW id i off c ar ak=>
  simp only[eE]at hx
  split at hx
  ·rename_i z t n es ah
   obtain⟨b,l,h1,_,rfl⟩:=ak z t n es ah;rfl
  ·cases hx
 |aO id c ar ak=>
  simp only[eE]at hx
  split at hx
  ·rename_i z t n es ah
   rw[ak z t n es ah]
   have:=bb.c7 id _ ah
   cases this with
   |row _ _ _ xs aa=>
    rcases aa.2 with⟨⟨_,aw,_⟩,_⟩|⟨g,cap,cur,aw,_⟩<;>rw[aw]<;>rfl
   |ga _ _ _ aa=>exact aa.one
  ·cases hx
 |fn=>rfl
 |ref=>simp[eE]at hx
 |dA=>simp[eE]at hx
 |top=>simp[eE]at hx
theorem bs.cR{x:aD}{c:Value}(h:bs w ro σ β N x c)(dZ:(cR x).all (eE σ)=true)(bb:hb w ro σ β N):
 c.cells.size=(cR x).length∧(∀j y,(Go.aM.cR x)[j]? =some y→bs w ro σ β N y (c.cells.getD j undef))∧∀u∈c.cells.toList,u.oneCell'=true:=by
 cases h with
 |agg cs c ai hc=>
  refine⟨ai,hc,fun u hu=>?_⟩
  obtain⟨j,ag,rfl⟩:=List.mem_iff_getElem.1 hu
  have Qu:j<cs.length:=by simpa[Value.cells,ai]using ag
  have aa:=hc j cs[j] (List.getElem?_eq_getElem Qu)
  have ae:eE σ cs[j]=true:=by
   simp only[Go.aM.cR,List.all_eq_true]at dZ;exact dZ _ (List.getElem_mem Qu)
  have au:=CW bb ae aa
  have zm:j<c.size:=by omega
  simpa[Value.cells,zm]using au
 |av x c hx=>
  have aa:c.cells= #[c]:=by have:=hx.one;cases c<;>simp_all[Value.cells,Value.oneCell']
  refine⟨by simp[aa,Go.aM.cR],fun j y ag=>?_,fun u hu=>?_⟩
  ·cases j with
   |zero=>simp[Go.aM.cR]at ag;subst ag;simpa[aa]using bs.av x c hx
   |succ j=>simp[Go.aM.cR]at ag
  ·simp[aa]at hu;subst hu;exact hx.one
 |tuple cs c ai hc=>simp[Go.aM.cR,eE]at dZ
 |top c=>simp[Go.aM.cR,eE]at dZ
 |ref id c=>simp[Go.aM.cR,eE]at dZ
 |dA id n c=>simp[Go.aM.cR,eE]at dZ
 |ptr id off c ar ak=>
  have hx:eE σ (.ptr id off)=true:=by simpa[Go.aM.cR]using dZ
  have oX:=CW bb hx (bs.ptr (w:=w) (ro:=ro) id off c ar ak)
  have aa:c.cells= #[c]:=by cases c<;>simp_all[Value.cells,Value.oneCell']
  refine⟨by simp[aa,Go.aM.cR],fun j y ag=>?_,fun u hu=>?_⟩
  ·cases j with
   |zero=>simp[Go.aM.cR]at ag;subst ag;simpa[aa]using bs.ptr id off c ar ak
   |succ j=>simp[Go.aM.cR]at ag
  ·simp[aa]at hu;subst hu;exact oX
 |cW id i off c ar ak=>
  have hx:eE σ (.cW id i off)=true:=by simpa[Go.aM.cR]using dZ
  have oX:=CW bb hx (bs.cW (w:=w) (ro:=ro) id i off c ar ak)
  have aa:c.cells= #[c]:=by cases c<;>simp_all[Value.cells,Value.oneCell']
  refine⟨by simp[aa,Go.aM.cR],fun j y ag=>?_,fun u hu=>?_⟩
  ·cases j with
   |zero=>simp[Go.aM.cR]at ag;subst ag;simpa[aa]using bs.cW id i off c ar ak
   |succ j=>simp[Go.aM.cR]at ag
  ·simp[aa]at hu;subst hu;exact oX
 |aO id c ar ak=>
  have hx:eE σ (.aO id)=true:=by simpa[Go.aM.cR]using dZ
  have oX:=CW bb hx (bs.aO (w:=w) (ro:=ro) id c ar ak)
  have aa:c.cells= #[c]:=by cases c<;>simp_all[Value.cells,Value.oneCell']
  refine⟨by simp[aa,Go.aM.cR],fun j y ag=>?_,fun u hu=>?_⟩
  ·cases j with
   |zero=>simp[Go.aM.cR]at ag;subst ag;simpa[aa]using bs.aO id c ar ak
   |succ j=>simp[Go.aM.cR]at ag
  ·simp[aa]at hu;subst hu;exact oX
 |fn f p q c d aa ae au aR=>
  refine⟨by simp[Value.cells,Go.aM.cR],fun j y ag=>?_,fun u hu=>?_⟩
  ·cases j with
   |zero=>simp[Go.aM.cR]at ag;subst ag;simpa[Value.cells]using bs.fn f p q c d aa ae au aR
   |succ j=>simp[Go.aM.cR]at ag
  ·simp[Value.cells]at hu;subst hu;rfl
end
section
variable {P:Program} {G:a8} {o:Oper} {s:aP}
theorem Qv(t:TypeId)(c:Value)(w:World):(newVar t c).run P w= .ok ⟨w.heap.size,0,none⟩ (w.alloc (.cells c.cells t)):=by
 simp[newVar,newRow]
theorem mg.Qw{t:TypeId}{cs:List aD}(h: ∀E a w β ro,c5 E G s a w β ro→∃arr:Array Value,(execOp a.eval o).run P w= .ok (.value (.pointer (some ⟨w.heap.size,0,none⟩))) (w.alloc (.cells arr t))∧
      arr.size=cs.length∧∀j x,cs[j]? =some x→bs w ro s.heap β s.next x (arr.getD j undef))(ad:s.base≤s.next):
    mg P G o s ({s with heap:=(s.next,.box t cs)::s.heap,next:=s.next+1}.put o.dst (.ptr s.next 0)):=by
  intro E a w ⟨β,ro,af⟩ K Q hK;obtain⟨arr,cp,bP,eW⟩:=h E a w β ro af;unfold Oper.wp;rw[cp]
  have jl:aE s.heap s.next=none:=by
    cases ah:aE s.heap s.next with
    |none=>rfl
    |some p=>have:=af.trans.new _ _ ah;omega
  have fc:c5 E G {s with heap:=(s.next,.box t cs)::s.heap,next:=s.next+1} a (w.alloc (.cells arr t)) (gS β s.next (.pointer (some ⟨w.heap.size,0,none⟩))) ro:=by
    refine af.new s.next jl ad (Nat.le_refl _) _ _ rfl rfl rfl (by simp) (fun b ad=>Go.RowKit.Below.heap_alloc w _ b ad) (fun b ad=>by simp[b4]at ad;omega) rfl ?_
    refine .box t cs w.heap.size arr (dR _ _ _) (heap_alloc_new w _) bP fun j x ag=>?_
    have hx:=eW j x ag
    have cc: ∀b,ro b→(w.alloc (.cells arr t)).heap[b]? =w.heap[b]? :=fun b ad=>Go.RowKit.Below.heap_alloc w _ b (af.heap.lt b ad)
    clear ag eW;generalize arr.getD j undef=c at hx
    induction hx with
    |av x c hx=>exact .av x c (hx.keep cc fun _ h=>h)
    |agg cs c ai _ a1=>exact .agg cs c ai a1
    |tuple cs c ai _ a1=>exact .tuple cs c ai a1
    |ptr k off c ar ak=>
      have aj:k≠s.next:=by omega
      exact .ptr k off c (by omega) fun t cs bo=>by rw[c2 _ _ aj];simp only[aE,if_neg (Ne.symm aj)]at bo;exact ak t cs bo
    |dA k off c ar ak=>
      have aj:k≠s.next:=by omega
      exact .dA k off c (by omega) fun t cs bo=>by rw[c2 _ _ aj];simp only[aE,if_neg (Ne.symm aj)]at bo;exact ak t cs bo
    |cW k i off c ar ak=>
      have aj:k≠s.next:=by omega
      exact .cW k i off c (by omega) fun z t n es bo=>by rw[c2 _ _ aj];simp only[aE,if_neg (Ne.symm aj)]at bo;exact ak z t n es bo
    |aO k c ar ak=>
      have aj:k≠s.next:=by omega
      exact .aO k c (by omega) fun z t n es bo=>by rw[c2 _ _ aj];simp only[aE,if_neg (Ne.symm aj)]at bo;exact ak z t n es bo
    |fn f p q c d aa ae _ _ hh hj=>exact .fn f p q c d aa ae hh hj
    |ref k c ar ak=>
      have aj:k≠s.next:=by omega
      exact .ref k c (by omega) fun bN bo=>by rw[c2 _ _ aj];simp only[aE,if_neg (Ne.symm aj)]at bo;exact ak bN bo
    |top c=>exact .top c
  refine hK _ _ ⟨_,ro,fc.put o.dst _ _ ?_⟩ fun b ad=>Go.RowKit.Below.heap_alloc w _ b ad
  refine .ptr _ _ _ (Nat.lt_succ_self _) fun bz cs' ah=>⟨w.heap.size,dR _ _ _,rfl⟩
theorem Qx(t:TypeId)(x:Operand)(an:o.op= .box t x)(ad:s.base≤s.next)(dZ:(cR (aL G s x)).all (eE s.heap)=true):
 mg P G o s ({s with heap:=(s.next,.box t (cR (aL G s x)))::s.heap,next:=s.next+1}.put o.dst (.ptr s.next 0)):=
 .Qw (fun _ a w β ro af=>by
  obtain⟨aa,ae,_⟩:=(af.eval x).cR dZ af.heap
  exact⟨(a.eval x).cells,by simp[execOp,an,Instr.box,Qv],aa,ae⟩) ad
theorem Qy(t:TypeId)(x:Operand)(an:o.op= .box t x)(ad:s.base≤s.next)(dZ:(cR (aL G s x)).all (eE s.heap)=true):
 dQ P G o s ({s with heap:=(s.next,.box t (cR (aL G s x)))::s.heap,next:=s.next+1}.put o.dst (.ptr s.next 0)):=(Qx t x an ad dZ).op
def zeroCells(P:Program)(t:TypeId):Option (List Value):=
 match P.info? t with
 |some i=>match i.zero with
  |some z=>some z.cells.toList
  |none=>none
 |none=>none
theorem zn{t:TypeId}{zs:List Value}(h:zeroCells P t=some zs)(w:World): ∃z:Value,(zeroValue t).run P w= .ok z w∧z.cells=zs.toArray∧∃i,P.info? t=some i∧i.zero=some z:=by
 unfold zeroCells at h
 cases hi:P.info? t with
 |none=>simp[hi]at h
 |some i=>
  cases aQ:i.zero with
  |none=>simp[hi,aQ]at h
  |some z=>
   simp[hi,aQ]at h;exact⟨z,by simp[zeroValue,typeInfo,hi,aQ],by rw[←h],i,rfl,aQ⟩
theorem Qz(t:TypeId)(an:o.op= .alloc t)(ad:s.base≤s.next){zs:List Value}(aQ:zeroCells P t=some zs)(dZ:zs.all Value.oneCell'=true):
 mg P G o s ({s with heap:=(s.next,.box t (zs.map fun z=>.av (.v z)))::s.heap,next:=s.next+1}.put o.dst (.ptr s.next 0)):=
 .Qw (fun _ a w β ro af=>by
  obtain⟨z,cp,oY,_⟩:=zn aQ w;refine⟨z.cells,by simp[execOp,an,Instr.alloc,cp,Qv],by simp[oY],fun j x ag=>?_⟩
  rw[List.getElem?_map]at ag
  cases ri:zs[j]? with
  |none=>simp[ri]at ag
  |some y=>
   simp[ri]at ag;subst ag
   have:y.oneCell'=true:=by
    rw[List.all_eq_true]at dZ;exact dZ y (List.mem_of_getElem? ri)
   rw[oY]
   simpa[ri]using bs.av (w:=w) (ro:=ro) (σ:=s.heap) (β:=β) (N:=s.next) _ _ (.v y this)) ad
theorem QA(t:TypeId)(an:o.op= .alloc t)(ad:s.base≤s.next){zs:List Value}(aQ:zeroCells P t=some zs)(dZ:zs.all Value.oneCell'=true):
 dQ P G o s ({s with heap:=(s.next,.box t (zs.map fun z=>.av (.v z)))::s.heap,next:=s.next+1}.put o.dst (.ptr s.next 0)):=(Qz t an ad aQ dZ).op
end
end Go.aM
namespace Go.aM
open Go
section
variable {P:Program} {G:a8} {o:Oper} {s:aP}
theorem Jz{w w':World}{ro:Nat→Prop}{σ:Heap}{β:Nat→Value}{N id:Nat}{t:TypeId}{cs cs':List aD}(bd:aE σ id=some (.box t cs)){x:aD}{c:Value}
 (h:bs w ro σ β N x c)(cc: ∀b,ro b→w'.heap[b]? =w.heap[b]?):bs w' ro (eO σ id (.box t cs')) β N x c:=by
 refine h.keep cc (fun _ h=>h) (Nat.le_refl _) (fun k t1 aU aj=>?_) (fun k z t1 n es aj=>?_) (fun k bN aj=>?_)
 ·rw[wz]at aj
  by_cases bu:id=k
  ·subst bu;exact⟨rfl,t,cs,bd⟩
  ·rw[if_neg bu]at aj;exact⟨rfl,t1,aU,aj⟩
 ·rw[wz]at aj
  by_cases bu:id=k
  ·subst bu;rw[if_pos rfl]at aj;cases aj
  ·rw[if_neg bu]at aj;exact⟨rfl,z,t1,es,aj⟩
 ·rw[wz]at aj
  by_cases bu:id=k
  ·subst bu;rw[if_pos rfl]at aj;cases aj
  ·rw[if_neg bu]at aj;exact⟨rfl,bN,aj⟩
def ei{α:Type}(cs:List α)(off:Nat)(vs:List α):List α:=cs.take off++(vs++cs.drop (off+vs.length))
theorem qe{α:Type}(cs:List α)(off:Nat)(vs:List α)(h:off+vs.length≤cs.length):(ei cs off vs).length=cs.length:=by
 simp[ei];omega
theorem JA{α β:Type}(R:α→β→Prop)(d:β){cs vs:List α}{xs ys:List β}{off:Nat}(ar:cs.length≤xs.length)(aw:vs.length=ys.length)(zo:off+vs.length≤cs.length)
 (aa: ∀j x,cs[j]? =some x→R x (xs.getD j d))(ae: ∀j x,vs[j]? =some x→R x (ys.getD j d)): ∀j x,(ei cs off vs)[j]? =some x→R x ((ei xs off ys).getD j d):=by
 intro j x ag
 unfold ei at*
 by_cases aY:j<off
 ·rw[List.getElem?_append_left (by simp;omega),List.getElem?_take,if_pos aY]at ag
  have:=aa j x ag
  rw[List.getD,List.getElem?_append_left (by simp;omega),List.getElem?_take,if_pos aY]
  exact this
 ·have aC:(cs.take off).length=off:=by simp;omega
  have bf:(xs.take off).length=off:=by simp;omega
  rw[List.getElem?_append_right (by omega),aC]at ag
  rw[List.getD,List.getElem?_append_right (by omega),bf]
  by_cases ad:j-off<vs.length
  ·rw[List.getElem?_append_left ad]at ag
   rw[List.getElem?_append_left (by omega)]
   exact ae _ _ ag
  ·rw[List.getElem?_append_right (by omega),List.getElem?_drop]at ag
   rw[List.getElem?_append_right (by omega),List.getElem?_drop]
   have cg:off+vs.length+(j-off-vs.length)=j:=by omega
   have ek:off+ys.length+(j-off-ys.length)=j:=by omega
   rw[cg]at ag;rw[ek];exact aa j x ag
theorem QB(t:TypeId)(b off:Nat)(c:Value)(w:World)(bt:TypeId)(arr:Array Value)(ah:w.heap[b]? =some (.cells arr bt (0,0)))(bP:(P.info? t).map (·.size)=some c.cells.size)
 (qf:off+c.cells.size≤arr.size)(aa: ∀u∈c.cells.toList,u.oneCell'=true):
 (Instr.storeAt t (.pointer (some ⟨b,off,none⟩)) c).run P w= .ok () (w.setRow b (ei arr.toList off c.cells.toList).toArray):=by
 have dD:=run_storeCells_at P b off bt c.cells.toList 0 arr w ah (by simpa using qf) aa
 cases hi:P.info? t with
 |none=>simp[hi]at bP
 |some i=>
  have ai:i.size=c.cells.size:=by simpa[hi]using bP
  simp only[Nat.add_zero,List.append_assoc]at dD;simp only[Instr.storeAt,Instr.sureAddr,storeVar,sizeOf,typeInfo,Sem.run_bind,Sem.run_pure,Result.andThen_ok,ei];simp[hi,ai,dD]
theorem QC(t:TypeId)(p x:Operand)(an:o.op= .store t p x){id off:Nat}(ak:aL G s p= .ptr id off){bt:TypeId}{cs:List aD}(bd:aE s.heap id=some (.box bt cs))
 {vs:List aD}(aw:cR (aL G s x)=vs)(dZ:vs.all (eE s.heap)=true)(bP:(P.info? t).map (·.size)=some vs.length)(qf:off+vs.length≤cs.length):
 dQ P G o s ({s with heap:=eO s.heap id (.box bt (ei cs off vs))}.put o.dst .top):=by
 intro E a w ⟨β,ro,af⟩ K Q hK
 subst aw
 obtain⟨aa,ae,au⟩:=(af.eval x).cR dZ af.heap
 have rj:=af.eval p
 rw[ak]at rj
 have dk:=af.heap.c7 id _ bd
 cases dk with
 |box _ _ b arr ad ah zb5 eW=>
  generalize JB:a.eval p=gT at rj
  cases rj with
  |ptr _ _ c ar hc=>
   obtain⟨b',gz,rfl⟩:=hc _ _ bd;rw[ad]at gz;simp only[Value.pointer.injEq,Option.some.injEq,Addr.mk.injEq,and_true]at gz;subst gz
   have cp:=QB (P:=P) t b off (a.eval x) w bt arr ah (by rw[bP,aa]) (by omega) au
   unfold Oper.wp;simp only[execOp,an,JB,Sem.run_bind,cp,Result.andThen_ok,Sem.run_pure]
   have jm: ∀k,k<w.heap.size→b4 (β id)≠some k→(w.setRow b (ei arr.toList off (a.eval x).cells.toList).toArray).heap[k]? =w.heap[k]? :=fun k _ aj=>
    setRow_other w b k _ (fun e=>aj (by rw[ad,e];rfl))
   have cc: ∀k,ro k→(w.setRow b (ei arr.toList off (a.eval x).cells.toList).toArray).heap[k]? =w.heap[k]? :=fun k aj=>
    jm k (af.heap.lt k aj) fun bg=>af.heap.ff k aj ⟨id,_,bd,rfl,bg⟩
   refine hK _ _ ⟨β,ro,(af.write (w':=w.setRow b (ei arr.toList off (a.eval x).cells.toList).toArray) id _ (.box bt (ei cs off (cR (aL G s x)))) bd rfl rfl (.inl ⟨_,_,_,rfl,rfl⟩) rfl rfl rfl (by simp) jm ?_).put o.dst _ _ (.top _)⟩
   refine .box bt _ b _ ad (setRow_heap w b arr _ bt (0,0) ah) ?_ fun j y ag=>?_
   ·rw[List.size_toArray,qe _ _ _ (by simp only[Array.length_toList];omega),qe _ _ _ qf,Array.length_toList,zb5]
   ·have ai:=JA (bs w ro s.heap β s.next) undef (cs:=cs) (vs:=cR (aL G s x)) (xs:=arr.toList) (ys:=(a.eval x).cells.toList) (off:=off) (by simp only[Array.length_toList];omega) (by simp only[Array.length_toList];omega) qf
     (fun j x ag=>by have:=eW j x ag;simpa[Array.getD_eq_getD_getElem?,List.getD]using this)
     (fun j x ag=>by have:=ae j x ag;simpa[Array.getD_eq_getD_getElem?,List.getD]using this) j y ag
    have eX:=Jz (cs':=ei cs off (cR (aL G s x))) bd ai cc
    simpa[Array.getD_eq_getD_getElem?,List.getD]using eX
def iL:List aD→Option (List a6)
 |[]=>some []
 | .av x::r=>match iL r with
  |some l=>some (x::l)
  |none=>none
 |_::_=>none
theorem CX: ∀{vs:List aD} {l:List a6},iL vs=some l→vs=l.map .av
 |[],l,h=>by simp[iL]at h;subst h;rfl
 | .av x::r,l,h=>by
  simp only[iL]at h
  cases af:iL r with
  |none=>simp[af]at h
  |some h2=>
   simp[af]at h;subst h;simp[CX af]
 | .agg _::_,_,h=>by simp[iL]at h
 | .tuple _::_,_,h=>by simp[iL]at h
 | .ptr _ _::_,_,h=>by simp[iL]at h
 | .dA _ _::_,_,h=>by simp[iL]at h
 | .cW _ _ _::_,_,h=>by simp[iL]at h
 | .aO _::_,_,h=>by simp[iL]at h
 | .fn _ _ _::_,_,h=>by simp[iL]at h
 | .ref _::_,_,h=>by simp[iL]at h
 | .top::_,_,h=>by simp[iL]at h
theorem QD{α:Type}{n:Nat}: ∀{es:List (List α)},(∀e∈es,e.length=n)→∀{i:Nat} {e ay:List α},es[i]? =some e→ay.length=n→(es.set i ay).flatten=es.flatten.take (i*n)++(ay++es.flatten.drop (i*n+n))
 |[],_,i,e,ay,h,_=>by simp at h
 |x::r,hn,i,e,ay,h,he=>by
  have hx:x.length=n:=hn x (by simp)
  cases i with
  |zero=>simp[hx]
  |succ i=>
   simp at h
   have a1:=QD (es:=r) (fun e he=>hn e (by simp[he])) h he
   simp only[List.set_cons_succ,List.flatten_cons,a1]
   have aC:(i+1)*n=x.length+i*n:=by rw[Nat.succ_mul];omega
   have bf:(i+1)*n+n=x.length+(i*n+n):=by rw[Nat.succ_mul];omega
   have cg:x.length+(i*n+n)-x.length=i*n+n:=by omega
   have ek:x.length+i*n-x.length=i*n:=by omega
   rw[bf,aC,List.take_append,List.drop_append,cg,ek,List.take_of_length_le (l:=x) (by omega),List.drop_of_length_le (l:=x) (by omega)]
   simp
theorem zb6{α:Type}(l:List α)(p n k:Nat)(vs:List α)(e:List α)(he:e.length=n)(ar: ∀j,j<n→l[p+j]? =e[j]?)(aj:k+vs.length≤n)(ak:p+n≤l.length):
 ei l (p+k) vs=l.take p++(ei e k vs++l.drop (p+n)):=by
 apply List.ext_getElem?
 intro j
 have ai:(ei e k vs).length=n:=by rw[qe _ _ _ (by omega),he]
 unfold ei at*
 by_cases aa:j<p
 ·rw[List.getElem?_append_left (by simp;omega),List.getElem?_take,if_pos (by omega),List.getElem?_append_left (by simp;omega),List.getElem?_take,if_pos aa]
 ·have aC:(l.take p).length=p:=by simp;omega
  have bf:(l.take (p+k)).length=p+k:=by simp;omega
  rw[List.getElem?_append_right (l₁:=l.take p) (by omega),aC]
  by_cases ae:j<p+k
  ·rw[List.getElem?_append_left (by omega),List.getElem?_take,if_pos ae,List.getElem?_append_left (by omega),List.getElem?_append_left (by simp;omega),List.getElem?_take,if_pos (by omega),←ar _ (by omega)]
   congr 1;omega
  ·rw[List.getElem?_append_right (by omega),bf]
   have cg:(e.take k).length=k:=by simp;omega
   by_cases au:j<p+k+vs.length
   ·rw[List.getElem?_append_left (by omega),List.getElem?_append_left (by omega),List.getElem?_append_right (by omega),cg,List.getElem?_append_left (by omega)]
    congr 1;omega
   ·rw[List.getElem?_append_right (by omega),List.getElem?_drop]
    by_cases aR:j<p+n
    ·rw[List.getElem?_append_left (by omega),List.getElem?_append_right (by omega),cg,List.getElem?_append_right (by omega),List.getElem?_drop,←ar _ (by omega)]
     congr 1;omega
    ·rw[List.getElem?_append_right (by omega),ai,List.getElem?_drop]
     congr 1;omega
theorem zb7{α:Type}(l:List α)(off m:Nat)(ys:List α)(h:off+ys.length≤m)(hm:m≤l.length):(ei l off ys).take m=ei (l.take m) off ys:=by
 have aC:min m off=off:=by omega
 have bf:min off m=off:=by omega
 have cg:min off l.length=off:=by omega
 have ek:List.take (m-off) ys=ys:=List.take_of_length_le (by omega)
 have kz:m-off-ys.length=m-(off+ys.length):=by omega
 simp only[ei,List.take_append,List.take_take,List.length_take,List.drop_take,aC,bf,cg,ek,kz]
theorem QE(t:TypeId)(p x:Operand)(an:o.op= .store t p x){id i off:Nat}(ak:aL G s p= .cW id i off){bt:TypeId}{n:Nat}{es:List (List a6)}(bd:aE s.heap id=some (.row false bt n es))
 {e:List a6}(m4:es[i]? =some e){vs:List a6}(aw:iL (cR (aL G s x))=some vs)(bP:(P.info? t).map (·.size)=some vs.length)(qf:off+vs.length≤n):
 dQ P G o s ({s with heap:=eO s.heap id (.row false bt n (es.set i (ei e off vs)))}.put o.dst .top):=by
 intro E a w ⟨β,ro,af⟩ K Q hK
 have QF:=CX aw
 have dZ:(cR (aL G s x)).all (eE s.heap)=true:=by rw[QF];simp[List.all_eq_true,eE]
 obtain⟨aa,ae,au⟩:=(af.eval x).cR dZ af.heap
 rw[QF]at aa ae
 rw[List.length_map]at aa
 have rj:=af.eval p
 rw[ak]at rj
 have dk:=af.heap.c7 id _ bd
 cases dk with
 |row _ _ _ xs hA hn eW=>
  generalize JB:a.eval p=gT at rj
  cases rj with
  |cW _ _ _ c ar hc=>
   obtain⟨b,l,h1,ad,rfl⟩:=hc _ _ _ _ bd
   have ziw:=hA
   rw[ad]at hA;obtain⟨CU,oU⟩:=hA
   rcases oU with⟨⟨_,h,_⟩,aQ⟩|⟨g,cap,cur,QG,QH,ah,hle,ig,dI,lF⟩
   ·have:=(List.getElem?_eq_some_iff.1 m4).1;omega
   ·simp only[Value.slice.injEq,Option.some.injEq,Addr.mk.injEq,and_true]at QG
    obtain⟨rfl,rfl,rfl⟩:=QG
    have nT:e.length=n:=hn e (List.mem_of_getElem? m4)
    have zb8:i<es.length:=(List.getElem?_eq_some_iff.1 m4).1
    have kS:i*n+n≤es.length*n:=by rw[←Nat.succ_mul];exact Nat.mul_le_mul_right n zb8
    have zix:es.length*n≤h1*n:=Nat.mul_le_mul_right n hle
    have cp:=QB (P:=P) t b (i*n+off) (a.eval x) w bt cur ah (by rw[bP,aa]) (by omega) au
    unfold Oper.wp;simp only[execOp,an,JB,Sem.run_bind,cp,Result.andThen_ok,Sem.run_pure]
    have jm: ∀k,k<w.heap.size→b4 (β id)≠some k→(w.setRow b (ei cur.toList (i*n+off) (a.eval x).cells.toList).toArray).heap[k]? =w.heap[k]? :=fun k _ aj=>
     setRow_other w b k _ (fun e=>aj (by rw[ad,e];simp[b4,Nat.ne_of_gt QH]))
    have cc: ∀k,ro k→(w.setRow b (ei cur.toList (i*n+off) (a.eval x).cells.toList).toArray).heap[k]? =w.heap[k]? :=fun k aj=>
     jm k (af.heap.lt k aj) fun bg=>af.heap.ff k aj ⟨id,_,bd,rfl,bg⟩
    have qg:(ei e off vs).length=n:=by rw[qe _ _ _ (by omega),nT]
    refine hK _ _ ⟨β,ro,(af.write (w':=w.setRow b (ei cur.toList (i*n+off) (a.eval x).cells.toList).toArray) id _ (.row false bt n (es.set i (ei e off vs))) bd rfl rfl (.inr (.inl ⟨_,_,_,_,rfl,rfl⟩)) rfl rfl rfl (by simp) jm ?_).put o.dst _ _ (.top _)⟩
    have jn:(a.eval x).cells.toList.length=vs.length:=by simpa using aa
    refine .row bt n _ (ei xs (i*n+off) (a.eval x).cells.toList) ?_ (fun ay j9=>?_) (fun j y ag=>?_)
    ·rw[ad,List.length_set]
     refine⟨by rw[qe _ _ _ (by omega)];exact CU,.inr ⟨b,h1,_,rfl,QH,setRow_heap w b cur _ bt (0,0) ah,hle,ig,?_,?_⟩⟩
     ·rw[List.size_toArray,qe _ _ _ (by simp;omega)];simpa using dI
     ·show List.take (es.length*n) (ei cur.toList (i*n+off) (a.eval x).cells.toList)=_
      rw[zb7 _ _ _ _ (by omega) (by simp;omega),lF]
    ·rcases List.mem_or_eq_of_mem_set j9 with h|h
     ·exact hn ay h
     ·rw[h];exact qg
    ·rw[QD hn m4 qg,←zb6 es.flatten (i*n) n off vs e nT (fun j ag=>re hn m4 j ag) qf (by rw[j8 hn];exact kS)]at ag
     have ai:=JA (cP w ro) undef (cs:=es.flatten) (vs:=vs) (xs:=xs) (ys:=(a.eval x).cells.toList) (off:=i*n+off) (by rw[j8 hn];omega) (by omega) (by rw[j8 hn];omega)
      (fun j x ag=>eW j x ag)
      (fun j y ag=>by
       have:=ae j (.av y) (by simp[ag])
       cases this with
       |av _ _ h=>simpa[Array.getD_eq_getD_getElem?,List.getD]using h) j y ag
     exact ai.keep cc fun _ h=>h
end
end Go.aM
namespace Go.aM
open Go
def dw(a b:ByteArray):Bool:=a.data.toList==b.data.toList
theorem oy(a b:ByteArray):dw a b=decide (a=b):=by
 unfold dw
 obtain⟨⟨x⟩⟩:=a
 obtain⟨⟨y⟩⟩:=b
 rw[Bool.eq_iff_iff]
 simp
theorem QI(a b:ByteArray):(a.toList==b.toList)=dw a b:=by rw[ByteArray.toList_eq,ByteArray.toList_eq];rfl
@[simp] theorem ziy{a b:ByteArray}:dw a b=true↔a=b:=by rw[oy];simp
@[simp] theorem ziz{a b:ByteArray}:dw a b=false↔a≠b:=by rw[oy];simp
@[simp] theorem Wj(a:ByteArray):dw a a=true:=by simp
def rk(a b:ByteArray):Bool:=Op.bytesLess a.data.toList b.data.toList
theorem zb9(a b:ByteArray):Op.bytesLess a.toList b.toList=rk a b:=by rw[ByteArray.toList_eq,ByteArray.toList_eq];rfl
def CY(op:BinOp)(a b:Int):Option Value:=
 match op with
 | .eql=>some (.bool (a==b))
 | .neq=>some (.bool (a != b))
 | .lss=>some (.bool (decide (a<b)))
 | .leq=>some (.bool (decide (a≤b)))
 | .gtr=>some (.bool (decide (a>b)))
 | .geq=>some (.bool (decide (a≥b)))
 |_=>none
def ka(op:BinOp):Value→Value→Option Value
 | .int k a,.int bk b=>
  match op with
  | .shl=>if b<0 then none else some (.int k (k.wrap (a*2^(min b.toNat k.bits))))
  | .shr=>if b<0 then none else some (.int k (a.fdiv (2^(min b.toNat k.bits))))
  |op=>if k=bk then match op with
   | .add=>some (.int k (k.wrap (a+b)))
   | .sub=>some (.int k (k.wrap (a-b)))
   | .mul=>some (.int k (k.wrap (a*b)))
   | .quo=>if b=0 then none else some (.int k (k.wrap (a.tdiv b)))
   | .rem=>if b=0 then none else some (.int k (a.tmod b))
   |op=>CY op a b
   else none
 | .string a,.string b=>
  match op with
  | .add=>if((a.size+b.size:Nat):Int)>IntKind.i64.max then none else some (.string (a++b))
  | .eql=>some (.bool (dw a b))
  | .neq=>some (.bool (!dw a b))
  | .lss=>some (.bool (rk a b))
  | .leq=>some (.bool (rk a b||dw a b))
  | .gtr=>some (.bool (!(rk a b||dw a b)))
  | .geq=>some (.bool (!rk a b))
  |_=>none
 |_,_=>none
theorem zca {P : Program} {op : BinOp} {x y c : Value} (h : ka op x y = some c) (t : TypeId) (p q : Operand) (w : World) :
    (eqGuard op t p q x y).run P w = .ok () w ∧ (binOp op t x y).run P w = .ok c w ∧ c.oneCell' = true := by
  cases x with
  | int k a =>
    cases y with
    | int bk b =>
      simp only [ka] at h; refine ⟨by rw [eqGuard_at_int]; rfl, ?_⟩
      cases op
      all_goals first
        | (simp only at h
           split at h
           · cases h
           · rename_i hn
             simp only [Option.some.injEq] at h; subst h; refine ⟨?_, rfl⟩
             simp [binOp, Op.shift, hn]; done)
        | (simp only at h
           split at h
           · rename_i aj
             subst aj
             first
               | (simp only [Option.some.injEq, CY] at h; subst h; exact ⟨by simp [binOp, Op.intArith, Op.intCmp], rfl⟩)
               | (split at h
                  · cases h
                  · rename_i aQ
                    simp only [Option.some.injEq] at h; subst h
                    exact ⟨by simp [binOp, Op.intDiv, aQ], rfl⟩)
               | (simp [CY] at h; done)
           · cases h)
    | _ => simp [ka] at h
  | string a =>
    cases y with
    | string b =>
      simp only [ka] at h; refine ⟨by rw [eqGuard_at_string]; rfl, ?_⟩
      cases op <;> simp only at h
      all_goals first
        | cases h; done
        | (split at h
           · cases h
           · rename_i hn
             simp only [Option.some.injEq] at h; subst h
             exact ⟨by simp only [binOp_string_add, Op.stringOp, hn, if_false] <;> rfl, rfl⟩)
        | (simp only [Option.some.injEq] at h; subst h; exact ⟨by simp only [binOp, Op.stringOp, QI, zb9] <;> rfl, rfl⟩)
    | _ => simp [ka] at h
  | _ => simp [ka] at h
section
variable {P:Program} {G:a8} {o:Oper} {s:aP}
theorem bs.val{w:World}{ro:Nat→Prop}{σ:Heap}{β:Nat→Value}{N:Nat}{x c:Value}(h:bs w ro σ β N (.av (.v x)) c):c=x:=by
 cases h with
 |av _ _ h=>cases h;rfl
theorem c5.ec{E:Entry}{a:Act}{w:World}{β:Nat→Value}{ro:Nat→Prop}(h:c5 E G s a w β ro){x:Operand}{v:Value}(hx:aL G s x= .av (.v v)):a.eval x=v:=
 bs.val (hx ▸ h.eval x)
theorem bs.fz{w:World}{ro:Nat→Prop}{σ:Heap}{β:Nat→Value}{N:Nat}{c:Value}(h:c.oneCell'=true):bs w ro σ β N (.av (.v c)) c:=.av _ _ (.v _ h)
theorem oZ(op:BinOp)(cw ty:TypeId)(x y:Operand)(an:o.op= .binOp op cw x y ty){u v c:Value}(hx:aL G s x= .av (.v u))(ax:aL G s y= .av (.v v))(hc:ka op u v=some c):
 cN P G o s (.av (.v c)):=
 fun _ a w β ro af=>by
  obtain⟨aa,ae,au⟩:=zca (P:=P) hc cw x y w;exact⟨c,by simp[execOp,an,af.ec hx,af.ec ax,aa,ae],.fz au⟩
theorem QJ(cw ty:TypeId)(x y:Operand)(an:o.op= .binOp .eql cw x y ty)(aI:P.underlying cw=some .bool){u v:Bool}(hx:aL G s x= .av (.v (.bool u)))(ax:aL G s y= .av (.v (.bool v))):
 cN P G o s (.av (.v (.bool (u==v)))):=
 fun _ a w β ro af=>⟨.bool (u==v),by simp[execOp,an,af.ec hx,af.ec ax,eqGuard_at_bool,run_eql_bool w cw u v aI],.fz rfl⟩
theorem QK(cw ty:TypeId)(x y:Operand)(an:o.op= .binOp .neq cw x y ty)(aI:P.underlying cw=some .bool){u v:Bool}(hx:aL G s x= .av (.v (.bool u)))(ax:aL G s y= .av (.v (.bool v))):
 cN P G o s (.av (.v (.bool (!(u==v))))):=
 fun _ a w β ro af=>⟨.bool (!(u==v)),by simp[execOp,an,af.ec hx,af.ec ax,eqGuard_at_bool,run_neq_bool w cw u v aI],.fz rfl⟩
def m5:Value→Value→Option Bool
 | .int k a,.int bk b=>if k=bk then some (a==b)else none
 | .bool a,.bool b=>some (a==b)
 | .string a,.string b=>some (dw a b)
 |_,_=>none
def rm(P:Program)(t:TypeId):Value→Bool
 | .int k _=>match P.underlying t with
  |some (.int bk)=>decide (k=bk)
  |_=>false
 | .bool _=>match P.underlying t with
  |some .bool=>true
  |_=>false
 | .string _=>match P.underlying t with
  |some .string=>true
  |_=>false
 |_=>false
def QL(e:TypeId)(c i:Nat):Field:={(default:Field)with name:= "e",type:=e,offset:=i*c}
theorem JC(d:Nat)(e:TypeId)(c:Nat)(X Y:Array Value): ∀(is:List Nat),Op.eqFields d X Y (is.map (QL e c))=Op.eqItems d e c X Y is
 |[]=>rfl
 |i::is=>by
  simp only[List.map_cons,Op.eqFields,Op.eqItems,JC d e c X Y is];rfl
def m6(P:Program)(t:TypeId):Option (List Field):=
 match P.underlying t with
 |some (.struct fs)=>if P.stoodInHeld t||P.eqGuardType P.depth t then none else some fs.toList
 |some (.array n e)=>match P.info? e with
  |some _=>if P.eqGuardType P.depth t then none else some ((List.range n).map (QL e (P.cellsOf e)))
  |none=>none
 |_=>none
theorem zcb{P:Program}{t:TypeId}{gs:List Field}(h:m6 P t=some gs)(D:Nat)(p q:Array Value)(w:World):
 (Op.equalIn (D+1) t (.agg p) (.agg q)).run P w=(Op.eqFields D p q gs).run P w∧(isAgg t).run P w= .ok true w:=by
 unfold m6 at h
 split at h
 ·rename_i CZ hu
  split at h
  ·cases h
  ·rename_i hc
   simp only[Bool.or_eq_true,not_or,Bool.not_eq_true]at hc;simp only[Option.some.injEq]at h;subst h
   have qh:P.fieldsOf t=CZ:=by simp[Program.fieldsOf,hu]
   exact⟨by rw[run_equalIn_struct w D t p q (by rw[qh];exact hu) hc.1,qh],by simp[isAgg,run_underlying hu]⟩
 ·rename_i n e hu
  split at h
  ·rename_i inf wC
   split at h
   ·cases h
   ·simp only[Option.some.injEq]at h
    subst h;exact⟨by rw[run_equalIn_array w D p q hu wC,←JC],by simp[isAgg,run_underlying hu]⟩
  ·cases h
 ·cases h
def qi(P:Program):Nat→Nat→List Field→List Value→List Value→Option Bool
 |0,_,_,_,_=>none
 |_+1,_,[],_,_=>some true
 |d+1,k,f::fs,xs,ys=>
  if f.name= "_" ||f.offset != k then none
  else match m6 P f.type with
   |some gs=>match P.info? f.type with
    |some inf=>match qi P d 0 gs (xs.take inf.size) (ys.take inf.size),qi P d (k+inf.size) fs (xs.drop inf.size) (ys.drop inf.size)with
     |some a,some b=>some (a&&b)
     |_,_=>none
    |none=>none
   |none=>match xs,ys with
    |x::xs,y::ys=>if rm P f.type x then match m5 x y,qi P d (k+1) fs xs ys with
     |some a,some b=>some (a&&b)
     |_,_=>none
     else none
    |_,_=>none
def zp(P:Program)(k:Nat)(fs:List Field)(xs ys:List Value):Option Bool:=qi P 64 k fs xs ys
theorem zcc{t:TypeId}{x y:Value}{b:Bool}(h:m5 x y=some b)(hf:rm P t x=true)(d:Nat)(w:World):(Op.equalIn (d+1) t x y).run P w= .ok b w∧x.oneCell'=true∧y.oneCell'=true∧(isAgg t).run P w= .ok false w:=by
 cases x with
 |int k a=>
  cases y with
  |int bk b'=>
   simp only[m5]at h
   split at h
   ·rename_i aj
    subst aj;simp only[Option.some.injEq]at h;subst h;simp only[rm]at hf
    split at hf
    ·rename_i gG hu
     exact⟨run_equalIn_int w d t k gG a b' hu,rfl,rfl,by simp[isAgg,run_underlying hu]⟩
    ·cases hf
   ·cases h
  |_=>simp[m5]at h
 |bool a=>
  cases y with
  |bool b'=>
   simp only[m5,Option.some.injEq]at h;subst h;simp only[rm]at hf
   split at hf
   ·rename_i hu
    exact⟨run_equalIn_bool w d t a b' hu,rfl,rfl,by simp[isAgg,run_underlying hu]⟩
   ·cases hf
  |_=>simp[m5]at h
 |string a=>
  cases y with
  |string b'=>
   simp only[m5,Option.some.injEq]at h;subst h;simp only[rm]at hf
   split at hf
   ·rename_i hu
    refine⟨?_,rfl,rfl,by simp[isAgg,run_underlying hu]⟩
    rw[run_equalIn_string w d t a b' hu,QI]
   ·cases hf
  |_=>simp[m5]at h
 |_=>simp[m5]at h
theorem QM{xs:List Value}{X:Array Value}{k n:Nat}(hM: ∀j x,xs[j]? =some x→X[k+j]? =some x): ∀j x,(xs.take n)[j]? =some x→(X.extract k (k+n))[0+j]? =some x:=by
 intro j x ag
 rw[List.getElem?_take]at ag
 split at ag
 ·rename_i mU
  have:=hM j x ag
  rw[Nat.zero_add,Array.getElem?_extract]
  have bI:k+j<X.size:=(Array.getElem?_eq_some_iff.1 this).1
  rw[if_pos (by omega)]
  exact this
 ·cases ag
theorem C0: ∀(d:Nat) (fs:List Field) (k:Nat) (xs ys:List Value) (X Y:Array Value) (b:Bool) (D:Nat) (w:World),qi P d k fs xs ys=some b→d≤D→(∀j x,xs[j]? =some x→X[k+j]? =some x)→(∀j y,ys[j]? =some y→Y[k+j]? =some y)→
 (Op.eqFields D X Y fs).run P w= .ok b w
 |0,_,k,xs,ys,X,Y,b,D,w,h,_,_,_=>by simp[qi]at h
 |d+1,[],k,xs,ys,X,Y,b,D,w,h,_,hM,o0=>by
  simp[qi]at h;subst h;simp[Op.eqFields]
 |d+1,f::fs,k,xs,ys,X,Y,b,0,w,h,ml,_,_=>by omega
 |d+1,f::fs,k,xs,ys,X,Y,b,D+1,w,h,ml,hM,o0=>by
  unfold qi at h
  split at h
  ·cases h
  ·rename_i hc
   simp only[Bool.or_eq_true,decide_eq_true_eq,bne_iff_ne,ne_eq,not_or,Decidable.not_not]at hc;obtain⟨wD,zo⟩:=hc
   split at h
   ·rename_i gs ah
    split at h
    ·rename_i inf wC
     split at h
     ·rename_i gU jo aa ae
      simp only[Option.some.injEq]at h;subst h
      have dv:=C0 d gs 0 _ _ (X.extract k (k+inf.size)) (Y.extract k (k+inf.size)) gU D w aa (by omega) (QM hM) (QM o0)
      have en:=C0 d fs (k+inf.size) _ _ X Y jo (D+1) w ae (by omega) (fun j x ag=>by rw[List.getElem?_drop]at ag;have:=hM _ x ag;rwa[show k+(inf.size+j)=k+inf.size+j from by omega]at this) (fun j x ag=>by rw[List.getElem?_drop]at ag;have:=o0 _ x ag;rwa[show k+(inf.size+j)=k+inf.size+j from by omega]at this)
      obtain⟨aC,bf⟩:=zcb ah D (X.extract k (k+inf.size)) (Y.extract k (k+inf.size)) w
      have dI:P.cellsOf f.type=inf.size:=by simp[Program.cellsOf,wC]
      simp only[Op.eqFields,Sem.run_bind,wD,ne_eq,not_false_eq_true,if_true,part,bf,Result.andThen_ok,run_sizeOf w wC,dI,zo,Sem.run_pure,aC,dv]
      cases gU
      ·simp
      ·simpa using en
     ·cases h
    ·cases h
   ·split at h
    ·rename_i x JD y zcd
     split at h
     ·rename_i qf
      split at h
      ·rename_i gU jo he af
       simp only[Option.some.injEq]at h;subst h;obtain⟨aa,_,_,aR⟩:=zcc he qf D w
       have QN:=hM 0 x rfl
       have wE:=o0 0 y rfl
       have a1:=C0 d fs (k+1) JD zcd X Y jo (D+1) w af (by omega) (fun j x ag=>by have:=hM (j+1) x ag;rwa[show k+(j+1)=k+1+j from by omega]at this) (fun j x ag=>by have:=o0 (j+1) x ag;rwa[show k+(j+1)=k+1+j from by omega]at this)
       simp only[Nat.add_zero]at QN wE;simp only[Op.eqFields,Sem.run_bind,wD,ne_eq,not_false_eq_true,if_true,part,aR,Result.andThen_ok,Bool.false_eq_true,if_false,zo,QN,wE,Sem.run_pure,aa]
       cases gU
       ·simp
       ·simpa using a1
      ·cases h
     ·cases h
    ·cases h
theorem QO(fs:List Field)(k:Nat)(xs ys:List Value)(X Y:Array Value)(b:Bool)(d:Nat)(w:World)(h:zp P k fs xs ys=some b)(hd:64≤d+1)(hM: ∀j x,xs[j]? =some x→X[k+j]? =some x)(o0: ∀j y,ys[j]? =some y→Y[k+j]? =some y):
 (Op.eqFields (d+1) X Y fs).run P w= .ok b w:=C0 64 fs k xs ys X Y b (d+1) w h hd hM o0
def hB:List aD→Option (List Value)
 |[]=>some []
 | .av (.v x)::r=>match hB r with
  |some l=>some (x::l)
  |none=>none
 |_::_=>none
theorem zq{w:World}{ro:Nat→Prop}{σ:Heap}{β:Nat→Value}{N:Nat}: ∀{cs:List aD} {l:List Value} {c:Nat→Value},hB cs=some l→(∀j x,cs[j]? =some x→bs w ro σ β N x (c j))→l.length=cs.length∧∀j x,l[j]? =some x→c j=x
 |[],l,c,h,_=>by simp[hB]at h;subst h;simp
 | .av (.v x)::r,l,c,h,hc=>by
  simp only[hB]at h
  cases af:hB r with
  |none=>simp[af]at h
  |some h2=>
   simp[af]at h;subst h;obtain⟨aa,ae⟩:=zq (c:=fun j=>c (j+1)) af fun j x ag=>hc (j+1) x ag;refine⟨by simp[aa],fun j y ag=>?_⟩
   cases j with
   |zero=>simp at ag;subst ag;exact bs.val (hc 0 _ rfl)
   |succ j=>exact ae j y ag
 | .av (.ptr _)::_,_,_,h,_=>by simp[hB]at h
 | .av (.aO _ _)::_,_,_,h,_=>by simp[hB]at h
 | .agg _::_,_,_,h,_=>by simp[hB]at h
 | .tuple _::_,_,_,h,_=>by simp[hB]at h
 | .ptr _ _::_,_,_,h,_=>by simp[hB]at h
 | .dA _ _::_,_,_,h,_=>by simp[hB]at h
 | .cW _ _ _::_,_,_,h,_=>by simp[hB]at h
 | .aO _::_,_,_,h,_=>by simp[hB]at h
 | .fn _ _ _::_,_,_,h,_=>by simp[hB]at h
 | .ref _::_,_,_,h,_=>by simp[hB]at h
 | .top::_,_,_,h,_=>by simp[hB]at h
theorem QP{t:TypeId}{fs:List Field}(h:m6 P t=some fs){cs ds:List aD}{xs ys:List Value}{b:Bool}(nV:hB cs=some xs)(mm:hB ds=some ys)(ad:zp P 0 fs xs ys=some b)
 {w:World}{ro:Nat→Prop}{σ:Heap}{β:Nat→Value}{N:Nat}{X Y:Value}(hM:bs w ro σ β N (.agg cs) X)(o0:bs w ro σ β N (.agg ds) Y):
 ∃p q,X= .agg p∧Y= .agg q∧P.eqGuardType P.depth t=false∧(Op.equalIn 10000 t (.agg p) (.agg q)).run P w= .ok b w:=by
 unfold m6 at h
 split at h
 ·rename_i CZ hu
  split at h
  ·cases h
  ·rename_i hc
   simp only[Bool.or_eq_true,not_or,Bool.not_eq_true]at hc;simp only[Option.some.injEq]at h;subst h
   cases hM with
   |agg _ p ak JE=>
    cases o0 with
    |agg _ q aJ JF=>
     refine⟨p,q,rfl,rfl,hc.2,?_⟩
     have qh:P.fieldsOf t=CZ:=by simp[Program.fieldsOf,hu]
     rw[run_equalIn_struct w 9999 t p q (by rw[qh];exact hu) hc.1,qh]
     obtain⟨aa,ae⟩:=zq (c:=fun j=>p.getD j undef) nV JE;obtain⟨au,aR⟩:=zq (c:=fun j=>q.getD j undef) mm JF;refine QO CZ.toList 0 xs ys p q b 9998 w ad (by omega) (fun j x ag=>?_) (fun j x ag=>?_)
     ·have bI:j<p.size:=by
       rcases Nat.lt_or_ge j xs.length with h|h
       ·omega
       ·rw[List.getElem?_eq_none h]at ag;cases ag
      have:=ae j x ag
      simp[bI]at this;simp[bI,this]
     ·have bI:j<q.size:=by
       rcases Nat.lt_or_ge j ys.length with h|h
       ·omega
       ·rw[List.getElem?_eq_none h]at ag;cases ag
      have:=aR j x ag
      simp[bI]at this;simp[bI,this]
 ·rename_i n e hu
  split at h
  ·rename_i inf wC
   split at h
   ·cases h
   ·rename_i hc
    simp only[Bool.not_eq_true]at hc;simp only[Option.some.injEq]at h;subst h
    cases hM with
    |agg _ p ak JE=>
     cases o0 with
     |agg _ q aJ JF=>
      refine⟨p,q,rfl,rfl,hc,?_⟩
      rw[run_equalIn_array w 9999 p q hu wC,←JC];obtain⟨aa,ae⟩:=zq (c:=fun j=>p.getD j undef) nV JE;obtain⟨au,aR⟩:=zq (c:=fun j=>q.getD j undef) mm JF;refine QO _ 0 xs ys p q b 9998 w ad (by omega) (fun j x ag=>?_) (fun j x ag=>?_)
      ·have bI:j<p.size:=by
        rcases Nat.lt_or_ge j xs.length with h|h
        ·omega
        ·rw[List.getElem?_eq_none h]at ag;cases ag
       have:=ae j x ag
       simp[bI]at this;simp[bI,this]
      ·have bI:j<q.size:=by
        rcases Nat.lt_or_ge j ys.length with h|h
        ·omega
        ·rw[List.getElem?_eq_none h]at ag;cases ag
       have:=aR j x ag
       simp[bI]at this;simp[bI,this]
  ·cases h
 ·cases h
theorem QQ(cw ty:TypeId)(x y:Operand)(an:o.op= .binOp .eql cw x y ty){fs:List Field}(h:m6 P cw=some fs){cs ds:List aD}(hx:aL G s x= .agg cs)(ax:aL G s y= .agg ds)
 {xs ys:List Value}{b:Bool}(nV:hB cs=some xs)(mm:hB ds=some ys)(ad:zp P 0 fs xs ys=some b):cN P G o s (.av (.v (.bool b))):=
 fun _ a w β ro af=>by
  obtain⟨p,q,aa,ae,au,aR⟩:=QP h nV mm ad (hx ▸ af.eval x) (ax ▸ af.eval y);exact⟨.bool b,by simp only[execOp,an,aa,ae,Sem.run_bind,run_eqGuard_agg w .eql cw x y p q au,Result.andThen_ok,run_eql_struct,aR,Sem.run_pure],.fz rfl⟩
theorem QR(cw ty:TypeId)(x y:Operand)(an:o.op= .binOp .neq cw x y ty){fs:List Field}(h:m6 P cw=some fs){cs ds:List aD}(hx:aL G s x= .agg cs)(ax:aL G s y= .agg ds)
 {xs ys:List Value}{b:Bool}(nV:hB cs=some xs)(mm:hB ds=some ys)(ad:zp P 0 fs xs ys=some b):cN P G o s (.av (.v (.bool (!b)))):=
 fun _ a w β ro af=>by
  obtain⟨p,q,aa,ae,au,aR⟩:=QP h nV mm ad (hx ▸ af.eval x) (ax ▸ af.eval y);exact⟨.bool (!b),by simp only[execOp,an,aa,ae,Sem.run_bind,run_eqGuard_agg w .neq cw x y p q au,Result.andThen_ok,run_neq_struct,aR,Sem.run_pure],.fz rfl⟩
theorem QS(t:TypeId)(x:Operand)(an:o.op= .unOp .not t x){b:Bool}(hx:aL G s x= .av (.v (.bool b))):cN P G o s (.av (.v (.bool (!b)))):=
 fun _ a w β ro af=>⟨.bool (!b),by simp[execOp,an,af.ec hx,Op.unary],.fz rfl⟩
theorem QT(t:TypeId)(x:Operand)(an:o.op= .unOp .neg t x){k:IntKind}{n:Int}(hx:aL G s x= .av (.v (.int k n))):cN P G o s (.av (.v (.int k (k.wrap (0-n))))):=
 fun _ a w β ro af=>⟨.int k (k.wrap (0-n)),by simp[execOp,an,af.ec hx,Op.unary,Op.intArith],.fz rfl⟩
theorem zr(c x y:Operand)(an:o.op= .pick c x y){b:Bool}(hc:aL G s c= .av (.v (.bool b))){v:aD}(aw:(if b then aL G s x else aL G s y)=v):cN P G o s v:=
 fun _ a w β ro af=>⟨if b then a.eval x else a.eval y,by simp[execOp,an,af.ec hc,asBool],by
  subst aw
  cases b
  ·simpa using af.eval y
  ·simpa using af.eval x⟩
theorem QU(x:Operand)(i:Nat)(an:o.op= .extract x i){cs:List aD}(hx:aL G s x= .tuple cs){v:aD}(aw:cs[i]? =some v):cN P G o s v:=
 fun _ a w β ro af=>by
  have h:=af.eval x
  rw[hx]at h;generalize he:a.eval x=c at h
  cases h with
  |tuple _ c ai hc=>
   have bI:i<c.size:=by have:=(List.getElem?_eq_some_iff.1 aw).1;omega
   refine⟨c[i],?_,?_⟩
   ·simp[execOp,an,Instr.extract,he,bI]
   ·simpa[bI]using hc i v aw
end
end Go.aM
