/- The AV calculus, part A: values as trees, the relation between a symbolic state and a world, and how it is kept. Conditions: none; nothing here speaks of a particular program. -/
import Derived.Test.YtmkpmgfieagphaaGreatDoorKST0
import Derived.Laws.StructEq
import Derived.ChangeKeysEq
namespace Go.aK
open Go
theorem qh(a:Addr)(n:Nat):(a.add n).block=a.block:=by unfold Addr.add;split<;>rfl
theorem zB(a:Addr)(i j:Nat):(a.add i).add j=a.add (i+j):=by
 unfold Addr.add
 by_cases hi:i=0<;>by_cases af:j=0<;>simp[hi,af,Nat.add_assoc]
theorem addLit(b o n:Nat):(⟨b,o,none⟩:Addr).add n=⟨b,o+n,none⟩:=by
 unfold Addr.add;split
 ·rename_i h;subst h;rfl
 ·rfl
inductive aD where
 |av (x:a1)
 |agg (cs:List aD)
 |tuple (cs:List aD)
 |ptr (id off:Nat)
 |cV (id i off:Nat)
 |aN (id:Nat)
 |fn (f:Fn) (first captured:List aD)
 |ref (id:Nat)
 |dz (id n:Nat)
 |top
def QP(agg:Bool)(n:Nat)(v:Value)(p:Nat→Value):Prop:=
 match agg with
 |true=>∃c:Array Value,v= .agg c∧c.size=n∧∀i,i<n→c.getD i undef=p i
 |false=>n=1∧v=p 0
inductive cQ (w:World) (ro:Nat→Prop):a1→Value→Prop where
 |v (x:Value):x.oneCell'=true→cQ w ro (.v x) x
 |ptr (cs:List a1) (a:Addr) (c:Nat→Value):(∀j x,cs[j]? =some x→ro a.block∧w.cell? (a.add j)=some (c j))→
  (∀j x,cs[j]? =some x→cQ w ro x (c j))→cQ w ro (.ptr cs) (.pointer (some a))
 |aN (n:Nat) (es:List (List a1)) (b:Option Addr) (cap:Nat) (c:Nat→Value):es.length≤cap→cap≤maxLen→(∀e∈es,e.length=n)→
  (0<es.length→∃a,b=some a∧∀j,j<es.length*n→ro a.block∧w.cell? (a.add j)=some (c j))→
  (∀j x,es.flatten[j]? =some x→cQ w ro x (c j))→cQ w ro (.aN n es) (.slice b es.length cap)
 |mp (agg:Bool) (ks:List Value) (vs:List (List a1)) (r:Nat) (es:Array MapEntry) (clock:Nat) (p:Nat→Nat→Value):ro r→w.heap[r]? =some (.map es clock)→es.size=ks.length→vs.length=ks.length→ks.Nodup→
  (∀j k cs,ks[j]? =some k→vs[j]? =some cs→∃e:MapEntry,es[j]? =some e∧e.key=k∧QP agg cs.length e.val (p j))→
  (∀j cs i x,vs[j]? =some cs→cs[i]? =some x→cQ w ro x (p j i))→cQ w ro (.mp agg ks vs) (.map (some r))
 |li (i:bK) (l:List (fN i)) (c:Value):cQ w ro (.aN (bY i) (l.map (b9 i))) c→cQ w ro (.li i l) c
 |er (t:TypeId) (agg:Bool) (cs:List a1) (v:Value) (p:Nat→Value):QP agg cs.length v p→(∀i x,cs[i]? =some x→cQ w ro x (p i))→cQ w ro (.er t agg cs) (.iface t v)
theorem cQ.one{w:World}{ro:Nat→Prop}{x:a1}{c:Value}(h:cQ w ro x c):c.oneCell'=true:=by
 induction h with
 |v x hx=>exact hx
 |ptr=>rfl
 |aN=>rfl
 |mp=>rfl
 |li i l c h aX=>exact aX
 |er=>rfl
theorem cQ.keep{w w':World}{ro ro':Nat→Prop}{x:a1}{c:Value}(h:cQ w ro x c)
 (hw: ∀b,ro b→w'.heap[b]? =w.heap[b]?)(cb: ∀b,ro b→ro' b):cQ w' ro' x c:=by
 induction h with
 |v x hx=>exact .v x hx
 |ptr cs a c aa _ aX=>
  exact .ptr cs a c (fun j x af=>⟨cb _ (aa j x af).1,by
   rw[World.cell?_of_block (w:=w) (by rw[qh];exact hw _ (aa j x af).1)];exact(aa j x af).2⟩) aX
 |aN n es b cap c aa ae au aP _ aX=>
  refine .aN n es b cap c aa ae au (fun ak=>?_) aX
  obtain⟨a,ad,hc⟩:=aP ak
  exact⟨a,ad,fun j af=>⟨cb _ (hc j af).1,by
   rw[World.cell?_of_block (w:=w) (by rw[qh];exact hw _ (hc j af).1)];exact(hc j af).2⟩⟩
 |mp agg ks vs r es clock p aa ae au aP bE cF _ aX=>exact .mp agg ks vs r es clock p (cb _ aa) ((hw _ aa).trans ae) au aP bE cF aX
 |li i l c _ aX=>exact .li i l c aX
 |er t agg cs v p aa _ aX=>exact .er t agg cs v p aa aX
def b2:Value→Option Nat
 | .pointer (some a)=>some a.block
 | .slice (some a) _ cap=>if cap=0 then none else some a.block
 | .map (some r)=>some r
 |_=>none
structure wQ where
 holds:(a1→Value→Prop)→Value→Obj→Prop
 mono: ∀(R rp:a1→Value→Prop) v o,(∀x c,R x c→rp x c)→holds R v o→holds rp v o
 view:Option a1
 QQ: ∀av,view=some av→∀(w:World) (ro ro':Nat→Prop) (v:Value) (o:Obj) (b:Nat),holds (cQ w ro) v o→b2 v=some b→w.heap[b]? =some o→(∀x,ro x→ro' x)→ro' b→cQ w ro' av v
inductive ej where
 |box (t:TypeId) (cs:List aD)
 |row (QR:Bool) (t:TypeId) (n:Nat) (es:List (List a1))
 |bL (bO:wQ)
def ej.live:ej→Bool
 | .box _ _=>true
 | .row QR _ _ _=>!QR
 | .bL _=>true
abbrev Heap:=List (Nat × ej)
def aE:Heap→Nat→Option ej
 |[],_=>none
 |(k,o)::r,id=>if k=id then some o else aE r id
def eM:Heap→Nat→ej→Heap
 |[],id,o=>[(id,o)]
 |(k,x)::r,id,o=>if k=id then(k,o)::r else(k,x)::eM r id o
def gj:Heap→Nat→Heap
 |[],_=>[]
 |(k,x)::r,id=>if k=id then gj r id else(k,x)::gj r id
theorem wR(h:Heap)(id:Nat)(o:ej)(k:Nat):aE (eM h id o) k=if id=k then some o else aE h k:=by
 induction h with
 |nil=>simp[eM,aE]
 |cons p r aX=>
  obtain⟨j,x⟩:=p
  by_cases af:j=id
  ·subst af
   by_cases aj:j=k<;>simp[eM,aE,aj]
  ·by_cases aj:j=k
   ·subst aj
    simp[eM,aE,af,Ne.symm af]
   ·simp[eM,aE,af,aj,aX]
theorem zC(h:Heap)(id k:Nat):aE (gj h id) k=if id=k then none else aE h k:=by
 induction h with
 |nil=>simp[gj,aE]
 |cons p r aX=>
  obtain⟨j,x⟩:=p
  by_cases af:j=id
  ·subst af
   by_cases aj:j=k
   ·subst aj;simp[gj,aX]
   ·simp[gj,aE,aj,aX]
  ·by_cases aj:j=k
   ·subst aj
    simp[gj,aE,af,Ne.symm af]
   ·simp[gj,aE,af,aj,aX]
def ia(w:World)(t:TypeId)(n:Nat)(v:Value)(len:Nat)(xs:List Value):Prop:=
 xs.length=len*n∧(((∃b,v= .slice b 0 0∧∀a,b=some a→a.block<w.heap.size)∧len=0)∨
  ∃g cap cur,v= .slice (some ⟨g,0,none⟩) len cap∧0<cap∧w.heap[g]? =some (.cells cur t (0,0))∧len≤cap∧cap≤maxLen∧cur.size=cap*n∧cur.toList.take (len*n)=xs)
inductive br (w:World) (ro:Nat→Prop) (σ:Heap) (β:Nat→Value) (N:Nat):aD→Value→Prop where
 |av (x:a1) (c:Value):cQ w ro x c→br w ro σ β N (.av x) c
 |agg (cs:List aD) (c:Array Value):c.size=cs.length→(∀j x,cs[j]? =some x→br w ro σ β N x (c.getD j undef))→br w ro σ β N (.agg cs) (.agg c)
 |tuple (cs:List aD) (c:Array Value):c.size=cs.length→(∀j x,cs[j]? =some x→br w ro σ β N x (c.getD j undef))→br w ro σ β N (.tuple cs) (.tuple c)
 |ptr (id off:Nat) (c:Value):id<N→(∀t cs,aE σ id=some (.box t cs)→∃b,β id= .pointer (some ⟨b,0,none⟩)∧c= .pointer (some ⟨b,off,none⟩))→br w ro σ β N (.ptr id off) c
 |dz (id n:Nat) (c:Value):id<N→(∀t cs,aE σ id=some (.box t cs)→∃b,β id= .pointer (some ⟨b,0,none⟩)∧c= .slice (some ⟨b,0,none⟩) n n)→br w ro σ β N (.dz id n) c
 |cV (id i off:Nat) (c:Value):id<N→(∀z t n es,aE σ id=some (.row z t n es)→∃b l h0,β id= .slice (some ⟨b,0,none⟩) l h0∧c= .pointer (some ⟨b,i*n+off,none⟩))→br w ro σ β N (.cV id i off) c
 |aN (id:Nat) (c:Value):id<N→(∀z t n es,aE σ id=some (.row z t n es)→c=β id)→br w ro σ β N (.aN id) c
 |fn (f:Fn) (p q:List aD) (c d:Array Value):c.size=p.length→d.size=q.length→(∀j x,p[j]? =some x→br w ro σ β N x (c.getD j undef))→
  (∀j x,q[j]? =some x→br w ro σ β N x (d.getD j undef))→br w ro σ β N (.fn f p q) (.func f c d)
 |ref (id:Nat) (c:Value):id<N→(∀bO,aE σ id=some (.bL bO)→c=β id)→br w ro σ β N (.ref id) c
 |top (c:Value):br w ro σ β N .top c
inductive k8 (w:World) (ro:Nat→Prop) (σ:Heap) (β:Nat→Value) (N:Nat) (id:Nat):ej→Prop where
 |box (t:TypeId) (cs:List aD) (b:Nat) (arr:Array Value):β id= .pointer (some ⟨b,0,none⟩)→w.heap[b]? =some (.cells arr t (0,0))→arr.size=cs.length→
  (∀j x,cs[j]? =some x→br w ro σ β N x (arr.getD j undef))→k8 w ro σ β N id (.box t cs)
 |row (t:TypeId) (n:Nat) (es:List (List a1)) (xs:List Value):ia w t n (β id) es.length xs→(∀e∈es,e.length=n)→
  (∀j x,es.flatten[j]? =some x→cQ w ro x (xs.getD j undef))→k8 w ro σ β N id (.row false t n es)
 |ga (t:TypeId) (n:Nat) (es:List (List a1)):cQ w ro (.aN n es) (β id)→k8 w ro σ β N id (.row true t n es)
 |bL (bO:wQ) (b:Nat) (o:Obj):b2 (β id)=some b→w.heap[b]? =some o→bO.holds (cQ w ro) (β id) o→k8 w ro σ β N id (.bL bO)
theorem ia.hJ{w:World}{t:TypeId}{n:Nat}{v:Value}{len:Nat}{xs:List Value}(h:ia w t n v len xs){b:Nat}(ad:b2 v=some b):
 b<w.heap.size∧∃cap cur,v= .slice (some ⟨b,0,none⟩) len cap∧w.heap[b]? =some (.cells cur t (0,0)):=by
 rcases h.2 with⟨⟨c,rfl,_⟩,_⟩|⟨g,cap,cur,rfl,hc,ah,_⟩
 ·cases c<;>simp[b2]at ad
 ·have:cap≠0:=by omega
  simp[b2,this]at ad;subst ad;exact⟨(Array.getElem?_eq_some_iff.1 ah).1,cap,cur,rfl,ah⟩
theorem ia.keep{w w':World}{t:TypeId}{n:Nat}{v:Value}{len:Nat}{xs:List Value}(h:ia w t n v len xs)(hw: ∀b,b2 v=some b→w'.heap[b]? =w.heap[b]?)(bM:w.heap.size≤w'.heap.size):ia w' t n v len xs:=by
 refine⟨h.1,?_⟩
 rcases h.2 with⟨⟨b,aw,ad⟩,aq⟩|⟨g,cap,cur,aw,hc,ah,rest⟩
 ·exact .inl ⟨⟨b,aw,fun a aZ=>Nat.lt_of_lt_of_le (ad a aZ) bM⟩,aq⟩
 ·have:cap≠0:=by omega
  exact .inr ⟨g,cap,cur,aw,hc,(hw g (by rw[aw];simp[b2,this])).trans ah,rest⟩
theorem k8.hJ{w:World}{ro:Nat→Prop}{σ:Heap}{β:Nat→Value}{N id:Nat}{o:ej}(h:k8 w ro σ β N id o)(aq:o.live=true){b:Nat}(ad:b2 (β id)=some b):b<w.heap.size:=by
 cases h with
 |box t cs b' arr aa ae=>rw[aa]at ad;simp[b2]at ad;subst ad;exact(Array.getElem?_eq_some_iff.1 ae).1
 |row t n es xs aa=>exact(aa.hJ ad).1
 |ga=>simp[ej.live]at aq
 |bL bO b' o aa ae=>rw[aa]at ad;simp only[Option.some.injEq]at ad;subst ad;exact(Array.getElem?_eq_some_iff.1 ae).1
def Own(σ:Heap)(β:Nat→Value)(b:Nat):Prop:=∃id o,aE σ id=some o∧o.live=true∧b2 (β id)=some b
structure hh (w:World) (ro:Nat→Prop) (σ:Heap) (β:Nat→Value) (N:Nat):Prop where
 c5: ∀id o,aE σ id=some o→k8 w ro σ β N id o
 inj: ∀id gk o cz b,aE σ id=some o→aE σ gk=some cz→o.live=true→cz.live=true→b2 (β id)=some b→b2 (β gk)=some b→id=gk
 fg: ∀b,ro b→¬Own σ β b
 lt: ∀b,ro b→b<w.heap.size
abbrev a7:=Nat→Option (List a1)
def so(w:World)(ro:Nat→Prop)(G:a7):Prop:=∀g cs,G g=some cs→cQ w ro (.ptr cs) (.pointer (some ⟨g,0,none⟩))∧ro g∧∃arr t tU,w.heap[g]? =some (.cells arr t tU)∧arr.size=cs.length
structure Entry where
 w:World
 ro:Nat→Prop
 σ:Heap
 β:Nat→Value
 n:Nat
structure Trans (E:Entry) (w:World) (ro:Nat→Prop) (σ:Heap) (β:Nat→Value) (n:Nat):Prop where
 os:w.os=E.w.os
 tape:w.tape=E.w.tape
 output:w.output=E.w.output
 size:E.w.heap.size≤w.heap.size
 frame: ∀b,b<E.w.heap.size→¬Own E.σ E.β b→w.heap[b]? =E.w.heap[b]?
 jk: ∀b,ro b→E.ro b∨Own E.σ E.β b∨E.w.heap.size≤b
 j1: ∀b,E.ro b→ro b
 hj: ∀b,Own σ β b→Own E.σ E.β b∨E.w.heap.size≤b
 dK: ∀id,id<E.n→∀o,aE σ id=some o→aE E.σ id≠none∧β id=E.β id
 new: ∀id o,aE σ id=some o→id<n
 le:E.n≤n
structure aO where
 cR:List aD
 heap:Heap
 next:Nat
 base:Nat
structure c2 (E:Entry) (G:a7) (s:aO) (a:Act) (w:World) (β:Nat→Value) (ro:Nat→Prop):Prop where
 defers:a.defers=[]
 size:a.tmps.size=s.cR.length
 slot: ∀i x,s.cR[i]? =some x→br w ro s.heap β s.next x (a.tmps.getD i undef)
 heap:hh w ro s.heap β s.next
 ib:so w ro G
 trans:Trans E w ro s.heap β s.next
 base:E.n≤s.base
def Rel(E:Entry)(G:a7)(s:aO)(a:Act)(w:World):Prop:=∃β ro,c2 E G s a w β ro
theorem br.keep{w w':World}{ro ro':Nat→Prop}{σ eU:Heap}{β dL:Nat→Value}{N oV:Nat}{x:aD}{c:Value}(h:br w ro σ β N x c)
 (hw: ∀b,ro b→w'.heap[b]? =w.heap[b]?)(cb: ∀b,ro b→ro' b)(gT:N≤oV)
 (nP: ∀id t cs,aE eU id=some (.box t cs)→dL id=β id∧∃t cs,aE σ id=some (.box t cs))
 (cY: ∀id z t n es,aE eU id=some (.row z t n es)→dL id=β id∧∃z t es,aE σ id=some (.row z t n es))
 (nQ: ∀id bO,aE eU id=some (.bL bO)→dL id=β id∧∃bO,aE σ id=some (.bL bO)):br w' ro' eU dL oV x c:=by
 induction h with
 |av x c hx=>exact .av x c (hx.keep hw cb)
 |agg cs c ai _ aX=>exact .agg cs c ai aX
 |tuple cs c ai _ aX=>exact .tuple cs c ai aX
 |ptr id off c aq ak=>
  refine .ptr id off c (by omega) fun t cs ah=>?_
  obtain⟨ad,bC,cs',dV⟩:=nP id t cs ah;obtain⟨b,aa,ae⟩:=ak bC cs' dV;exact⟨b,ad.trans aa,ae⟩
 |dz id off c aq ak=>
  refine .dz id off c (by omega) fun t cs ah=>?_
  obtain⟨ad,bC,cs',dV⟩:=nP id t cs ah;obtain⟨b,aa,ae⟩:=ak bC cs' dV;exact⟨b,ad.trans aa,ae⟩
 |cV id i off c aq ak=>
  refine .cV id i off c (by omega) fun z t n es ah=>?_
  obtain⟨ad,iv,bC,dP,dV⟩:=cY id z t n es ah;obtain⟨b,l,h0,aa,ae⟩:=ak iv bC n dP dV;exact⟨b,l,h0,ad.trans aa,ae⟩
 |aN id c aq ak=>
  refine .aN id c (by omega) fun z t n es ah=>?_
  obtain⟨ad,iv,bC,dP,dV⟩:=cY id z t n es ah;rw[ad];exact ak iv bC n dP dV
 |fn f p q c d aa ae _ _ hk hl=>exact .fn f p q c d aa ae hk hl
 |ref id c aq ak=>
  refine .ref id c (by omega) fun bO ah=>?_
  obtain⟨ad,lH,dV⟩:=nQ id bO ah;rw[ad];exact ak lH dV
 |top c=>exact .top c
theorem so.keep{w w':World}{ro ro':Nat→Prop}{G:a7}(h:so w ro G)
 (hw: ∀b,ro b→w'.heap[b]? =w.heap[b]?)(cb: ∀b,ro b→ro' b):so w' ro' G:=fun g cs ah=>by
 obtain⟨aa,ae,arr,t,tU,au,aP⟩:=h g cs ah
 exact⟨aa.keep hw cb,cb g ae,arr,t,tU,(hw g ae).trans au,aP⟩
def aO.put(s:aO)(dst:Option Nat)(v:aD):aO:=
 match dst with
 |some d=>{s with cR:=s.cR.set d v}
 |none=>s
theorem c2.put{E:Entry}{G:a7}{s:aO}{a:Act}{w:World}{β:Nat→Value}{ro:Nat→Prop}(h:c2 E G s a w β ro)(dst:Option Nat)(v:aD)(c:Value)
 (aw:br w ro s.heap β s.next v c):c2 E G (s.put dst v) (a.put dst c) w β ro:=by
 cases dst with
 |none=>exact h
 |some d=>
  refine⟨h.defers,by simpa[Act.put,aO.put]using h.size,fun i x hx=>?_,h.heap,h.ib,h.trans,h.base⟩
  simp only[aO.put,Act.put]at hx⊢;rw[List.getElem?_set]at hx
  have bM:=h.size
  by_cases JY:d=i
  ·subst JY
   simp only[if_true]at hx
   split at hx
   ·rename_i bG
    simp only[Option.some.injEq]at hx;subst hx
    have:d<a.tmps.size:=by omega
    simpa[this]using aw
   ·cases hx
  ·simp only[JY,if_false]at hx
   have:=h.slot i x hx
   simpa[Array.getElem?_setIfInBounds_ne JY]using this
end Go.aK
namespace Go.aK
open Go
def aI(G:a7)(s:aO):Operand→aD
 | .tmp t=>s.cR.getD t .top
 | .const v=>if v.oneCell' then .av (.v v)else .top
 | .global g=>match G g with
  |some cs=>.av (.ptr cs)
  |none=>.top
 | .func f=>.fn (.func f) [] []
theorem c2.eval{E:Entry}{G:a7}{s:aO}{a:Act}{w:World}{β:Nat→Value}{ro:Nat→Prop}(h:c2 E G s a w β ro)(x:Operand):
 br w ro s.heap β s.next (aI G s x) (a.eval x):=by
 cases x with
 |tmp t=>
  simp only[aI,Act.eval]
  cases aG:s.cR[t]? with
  |none=>simp only[List.getD,aG];exact .top _
  |some v=>simp only[List.getD,aG];exact h.slot t v aG
 |const v=>
  simp only[aI,Act.eval]
  split
  ·exact .av _ _ (.v _ (by assumption))
  ·exact .top _
 |global g=>
  simp only[aI,Act.eval]
  split
  ·exact .av _ _ (h.ib g _ (by assumption)).1
  ·exact .top _
 |func f=>exact .fn _ _ _ _ _ rfl rfl (by simp) (by simp)
def dQ(P:Program)(G:a7)(o:Oper)(s bo:aO):Prop:=
 ∀E a w,Rel E G s a w→∀(K:Act→World→Prop) (Q:Exit→Act→World→Prop),(∀bb w',Rel E G bo bb w'→K bb w')→o.wp P a w K Q
def gb(w w':World):Prop:=∀b,b<w.heap.size→w'.heap[b]? =w.heap[b]?
def mf(P:Program)(G:a7)(o:Oper)(s bo:aO):Prop:=
 ∀E a w,Rel E G s a w→∀(K:Act→World→Prop) (Q:Exit→Act→World→Prop),(∀bb w',Rel E G bo bb w'→gb w w'→K bb w')→o.wp P a w K Q
theorem mf.op{P:Program}{G:a7}{o:Oper}{s bo:aO}(h:mf P G o s bo):dQ P G o s bo:=fun E a w ag K Q hK=>h E a w ag K Q fun bb w' dW _=>hK bb w' dW
section
variable {P:Program} {G:a7} {o:Oper} {s:aO}
theorem dQ.value{v:aD}(h: ∀E a w β ro,c2 E G s a w β ro→∃c,(execOp a.eval o).run P w= .ok (.value c) w∧br w ro s.heap β s.next v c):
 dQ P G o s (s.put o.dst v):=by
 intro E a w ⟨β,ro,ag⟩ K Q hK
 obtain⟨c,cq,aw⟩:=h E a w β ro ag
 unfold Oper.wp
 rw[cq]
 exact hK _ _ ⟨β,ro,ag.put o.dst v c aw⟩
abbrev cP(P:Program)(G:a7)(o:Oper)(s:aO)(v:aD):Prop:=
 ∀E a w β ro,c2 E G s a w β ro→∃c,(execOp a.eval o).run P w= .ok (.value c) w∧br w ro s.heap β s.next v c
theorem cP.step{v:aD}(h:cP P G o s v):dQ P G o s (s.put o.dst v):=.value h
theorem cP.QS{v:aD}(h:cP P G o s v):mf P G o s (s.put o.dst v):=by
 intro E a w ⟨β,ro,ag⟩ K Q hK
 obtain⟨c,cq,aw⟩:=h E a w β ro ag
 unfold Oper.wp
 rw[cq]
 exact hK _ _ ⟨β,ro,ag.put o.dst v c aw⟩ fun _ _=>rfl
theorem QT(x:Operand)(an:o.op= .move x):cP P G o s (aI G s x):=
 fun _ a w _ _ ag=>⟨a.eval x,by simp[execOp,an],ag.eval x⟩
theorem QU(x:Operand)(an:o.op= .assign x):cP P G o s (aI G s x):=
 fun _ a w _ _ ag=>⟨a.eval x,by simp[execOp,an],ag.eval x⟩
def fo(σ:Heap):aD→Option (List aD)
 | .av (.ptr cs)=>some (cs.map .av)
 | .ptr id off=>match aE σ id with
  |some (.box _ cs)=>some (cs.drop off)
  |_=>none
 | .cV id i off=>match aE σ id with
  |some (.row false _ _ es)=>match es[i]? with
   |some e=>some ((e.drop off).map .av)
   |none=>none
  |_=>none
 |_=>none
theorem rq{α:Type}{n:Nat}: ∀{es:List (List α)},(∀e∈es,e.length=n)→∀{i:Nat} {e:List α},es[i]? =some e→∀j,j<n→es.flatten[i*n+j]? =e[j]?
 |[],_,i,e,h,_,_=>by simp at h
 |x::r,hn,i,e,h,j,af=>by
  have hx:x.length=n:=hn x (by simp)
  cases i with
  |zero=>
   simp at h;subst h;simp only[List.flatten_cons,Nat.zero_mul,Nat.zero_add];rw[List.getElem?_append_left (by omega)]
  |succ i=>
   simp at h
   have aX:=rq (es:=r) (fun e he=>hn e (by simp[he])) h j af
   simp only[List.flatten_cons];rw[List.getElem?_append_right (by rw[Nat.succ_mul];omega),←aX]
   congr 1
   rw[Nat.succ_mul];omega
theorem j2{α:Type}{n:Nat}: ∀{es:List (List α)},(∀e∈es,e.length=n)→es.flatten.length=es.length*n
 |[],_=>by simp
 |x::r,hn=>by
  simp only[List.flatten_cons,List.length_append,List.length_cons,Nat.succ_mul];rw[j2 (es:=r) (fun e he=>hn e (by simp[he])),hn x (by simp)]
  omega
theorem br.one{w:World}{ro:Nat→Prop}{σ:Heap}{β:Nat→Value}{N:Nat}{x:a1}{c:Value}(h:br w ro σ β N (.av x) c):c.oneCell'=true:=by
 cases h with
 |av _ _ h=>exact h.one
theorem wS{w:World}{ro:Nat→Prop}{σ:Heap}{β:Nat→Value}{N:Nat}(ba:hh w ro σ β N){p:aD}{c:Value}{cs:List aD}(ak:fo σ p=some cs)(hc:br w ro σ β N p c)
 (b3:cs≠[]): ∃a,c= .pointer (some a)∧∃f:Nat→Value,∀j x,cs[j]? =some x→w.cell? (a.add j)=some (f j)∧br w ro σ β N x (f j):=by
 cases hc with
 |av x c hx=>
  cases hx with
  |v x=>simp[fo]at ak
  |ptr cs' a f aa ae=>
   simp only[fo,Option.some.injEq]at ak;subst ak;refine⟨a,rfl,f,fun j x af=>?_⟩
   rw[List.getElem?_map]at af
   cases oW:cs'[j]? with
   |none=>simp[oW]at af
   |some y=>
    simp[oW]at af;subst af;exact⟨(aa j y oW).2,.av _ _ (ae j y oW)⟩
  |aN=>simp[fo]at ak
  |mp=>simp[fo]at ak
  |er=>simp[fo]at ak
  |li=>simp[fo]at ak
 |ptr id off c bG sR=>
  simp only[fo]at ak
  cases an:aE σ id with
  |none=>simp[an]at ak
  |some ic=>
   cases ic with
   |row=>simp[an]at ak
   |bL=>simp[an]at ak
   |box t cs'=>
    simp only[an,Option.some.injEq]at ak;subst ak;obtain⟨b,ad,rfl⟩:=sR t cs' an
    have dg:=ba.c5 id _ an
    cases dg with
    |box _ _ b' arr gy ah bM eV=>
     rw[ad]at gy;simp only[Value.pointer.injEq,Option.some.injEq,Addr.mk.injEq,and_true]at gy;subst gy;refine⟨_,rfl,fun j=>arr.getD (off+j) undef,fun j x af=>?_⟩
     rw[List.getElem?_drop]at af
     have bG:off+j<cs'.length:=by
      rcases Nat.lt_or_ge (off+j) cs'.length with h|h
      ·exact h
      ·rw[List.getElem?_eq_none h]at af;cases af
     refine⟨?_,eV _ _ af⟩
     rw[addLit,cell_of_row w b (off+j) arr t (0,0) ah]
     have:off+j<arr.size:=by omega
     simp[this]
 |cV id i off c bG sR=>
  simp only[fo]at ak
  cases an:aE σ id with
  |none=>simp[an]at ak
  |some ic=>
   cases ic with
   |box=>simp[an]at ak
   |bL=>simp[an]at ak
   |row z t n es=>
    cases z with
    |true=>simp[an]at ak
    |false=>
     simp only[an]at ak
     cases mZ:es[i]? with
     |none=>simp[mZ]at ak
     |some e=>
      simp only[mZ,Option.some.injEq]at ak;subst ak;obtain⟨b,l,h0,ad,rfl⟩:=sR false t n es an
      have dg:=ba.c5 id _ an
      cases dg with
      |row _ _ _ xs hA hn eV=>
       rw[ad]at hA;obtain⟨Dh,mO⟩:=hA
       rcases mO with⟨⟨_,h,_⟩,aR⟩|⟨g,cap,cur,aw,_,ah,hle,ie,dI,lI⟩
       ·have:=(List.getElem?_eq_some_iff.1 mZ).1;omega
       ·simp only[Value.slice.injEq,Option.some.injEq,Addr.mk.injEq,and_true]at aw
        obtain⟨rfl,_,_⟩:=aw;refine⟨_,rfl,fun j=>xs.getD (i*n+(off+j)) undef,fun j x af=>?_⟩
        rw[List.getElem?_map]at af
        cases oW:(e.drop off)[j]? with
        |none=>simp[oW]at af
        |some y=>
         simp[oW]at af;subst af;rw[List.getElem?_drop]at oW
         have nR:e.length=n:=hn e (List.mem_of_getElem? mZ)
         have mT:off+j<n:=by
          rcases Nat.lt_or_ge (off+j) e.length with h|h
          ·omega
          ·rw[List.getElem?_eq_none h]at oW;cases oW
         have mg:es.flatten[i*n+(off+j)]? =some y:=by rw[rq hn mZ _ mT];exact oW
         refine⟨?_,.av _ _ (eV _ _ mg)⟩
         have jK:i*n+(off+j)<xs.length:=by
          have aa:i*n+(off+j)<es.flatten.length:=by
           rcases Nat.lt_or_ge (i*n+(off+j)) es.flatten.length with h|h
           ·exact h
           ·rw[List.getElem?_eq_none h]at mg;cases mg
          rw[j2 hn]at aa
          have ae:=Dh
          omega
         rw[addLit,Nat.add_assoc,cell_of_row w b _ cur t (0,0) ah]
         have hx:xs[i*n+(off+j)]? =cur[i*n+(off+j)]? :=by
          rw[←lI,List.getElem?_take]
          have ae:=Dh
          rw[if_pos (by omega)]
          simp
         rw[←hx];simp[List.getD,List.getElem?_eq_getElem jK]
 |agg=>simp[fo]at ak
 |tuple=>simp[fo]at ak
 |aN=>simp[fo]at ak
 |fn=>simp[fo]at ak
 |ref=>simp[fo]at ak
 |dz=>simp[fo]at ak
 |top=>simp[fo]at ak
def mh(P:Program)(t:TypeId):Option Nat:=
 match P.underlying t with
 |some (.struct _)|some (.array _ _)=>(P.info? t).map (·.size)
 |_=>none
def scalar(P:Program)(t:TypeId):Bool:=
 match P.underlying t with
 |some (.struct _)|some (.array _ _)|none=>false
 |_=>true
theorem Di{t:TypeId}{n:Nat}(h:mh P t=some n)(w:World):(isAgg t).run P w= .ok true w∧(sizeOf t).run P w= .ok n w:=by
 unfold mh at h
 cases hu:P.underlying t with
 |none=>simp[hu]at h
 |some d=>
  cases hi:P.info? t with
  |none=>cases d<;>simp[hu,hi]at h
  |some i=>
   cases d<;>simp[hu,hi]at h
   all_goals
    subst h;exact⟨by simp[isAgg,run_underlying hu],by simp[sizeOf,typeInfo,hi]⟩
theorem zD{t:TypeId}(h:scalar P t=true)(w:World):(isAgg t).run P w= .ok false w:=by
 unfold scalar at h
 cases hu:P.underlying t with
 |none=>simp[hu]at h
 |some d=>cases d<;>simp[hu]at h<;>simp[isAgg,run_underlying hu]
theorem QV(t:TypeId)(x:Operand)(an:o.op= .load t x){n:Nat}(aG:mh P t=some n){cs:List aD}(ak:fo s.heap (aI G s x)=some cs)(hn:n≤cs.length)(aL:0<n):
 cP P G o s (.agg (cs.take n)):=
 fun _ a w β ro ag=>by
  obtain⟨cW,hc,f,hf⟩:=wS ag.heap ak (ag.eval x) (by intro h;subst h;simp at hn;omega)
  obtain⟨aa,ae⟩:=Di aG w
  have aq:=run_loadCells (P:=P) w cW n f (fun j af=>(hf j (cs[j]'(by omega)) (by simp)).1)
  refine⟨.agg ((List.range n).map f).toArray,?_,.agg _ _ (by simp;omega) fun j y af=>?_⟩
  ·simp[execOp,an,hc,Instr.loadAt,Instr.sureAddr,loadVar,aa,ae,aq]
  ·rw[List.getElem?_take]at af
   split at af
   ·have:=(hf j y af).2
    rename_i mT;simpa[mT]using this
   ·cases af
theorem JZ(t:TypeId)(x:Operand)(an:o.op= .load t x)(aG:scalar P t=true){y:aD}{cs:List aD}(ak:fo s.heap (aI G s x)=some (y::cs)):
 cP P G o s y:=
 fun _ a w β ro ag=>by
  obtain⟨cW,hc,f,hf⟩:=wS ag.heap ak (ag.eval x) (by simp)
  have aa:=zD aG w
  obtain⟨k9,dA⟩:=hf 0 y rfl;rw[show cW.add 0=cW from by simp[Addr.add]]at k9
  exact⟨f 0,by simp[execOp,an,hc,Instr.loadAt,Instr.sureAddr,loadVar,aa,run_load,k9],dA⟩
def sS(P:Program)(t:TypeId)(f:Nat):Option Nat:=
 match P.underlying t with
 |some (.struct fs)=>match fs[f]? with
  |some fd=>match P.info? fd.type with
   |some i=>if i.size=0 then none else some fd.offset
   |none=>none
  |none=>none
 |_=>none
def iO(k:Nat):aD→Option aD
 | .av (.ptr cs)=>some (.av (.ptr (cs.drop k)))
 | .ptr id off=>some (.ptr id (off+k))
 | .cV id i off=>some (.cV id i (off+k))
 |_=>none
theorem QW{w:World}{ro:Nat→Prop}{σ:Heap}{β:Nat→Value}{N:Nat}{p q:aD}{c:Value}{cs:List aD}{k:Nat}(ai:iO k p=some q)(ak:fo σ p=some cs)(hc:br w ro σ β N p c):
 ∃a,c= .pointer (some a)∧br w ro σ β N q (.pointer (some (a.add k))):=by
 cases hc with
 |av x c hx=>
  cases hx with
  |v x=>simp[iO]at ai
  |ptr cs' a f aa ae=>
   simp only[iO,Option.some.injEq]at ai;subst ai;refine⟨a,rfl,.av _ _ (.ptr _ _ (fun j=>f (k+j)) (fun j x af=>?_) (fun j x af=>?_))⟩
   ·rw[List.getElem?_drop]at af
    rw[qh,zB];exact aa _ _ af
   ·rw[List.getElem?_drop]at af
    exact ae _ _ af
  |aN=>simp[iO]at ai
  |mp=>simp[iO]at ai
  |er=>simp[iO]at ai
  |li=>simp[iO]at ai
 |ptr id off c bG sR=>
  simp only[iO,Option.some.injEq]at ai;subst ai;simp only[fo]at ak
  split at ak
  ·rename_i t cs' an
   obtain⟨b,ad,rfl⟩:=sR t cs' an;refine⟨_,rfl,.ptr _ _ _ bG fun bC zjJ lB=>⟨b,ad,by rw[addLit]⟩⟩
  ·cases ak
 |cV id i off c bG sR=>
  simp only[iO,Option.some.injEq]at ai;subst ai;simp only[fo]at ak
  split at ak
  ·rename_i t n es an
   obtain⟨b,l,h0,ad,rfl⟩:=sR false t n es an;refine⟨_,rfl,.cV _ _ _ _ bG fun iv bC cI dP lB=>⟨b,l,h0,ad,?_⟩⟩
   rw[an]at lB;simp only[Option.some.injEq,ej.row.injEq]at lB;obtain⟨_,_,rfl,_⟩:=lB;rw[addLit,Nat.add_assoc]
  ·cases ak
 |agg=>simp[iO]at ai
 |tuple=>simp[iO]at ai
 |aN=>simp[iO]at ai
 |fn=>simp[iO]at ai
 |ref=>simp[iO]at ai
 |dz=>simp[iO]at ai
 |top=>simp[iO]at ai
theorem QX{t f k:Nat}(h:sS P t f=some k)(a:Addr)(w:World):(Instr.fieldAt t (.pointer (some a)) f).run P w= .ok (.pointer (some (a.add k))) w:=by
 unfold sS at h
 split at h
 ·rename_i fs hu
  split at h
  ·rename_i fd hf
   split at h
   ·rename_i i hi
    split at h
    ·cases h
    ·rename_i aR
     simp only[Option.some.injEq]at h;subst h;simp[Instr.fieldAt,run_underlying hu,hf,Instr.sureAddr,fieldPlace,sizeOf,typeInfo,hi,aR]
   ·cases h
  ·cases h
 ·cases h
def jL(σ:Heap):aD→Bool
 | .av (.ptr _)=>true
 | .ptr id _=>match aE σ id with
  |some (.box _ _)=>true
  |_=>false
 | .cV id _ _=>match aE σ id with
  |some (.row _ _ _ _)=>true
  |_=>false
 |_=>false
def rr(k:Nat):aD→aD
 | .av (.ptr cs)=>.av (.ptr (cs.drop k))
 | .ptr id off=>.ptr id (off+k)
 | .cV id i off=>.cV id i (off+k)
 |x=>x
theorem zE{w:World}{ro:Nat→Prop}{σ:Heap}{β:Nat→Value}{N:Nat}{x:aD}{c:Value}(hx:jL σ x=true)(h:br w ro σ β N x c): ∃a,c= .pointer (some a)∧∀k,br w ro σ β N (rr k x) (.pointer (some (a.add k))):=by
 cases h with
 |av x c ag=>
  cases ag with
  |ptr cs a f aa ae=>
   refine⟨a,rfl,fun k=>.av _ _ (.ptr _ _ (fun j=>f (k+j)) (fun j x af=>?_) (fun j x af=>?_))⟩
   ·rw[List.getElem?_drop]at af
    rw[qh,zB];exact aa _ _ af
   ·rw[List.getElem?_drop]at af
    exact ae _ _ af
  |v=>simp[jL]at hx
  |aN=>simp[jL]at hx
  |mp=>simp[jL]at hx
  |er=>simp[jL]at hx
  |li=>simp[jL]at hx
 |ptr id off c aq ak=>
  simp only[jL]at hx
  split at hx
  ·rename_i t cs ah
   obtain⟨b,ad,rfl⟩:=ak t cs ah;refine⟨_,rfl,fun k=>.ptr id (off+k) _ aq fun bC cs' dV=>?_⟩
   obtain⟨b',gy,zF⟩:=ak bC cs' dV;rw[ad]at gy;simp only[Value.pointer.injEq,Option.some.injEq,Addr.mk.injEq,and_true]at gy;subst gy;exact⟨b,ad,by rw[addLit]⟩
  ·cases hx
 |cV id i off c aq ak=>
  simp only[jL]at hx
  split at hx
  ·rename_i z t n es ah
   obtain⟨b,l,h0,ad,rfl⟩:=ak z t n es ah;refine⟨_,rfl,fun k=>.cV id i (off+k) _ aq fun iv bC cI dP dV=>?_⟩
   rw[ah]at dV;simp only[Option.some.injEq,ej.row.injEq]at dV;obtain⟨_,_,rfl,_⟩:=dV;exact⟨b,l,h0,ad,by rw[addLit,Nat.add_assoc]⟩
  ·cases hx
 |_=>simp[jL]at hx
theorem QY(t:TypeId)(x:Operand)(f:Nat)(an:o.op= .fieldAddr t x f){k:Nat}(aj:sS P t f=some k)(ak:jL s.heap (aI G s x)=true):cP P G o s (rr k (aI G s x)):=
 fun _ a w β ro ag=>by
  obtain⟨cW,hc,dA⟩:=zE ak (ag.eval x);exact⟨_,by simp[execOp,an,hc,QX aj],dA k⟩
theorem QZ(x:Operand)(an:o.op= .nilCheck x)(ak:jL s.heap (aI G s x)=true):cP P G o s (aI G s x):=
 fun _ a w β ro ag=>by
  obtain⟨cW,hc,_⟩:=zE ak (ag.eval x);exact⟨_,by simp[execOp,an,hc],hc ▸ ag.eval x⟩
end
end Go.aK
namespace Go.aK
open Go
def gV(β:Nat→Value)(id:Nat)(v:Value):Nat→Value:=fun k=>if k=id then v else β k
theorem dR(β:Nat→Value)(id:Nat)(v:Value):gV β id v id=v:=by simp[gV]
theorem cZ(β:Nat→Value){id k:Nat}(v:Value)(h:k≠id):gV β id v k=β k:=by simp[gV,h]
section
variable {E:Entry} {G:a7} {s:aO} {a:Act} {w w':World} {β:Nat→Value} {ro:Nat→Prop}
theorem k8.keep{w w':World}{ro ro':Nat→Prop}{σ eU:Heap}{β dL:Nat→Value}{N oV:Nat}{id:Nat}{o:ej}(h:k8 w ro σ β N id o)
 (hw: ∀b,ro b→w'.heap[b]? =w.heap[b]?)(cb: ∀b,ro b→ro' b)(gT:N≤oV)(bM:w.heap.size≤w'.heap.size)(bc:dL id=β id)(gH:o.live=true→∀b,b2 (β id)=some b→w'.heap[b]? =w.heap[b]?)
 (nP: ∀id t cs,aE eU id=some (.box t cs)→dL id=β id∧∃t cs,aE σ id=some (.box t cs))
 (cY: ∀id z t n es,aE eU id=some (.row z t n es)→dL id=β id∧∃z t es,aE σ id=some (.row z t n es))
 (nQ: ∀id bO,aE eU id=some (.bL bO)→dL id=β id∧∃bO,aE σ id=some (.bL bO)):k8 w' ro' eU dL oV id o:=by
 cases h with
 |box t cs b arr aa ae au aP=>
  exact .box t cs b arr (bc.trans aa) ((gH rfl b (by rw[aa];rfl)).trans ae) au fun j x af=>(aP j x af).keep hw cb gT nP cY nQ
 |row t n es xs aa ae au=>
  exact .row t n es xs (by rw[bc];exact aa.keep (fun b ad=>gH rfl b ad) bM) ae fun j x af=>(au j x af).keep hw cb
 |ga t n es aa=>exact .ga t n es (by rw[bc];exact aa.keep hw cb)
 |bL bO b o aa ae au=>exact .bL bO b o (by rw[bc];exact aa) ((gH rfl b aa).trans ae) (by rw[bc];exact bO.mono _ _ _ _ (fun x c h=>h.keep hw cb) au)
theorem c2.new(h:c2 E G s a w β ro)(id:Nat)(bc:aE s.heap id=none)(ad:s.base≤id)(bG:s.next≤id)(o:ej)(val:Value)
 (oX:w'.os=w.os)(oY:w'.tape=w.tape)(kE:w'.output=w.output)(bM:w.heap.size≤w'.heap.size)(hw: ∀b,b<w.heap.size→w'.heap[b]? =w.heap[b]?)
 (gH: ∀b,b2 val=some b→w.heap.size≤b)(_hlive:o.live=true)
 (dg:k8 w' ro ((id,o)::s.heap) (gV β id val) (id+1) id o):c2 E G {s with heap:=(id,o)::s.heap,next:=id+1} a w' (gV β id val) ro:=by
 have cb: ∀b,ro b→w'.heap[b]? =w.heap[b]? :=fun b ag=>hw b (h.heap.lt b ag)
 have ah: ∀k,k≠id→aE ((id,o)::s.heap) k=aE s.heap k:=fun k aj=>by simp[aE,Ne.symm aj]
 have uQ:aE ((id,o)::s.heap) id=some o:=by simp[aE]
 have J0: ∀k p b,aE s.heap k=some p→p.live=true→b2 (β k)=some b→b<w.heap.size:=fun k p b aj ak bf=>(h.heap.c5 k p aj).hJ ak bf
 have key: ∀x c,br w ro s.heap β s.next x c→br w' ro ((id,o)::s.heap) (gV β id val) (id+1) x c:=by
  intro x c hx
  induction hx with
  |av x c hx=>exact .av x c (hx.keep cb fun _ h=>h)
  |agg cs c ai _ aX=>exact .agg cs c ai aX
  |tuple cs c ai _ aX=>exact .tuple cs c ai aX
  |ptr k off c aq ak=>
   have aj:k≠id:=by omega
   exact .ptr k off c (by omega) fun t cs bm=>by rw[cZ _ _ aj];rw[ah k aj]at bm;exact ak t cs bm
  |dz k off c aq ak=>
   have aj:k≠id:=by omega
   exact .dz k off c (by omega) fun t cs bm=>by rw[cZ _ _ aj];rw[ah k aj]at bm;exact ak t cs bm
  |cV k i off c aq ak=>
   have aj:k≠id:=by omega
   exact .cV k i off c (by omega) fun z t n es bm=>by rw[cZ _ _ aj];rw[ah k aj]at bm;exact ak z t n es bm
  |aN k c aq ak=>
   have aj:k≠id:=by omega
   exact .aN k c (by omega) fun z t n es bm=>by rw[cZ _ _ aj];rw[ah k aj]at bm;exact ak z t n es bm
  |fn f p q c d aa ae _ _ hk hl=>exact .fn f p q c d aa ae hk hl
  |ref k c aq ak=>
   have aj:k≠id:=by omega
   exact .ref k c (by omega) fun bO bm=>by rw[cZ _ _ aj];rw[ah k aj]at bm;exact ak bO bm
  |top c=>exact .top c
 refine⟨h.defers,h.size,fun i x hx=>key _ _ (h.slot i x hx),⟨fun k p aj=>?_,fun k bj p fW b aj eA ak gI bf et=>?_,fun b ag=>?_,fun b ag=>Nat.lt_of_lt_of_le (h.heap.lt b ag) bM⟩,
  h.ib.keep cb fun _ h=>h,?_,h.base⟩
 ·by_cases bw:k=id
  ·subst bw
   rw[uQ]at aj;simp only[Option.some.injEq]at aj;subst aj;exact dg
  ·rw[ah k bw]at aj
   have gJ:=h.heap.c5 k p aj
   cases gJ with
   |box t cs b arr aa ae au aP=>
    have hL:=J0 k _ b aj rfl (by rw[aa];rfl)
    exact .box t cs b arr (by rw[cZ _ _ bw];exact aa) ((hw b hL).trans ae) au fun j x af=>key _ _ (aP j x af)
   |row t n es xs aa ae au=>
    exact .row t n es xs (by rw[cZ _ _ bw];exact aa.keep (fun b ad=>hw b (aa.hJ ad).1) bM) ae fun j x af=>(au j x af).keep cb fun _ h=>h
   |ga t n es aa=>exact .ga t n es (by rw[cZ _ _ bw];exact aa.keep cb fun _ h=>h)
   |bL bO b o aa ae au=>exact .bL bO b o (by rw[cZ _ _ bw];exact aa) ((hw b (Array.getElem?_eq_some_iff.1 ae).1).trans ae) (by rw[cZ _ _ bw];exact bO.mono _ _ _ _ (fun x c h=>h.keep cb fun _ h=>h) au)
 ·by_cases bw:k=id
  ·by_cases gK:bj=id
   ·rw[bw,gK]
   ·subst bw
    rw[dR]at bf;rw[cZ _ _ gK]at et;rw[ah bj gK]at eA
    have aa:=gH b bf
    have ae:=J0 bj fW b eA gI et
    omega
  ·by_cases gK:bj=id
   ·subst gK
    rw[dR]at et;rw[cZ _ _ bw]at bf;rw[ah k bw]at aj
    have aa:=gH b et
    have ae:=J0 k p b aj ak bf
    omega
   ·rw[cZ _ _ bw]at bf
    rw[cZ _ _ gK]at et;rw[ah k bw]at aj;rw[ah bj gK]at eA;exact h.heap.inj k bj p fW b aj eA ak gI bf et
 ·rintro⟨k,p,aj,ak,bf⟩
  by_cases bw:k=id
  ·subst bw
   rw[dR]at bf
   have aa:=gH b bf
   have ae:=h.heap.lt b ag
   omega
  ·rw[cZ _ _ bw]at bf
   rw[ah k bw]at aj;exact h.heap.fg b ag ⟨k,p,aj,ak,bf⟩
 ·have t:=h.trans
  refine⟨oX.trans t.os,oY.trans t.tape,kE.trans t.output,Nat.le_trans t.size bM,fun b hL gd=>?_,t.jk,t.j1,?_,fun k aj p bm=>?_,fun k p bm=>?_,Nat.le_trans h.base (Nat.le_trans ad (Nat.le_succ _))⟩
  ·rw[hw b (Nat.lt_of_lt_of_le hL t.size)]
   exact t.frame b hL gd
  ·rintro b ⟨k,p,aj,ak,bf⟩
   by_cases bw:k=id
   ·subst bw
    rw[dR]at bf;exact .inr (Nat.le_trans t.size (gH b bf))
   ·rw[cZ _ _ bw]at bf
    rw[ah k bw]at aj;exact t.hj b ⟨k,p,aj,ak,bf⟩
  ·have bw:k≠id:=by have:=h.base;omega
   rw[ah k bw]at bm;rw[cZ _ _ bw];exact t.dK k aj p bm
  ·by_cases bw:k=id
   ·subst bw;exact Nat.lt_succ_self _
   ·rw[ah k bw]at bm
    have:=t.new k p bm
    show k<id+1;omega
theorem c2.write(h:c2 E G s a w β ro)(id:Nat)(o cz:ej)(bc:aE s.heap id=some o)(wT:o.live=true)(zjK:cz.live=true)
 (zG:(∃t cs cs',o= .box t cs∧cz= .box t cs')∨(∃t n es dP,o= .row false t n es∧cz= .row false t n dP)∨(∃bO lH,o= .bL bO∧cz= .bL lH))
 (oX:w'.os=w.os)(oY:w'.tape=w.tape)(kE:w'.output=w.output)(bM:w.heap.size≤w'.heap.size)(hw: ∀b,b<w.heap.size→b2 (β id)≠some b→w'.heap[b]? =w.heap[b]?)
 (dg:k8 w' ro (eM s.heap id cz) β s.next id cz):c2 E G {s with heap:=eM s.heap id cz} a w' β ro:=by
 have cb: ∀b,ro b→w'.heap[b]? =w.heap[b]? :=fun b ag=>hw b (h.heap.lt b ag) fun ad=>h.heap.fg b ag ⟨id,o,bc,wT,ad⟩
 have ah:=wR s.heap id cz
 have own: ∀b,Own (eM s.heap id cz) β b→Own s.heap β b:=by
  rintro b ⟨k,p,aj,ak,bf⟩
  rw[ah k]at aj
  by_cases bw:id=k
  ·subst bw;exact⟨id,o,bc,wT,bf⟩
  ·rw[if_neg bw]at aj;exact⟨k,p,aj,ak,bf⟩
 have nS: ∀k p b,aE s.heap k=some p→p.live=true→b2 (β k)=some b→b<w.heap.size:=fun k p b aj ak bf=>(h.heap.c5 k p aj).hJ ak bf
 have nP: ∀k t cs,aE (eM s.heap id cz) k=some (.box t cs)→β k=β k∧∃t cs,aE s.heap k=some (.box t cs):=by
  intro k t cs aj;rw[ah k]at aj
  by_cases bw:id=k
  ·subst bw
   rw[if_pos rfl]at aj;simp only[Option.some.injEq]at aj
   rcases zG with⟨t1,aV,dp,rfl,rfl⟩|⟨t1,n,aB,bd,rfl,rfl⟩|⟨_,_,rfl,rfl⟩
   ·exact⟨rfl,t1,aV,bc⟩
   ·cases aj
   ·cases aj
  ·rw[if_neg bw]at aj;exact⟨rfl,t,cs,aj⟩
 have cY: ∀k z t n es,aE (eM s.heap id cz) k=some (.row z t n es)→β k=β k∧∃z t es,aE s.heap k=some (.row z t n es):=by
  intro k z t n es aj;rw[ah k]at aj
  by_cases bw:id=k
  ·subst bw
   rw[if_pos rfl]at aj;simp only[Option.some.injEq]at aj
   rcases zG with⟨t1,aV,dp,rfl,rfl⟩|⟨t1,gU,aB,bd,rfl,rfl⟩|⟨_,_,rfl,rfl⟩
   ·cases aj
   ·simp only[ej.row.injEq]at aj
    obtain⟨_,_,rfl,_⟩:=aj;exact⟨rfl,_,_,_,bc⟩
   ·cases aj
  ·rw[if_neg bw]at aj;exact⟨rfl,z,t,es,aj⟩
 have nQ: ∀k bO,aE (eM s.heap id cz) k=some (.bL bO)→β k=β k∧∃bO,aE s.heap k=some (.bL bO):=by
  intro k bO aj;rw[ah k]at aj
  by_cases bw:id=k
  ·subst bw
   rw[if_pos rfl]at aj;simp only[Option.some.injEq]at aj
   rcases zG with⟨t1,aV,dp,rfl,rfl⟩|⟨t1,gU,aB,bd,rfl,rfl⟩|⟨zc6,_,rfl,rfl⟩
   ·cases aj
   ·cases aj
   ·exact⟨rfl,zc6,bc⟩
  ·rw[if_neg bw]at aj;exact⟨rfl,bO,aj⟩
 refine⟨h.defers,h.size,fun i x hx=>(h.slot i x hx).keep cb (fun _ h=>h) (Nat.le_refl _) nP cY nQ,⟨fun k p aj=>?_,fun k bj p fW b aj eA ak gI bf et=>?_,fun b ag ad=>h.heap.fg b ag (own b ad),
  fun b ag=>Nat.lt_of_lt_of_le (h.heap.lt b ag) bM⟩,h.ib.keep cb fun _ h=>h,?_,h.base⟩
 ·rw[ah k]at aj
  by_cases bw:id=k
  ·subst bw
   rw[if_pos rfl]at aj;simp only[Option.some.injEq]at aj;subst aj;exact dg
  ·rw[if_neg bw]at aj
   refine(h.heap.c5 k p aj).keep cb (fun _ h=>h) (Nat.le_refl _) bM rfl (fun aq b ad=>hw b (nS k p b aj aq ad) fun jM=>bw (h.heap.inj id k o p b bc aj wT aq jM ad)) nP cY nQ
 ·have aa: ∃q,aE s.heap k=some q∧q.live=true:=by
   rw[ah k]at aj
   by_cases bw:id=k
   ·subst bw;exact⟨o,bc,wT⟩
   ·rw[if_neg bw]at aj;exact⟨p,aj,ak⟩
  have ae: ∃q,aE s.heap bj=some q∧q.live=true:=by
   rw[ah bj]at eA
   by_cases bw:id=bj
   ·subst bw;exact⟨o,bc,wT⟩
   ·rw[if_neg bw]at eA;exact⟨fW,eA,gI⟩
  obtain⟨q,aH,ru⟩:=aa;obtain⟨q',uR,zH⟩:=ae;exact h.heap.inj k bj q q' b aH uR ru zH bf et
 ·have t:=h.trans
  refine⟨oX.trans t.os,oY.trans t.tape,kE.trans t.output,Nat.le_trans t.size bM,fun b hL gd=>?_,t.jk,t.j1,fun b ad=>t.hj b (own b ad),fun k aj p bm=>?_,fun k p bm=>?_,t.le⟩
  ·by_cases jM:b2 (β id)=some b
   ·rcases t.hj b ⟨id,o,bc,wT,jM⟩with hc|hc
    ·exact absurd hc gd
    ·omega
   ·rw[hw b (Nat.lt_of_lt_of_le hL t.size) jM]
    exact t.frame b hL gd
  ·rw[ah k]at bm
   by_cases bw:id=k
   ·subst bw;exact t.dK id aj o bc
   ·rw[if_neg bw]at bm;exact t.dK k aj p bm
  ·rw[ah k]at bm
   by_cases bw:id=k
   ·subst bw;exact t.new id o bc
   ·rw[if_neg bw]at bm;exact t.new k p bm
end
end Go.aK
namespace Go.aK
open Go
def cS:aD→List aD
 | .agg cs=>cs
 |x=>[x]
section
variable {w:World} {ro:Nat→Prop} {σ:Heap} {β:Nat→Value} {N:Nat}
def eD(σ:Heap):aD→Bool
 | .av _| .fn _ _ _=>true
 | .ptr id _=>match aE σ id with
  |some (.box _ _)=>true
  |_=>false
 | .aN id=>match aE σ id with
  |some (.row _ _ _ _)=>true
  |_=>false
 | .cV id _ _=>match aE σ id with
  |some (.row _ _ _ _)=>true
  |_=>false
 |_=>false
theorem Dj(ba:hh w ro σ β N){x:aD}{c:Value}(hx:eD σ x=true)(h:br w ro σ β N x c):c.oneCell'=true:=by
 cases h with
 |av x c h=>exact h.one
 |agg=>simp[eD]at hx
 |tuple=>simp[eD]at hx
 |ptr id off c aq ak=>
  simp only[eD]at hx
  split at hx
  ·rename_i t cs ah
   obtain⟨b,_,rfl⟩:=ak t cs ah;rfl
  ·cases hx
 |cV id i off c aq ak=>
  simp only[eD]at hx
  split at hx
  ·rename_i z t n es ah
   obtain⟨b,l,h0,_,rfl⟩:=ak z t n es ah;rfl
  ·cases hx
 |aN id c aq ak=>
  simp only[eD]at hx
  split at hx
  ·rename_i z t n es ah
   rw[ak z t n es ah]
   have:=ba.c5 id _ ah
   cases this with
   |row _ _ _ xs aa=>
    rcases aa.2 with⟨⟨_,aw,_⟩,_⟩|⟨g,cap,cur,aw,_⟩<;>rw[aw]<;>rfl
   |ga _ _ _ aa=>exact aa.one
  ·cases hx
 |fn=>rfl
 |ref=>simp[eD]at hx
 |dz=>simp[eD]at hx
 |top=>simp[eD]at hx
theorem br.cS{x:aD}{c:Value}(h:br w ro σ β N x c)(eb:(cS x).all (eD σ)=true)(ba:hh w ro σ β N):
 c.cells.size=(cS x).length∧(∀j y,(Go.aK.cS x)[j]? =some y→br w ro σ β N y (c.cells.getD j undef))∧∀u∈c.cells.toList,u.oneCell'=true:=by
 cases h with
 |agg cs c ai hc=>
  refine⟨ai,hc,fun u hu=>?_⟩
  obtain⟨j,af,rfl⟩:=List.mem_iff_getElem.1 hu
  have Q0:j<cs.length:=by simpa[Value.cells,ai]using af
  have aa:=hc j cs[j] (List.getElem?_eq_getElem Q0)
  have ae:eD σ cs[j]=true:=by
   simp only[Go.aK.cS,List.all_eq_true]at eb;exact eb _ (List.getElem_mem Q0)
  have au:=Dj ba ae aa
  have zI:j<c.size:=by omega
  simpa[Value.cells,zI]using au
 |av x c hx=>
  have aa:c.cells= #[c]:=by have:=hx.one;cases c<;>simp_all[Value.cells,Value.oneCell']
  refine⟨by simp[aa,Go.aK.cS],fun j y af=>?_,fun u hu=>?_⟩
  ·cases j with
   |zero=>simp[Go.aK.cS]at af;subst af;simpa[aa]using br.av x c hx
   |succ j=>simp[Go.aK.cS]at af
  ·simp[aa]at hu;subst hu;exact hx.one
 |tuple cs c ai hc=>simp[Go.aK.cS,eD]at eb
 |top c=>simp[Go.aK.cS,eD]at eb
 |ref id c=>simp[Go.aK.cS,eD]at eb
 |dz id n c=>simp[Go.aK.cS,eD]at eb
 |ptr id off c aq ak=>
  have hx:eD σ (.ptr id off)=true:=by simpa[Go.aK.cS]using eb
  have oZ:=Dj ba hx (br.ptr (w:=w) (ro:=ro) id off c aq ak)
  have aa:c.cells= #[c]:=by cases c<;>simp_all[Value.cells,Value.oneCell']
  refine⟨by simp[aa,Go.aK.cS],fun j y af=>?_,fun u hu=>?_⟩
  ·cases j with
   |zero=>simp[Go.aK.cS]at af;subst af;simpa[aa]using br.ptr id off c aq ak
   |succ j=>simp[Go.aK.cS]at af
  ·simp[aa]at hu;subst hu;exact oZ
 |cV id i off c aq ak=>
  have hx:eD σ (.cV id i off)=true:=by simpa[Go.aK.cS]using eb
  have oZ:=Dj ba hx (br.cV (w:=w) (ro:=ro) id i off c aq ak)
  have aa:c.cells= #[c]:=by cases c<;>simp_all[Value.cells,Value.oneCell']
  refine⟨by simp[aa,Go.aK.cS],fun j y af=>?_,fun u hu=>?_⟩
  ·cases j with
   |zero=>simp[Go.aK.cS]at af;subst af;simpa[aa]using br.cV id i off c aq ak
   |succ j=>simp[Go.aK.cS]at af
  ·simp[aa]at hu;subst hu;exact oZ
 |aN id c aq ak=>
  have hx:eD σ (.aN id)=true:=by simpa[Go.aK.cS]using eb
  have oZ:=Dj ba hx (br.aN (w:=w) (ro:=ro) id c aq ak)
  have aa:c.cells= #[c]:=by cases c<;>simp_all[Value.cells,Value.oneCell']
  refine⟨by simp[aa,Go.aK.cS],fun j y af=>?_,fun u hu=>?_⟩
  ·cases j with
   |zero=>simp[Go.aK.cS]at af;subst af;simpa[aa]using br.aN id c aq ak
   |succ j=>simp[Go.aK.cS]at af
  ·simp[aa]at hu;subst hu;exact oZ
 |fn f p q c d aa ae au aP=>
  refine⟨by simp[Value.cells,Go.aK.cS],fun j y af=>?_,fun u hu=>?_⟩
  ·cases j with
   |zero=>simp[Go.aK.cS]at af;subst af;simpa[Value.cells]using br.fn f p q c d aa ae au aP
   |succ j=>simp[Go.aK.cS]at af
  ·simp[Value.cells]at hu;subst hu;rfl
end
section
variable {P:Program} {G:a7} {o:Oper} {s:aO}
theorem Q1(t:TypeId)(c:Value)(w:World):(newVar t c).run P w= .ok ⟨w.heap.size,0,none⟩ (w.alloc (.cells c.cells t)):=by
 simp[newVar,newRow]
theorem mf.Q2{t:TypeId}{cs:List aD}(h: ∀E a w β ro,c2 E G s a w β ro→∃arr:Array Value,(execOp a.eval o).run P w= .ok (.value (.pointer (some ⟨w.heap.size,0,none⟩))) (w.alloc (.cells arr t))∧
      arr.size=cs.length∧∀j x,cs[j]? =some x→br w ro s.heap β s.next x (arr.getD j undef))(ad:s.base≤s.next):
    mf P G o s ({s with heap:=(s.next,.box t cs)::s.heap,next:=s.next+1}.put o.dst (.ptr s.next 0)):=by
  intro E a w ⟨β,ro,ag⟩ K Q hK;obtain⟨arr,cq,bM,eV⟩:=h E a w β ro ag;unfold Oper.wp;rw[cq]
  have jl:aE s.heap s.next=none:=by
    cases ah:aE s.heap s.next with
    |none=>rfl
    |some p=>have:=ag.trans.new _ _ ah;omega
  have fc:c2 E G {s with heap:=(s.next,.box t cs)::s.heap,next:=s.next+1} a (w.alloc (.cells arr t)) (gV β s.next (.pointer (some ⟨w.heap.size,0,none⟩))) ro:=by
    refine ag.new s.next jl ad (Nat.le_refl _) _ _ rfl rfl rfl (by simp) (fun b ad=>Go.RowKit.Below.heap_alloc w _ b ad) (fun b ad=>by simp[b2]at ad;omega) rfl ?_
    refine .box t cs w.heap.size arr (dR _ _ _) (heap_alloc_new w _) bM fun j x af=>?_
    have hx:=eV j x af
    have cb: ∀b,ro b→(w.alloc (.cells arr t)).heap[b]? =w.heap[b]? :=fun b ad=>Go.RowKit.Below.heap_alloc w _ b (ag.heap.lt b ad)
    clear af eV;generalize arr.getD j undef=c at hx
    induction hx with
    |av x c hx=>exact .av x c (hx.keep cb fun _ h=>h)
    |agg cs c ai _ aX=>exact .agg cs c ai aX
    |tuple cs c ai _ aX=>exact .tuple cs c ai aX
    |ptr k off c aq ak=>
      have aj:k≠s.next:=by omega
      exact .ptr k off c (by omega) fun t cs bm=>by rw[cZ _ _ aj];simp only[aE,if_neg (Ne.symm aj)]at bm;exact ak t cs bm
    |dz k off c aq ak=>
      have aj:k≠s.next:=by omega
      exact .dz k off c (by omega) fun t cs bm=>by rw[cZ _ _ aj];simp only[aE,if_neg (Ne.symm aj)]at bm;exact ak t cs bm
    |cV k i off c aq ak=>
      have aj:k≠s.next:=by omega
      exact .cV k i off c (by omega) fun z t n es bm=>by rw[cZ _ _ aj];simp only[aE,if_neg (Ne.symm aj)]at bm;exact ak z t n es bm
    |aN k c aq ak=>
      have aj:k≠s.next:=by omega
      exact .aN k c (by omega) fun z t n es bm=>by rw[cZ _ _ aj];simp only[aE,if_neg (Ne.symm aj)]at bm;exact ak z t n es bm
    |fn f p q c d aa ae _ _ hk hl=>exact .fn f p q c d aa ae hk hl
    |ref k c aq ak=>
      have aj:k≠s.next:=by omega
      exact .ref k c (by omega) fun bO bm=>by rw[cZ _ _ aj];simp only[aE,if_neg (Ne.symm aj)]at bm;exact ak bO bm
    |top c=>exact .top c
  refine hK _ _ ⟨_,ro,fc.put o.dst _ _ ?_⟩ fun b ad=>Go.RowKit.Below.heap_alloc w _ b ad
  refine .ptr _ _ _ (Nat.lt_succ_self _) fun bC cs' ah=>⟨w.heap.size,dR _ _ _,rfl⟩
theorem Q3(t:TypeId)(x:Operand)(an:o.op= .box t x)(ad:s.base≤s.next)(eb:(cS (aI G s x)).all (eD s.heap)=true):
 mf P G o s ({s with heap:=(s.next,.box t (cS (aI G s x)))::s.heap,next:=s.next+1}.put o.dst (.ptr s.next 0)):=
 .Q2 (fun _ a w β ro ag=>by
  obtain⟨aa,ae,_⟩:=(ag.eval x).cS eb ag.heap
  exact⟨(a.eval x).cells,by simp[execOp,an,Instr.box,Q1],aa,ae⟩) ad
theorem Q4(t:TypeId)(x:Operand)(an:o.op= .box t x)(ad:s.base≤s.next)(eb:(cS (aI G s x)).all (eD s.heap)=true):
 dQ P G o s ({s with heap:=(s.next,.box t (cS (aI G s x)))::s.heap,next:=s.next+1}.put o.dst (.ptr s.next 0)):=(Q3 t x an ad eb).op
def zeroCells(P:Program)(t:TypeId):Option (List Value):=
 match P.info? t with
 |some i=>match i.zero with
  |some z=>some z.cells.toList
  |none=>none
 |none=>none
theorem zJ{t:TypeId}{zs:List Value}(h:zeroCells P t=some zs)(w:World): ∃z:Value,(zeroValue t).run P w= .ok z w∧z.cells=zs.toArray∧∃i,P.info? t=some i∧i.zero=some z:=by
 unfold zeroCells at h
 cases hi:P.info? t with
 |none=>simp[hi]at h
 |some i=>
  cases aR:i.zero with
  |none=>simp[hi,aR]at h
  |some z=>
   simp[hi,aR]at h;exact⟨z,by simp[zeroValue,typeInfo,hi,aR],by rw[←h],i,rfl,aR⟩
theorem Q5(t:TypeId)(an:o.op= .alloc t)(ad:s.base≤s.next){zs:List Value}(aR:zeroCells P t=some zs)(eb:zs.all Value.oneCell'=true):
 mf P G o s ({s with heap:=(s.next,.box t (zs.map fun z=>.av (.v z)))::s.heap,next:=s.next+1}.put o.dst (.ptr s.next 0)):=
 .Q2 (fun _ a w β ro ag=>by
  obtain⟨z,cq,o0,_⟩:=zJ aR w;refine⟨z.cells,by simp[execOp,an,Instr.alloc,cq,Q1],by simp[o0],fun j x af=>?_⟩
  rw[List.getElem?_map]at af
  cases rv:zs[j]? with
  |none=>simp[rv]at af
  |some y=>
   simp[rv]at af;subst af
   have:y.oneCell'=true:=by
    rw[List.all_eq_true]at eb;exact eb y (List.mem_of_getElem? rv)
   rw[o0]
   simpa[rv]using br.av (w:=w) (ro:=ro) (σ:=s.heap) (β:=β) (N:=s.next) _ _ (.v y this)) ad
theorem Q6(t:TypeId)(an:o.op= .alloc t)(ad:s.base≤s.next){zs:List Value}(aR:zeroCells P t=some zs)(eb:zs.all Value.oneCell'=true):
 dQ P G o s ({s with heap:=(s.next,.box t (zs.map fun z=>.av (.v z)))::s.heap,next:=s.next+1}.put o.dst (.ptr s.next 0)):=(Q5 t an ad aR eb).op
end
end Go.aK
namespace Go.aK
open Go
section
variable {P:Program} {G:a7} {o:Oper} {s:aO}
theorem J1{w w':World}{ro:Nat→Prop}{σ:Heap}{β:Nat→Value}{N id:Nat}{t:TypeId}{cs cs':List aD}(bc:aE σ id=some (.box t cs)){x:aD}{c:Value}
 (h:br w ro σ β N x c)(cb: ∀b,ro b→w'.heap[b]? =w.heap[b]?):br w' ro (eM σ id (.box t cs')) β N x c:=by
 refine h.keep cb (fun _ h=>h) (Nat.le_refl _) (fun k t1 aV aj=>?_) (fun k z t1 n es aj=>?_) (fun k bO aj=>?_)
 ·rw[wR]at aj
  by_cases bw:id=k
  ·subst bw;exact⟨rfl,t,cs,bc⟩
  ·rw[if_neg bw]at aj;exact⟨rfl,t1,aV,aj⟩
 ·rw[wR]at aj
  by_cases bw:id=k
  ·subst bw;rw[if_pos rfl]at aj;cases aj
  ·rw[if_neg bw]at aj;exact⟨rfl,z,t1,es,aj⟩
 ·rw[wR]at aj
  by_cases bw:id=k
  ·subst bw;rw[if_pos rfl]at aj;cases aj
  ·rw[if_neg bw]at aj;exact⟨rfl,bO,aj⟩
def ek{α:Type}(cs:List α)(off:Nat)(vs:List α):List α:=cs.take off++(vs++cs.drop (off+vs.length))
theorem qi{α:Type}(cs:List α)(off:Nat)(vs:List α)(h:off+vs.length≤cs.length):(ek cs off vs).length=cs.length:=by
 simp[ek];omega
theorem J2{α β:Type}(R:α→β→Prop)(d:β){cs vs:List α}{xs ys:List β}{off:Nat}(aq:cs.length≤xs.length)(aw:vs.length=ys.length)(zK:off+vs.length≤cs.length)
 (aa: ∀j x,cs[j]? =some x→R x (xs.getD j d))(ae: ∀j x,vs[j]? =some x→R x (ys.getD j d)): ∀j x,(ek cs off vs)[j]? =some x→R x ((ek xs off ys).getD j d):=by
 intro j x af
 unfold ek at*
 by_cases aZ:j<off
 ·rw[List.getElem?_append_left (by simp;omega),List.getElem?_take,if_pos aZ]at af
  have:=aa j x af
  rw[List.getD,List.getElem?_append_left (by simp;omega),List.getElem?_take,if_pos aZ]
  exact this
 ·have aB:(cs.take off).length=off:=by simp;omega
  have bd:(xs.take off).length=off:=by simp;omega
  rw[List.getElem?_append_right (by omega),aB]at af
  rw[List.getD,List.getElem?_append_right (by omega),bd]
  by_cases ad:j-off<vs.length
  ·rw[List.getElem?_append_left ad]at af
   rw[List.getElem?_append_left (by omega)]
   exact ae _ _ af
  ·rw[List.getElem?_append_right (by omega),List.getElem?_drop]at af
   rw[List.getElem?_append_right (by omega),List.getElem?_drop]
   have cj:off+vs.length+(j-off-vs.length)=j:=by omega
   have eo:off+ys.length+(j-off-ys.length)=j:=by omega
   rw[cj]at af;rw[eo];exact aa j x af
theorem Q7(t:TypeId)(b off:Nat)(c:Value)(w:World)(bt:TypeId)(arr:Array Value)(ah:w.heap[b]? =some (.cells arr bt (0,0)))(bM:(P.info? t).map (·.size)=some c.cells.size)
 (qj:off+c.cells.size≤arr.size)(aa: ∀u∈c.cells.toList,u.oneCell'=true):
 (Instr.storeAt t (.pointer (some ⟨b,off,none⟩)) c).run P w= .ok () (w.setRow b (ek arr.toList off c.cells.toList).toArray):=by
 have dC:=run_storeCells_at P b off bt c.cells.toList 0 arr w ah (by simpa using qj) aa
 cases hi:P.info? t with
 |none=>simp[hi]at bM
 |some i=>
  have ai:i.size=c.cells.size:=by simpa[hi]using bM
  simp only[Nat.add_zero,List.append_assoc]at dC;simp only[Instr.storeAt,Instr.sureAddr,storeVar,sizeOf,typeInfo,Sem.run_bind,Sem.run_pure,Result.andThen_ok,ek];simp[hi,ai,dC]
theorem Q8(t:TypeId)(p x:Operand)(an:o.op= .store t p x){id off:Nat}(ak:aI G s p= .ptr id off){bt:TypeId}{cs:List aD}(bc:aE s.heap id=some (.box bt cs))
 {vs:List aD}(aw:cS (aI G s x)=vs)(eb:vs.all (eD s.heap)=true)(bM:(P.info? t).map (·.size)=some vs.length)(qj:off+vs.length≤cs.length):
 dQ P G o s ({s with heap:=eM s.heap id (.box bt (ek cs off vs))}.put o.dst .top):=by
 intro E a w ⟨β,ro,ag⟩ K Q hK
 subst aw
 obtain⟨aa,ae,au⟩:=(ag.eval x).cS eb ag.heap
 have ry:=ag.eval p
 rw[ak]at ry
 have dg:=ag.heap.c5 id _ bc
 cases dg with
 |box _ _ b arr ad ah zc7 eV=>
  generalize J3:a.eval p=gW at ry
  cases ry with
  |ptr _ _ c aq hc=>
   obtain⟨b',gy,rfl⟩:=hc _ _ bc;rw[ad]at gy;simp only[Value.pointer.injEq,Option.some.injEq,Addr.mk.injEq,and_true]at gy;subst gy
   have cq:=Q7 (P:=P) t b off (a.eval x) w bt arr ah (by rw[bM,aa]) (by omega) au
   unfold Oper.wp;simp only[execOp,an,J3,Sem.run_bind,cq,Result.andThen_ok,Sem.run_pure]
   have jm: ∀k,k<w.heap.size→b2 (β id)≠some k→(w.setRow b (ek arr.toList off (a.eval x).cells.toList).toArray).heap[k]? =w.heap[k]? :=fun k _ aj=>
    setRow_other w b k _ (fun e=>aj (by rw[ad,e];rfl))
   have cb: ∀k,ro k→(w.setRow b (ek arr.toList off (a.eval x).cells.toList).toArray).heap[k]? =w.heap[k]? :=fun k aj=>
    jm k (ag.heap.lt k aj) fun bf=>ag.heap.fg k aj ⟨id,_,bc,rfl,bf⟩
   refine hK _ _ ⟨β,ro,(ag.write (w':=w.setRow b (ek arr.toList off (a.eval x).cells.toList).toArray) id _ (.box bt (ek cs off (cS (aI G s x)))) bc rfl rfl (.inl ⟨_,_,_,rfl,rfl⟩) rfl rfl rfl (by simp) jm ?_).put o.dst _ _ (.top _)⟩
   refine .box bt _ b _ ad (setRow_heap w b arr _ bt (0,0) ah) ?_ fun j y af=>?_
   ·rw[List.size_toArray,qi _ _ _ (by simp only[Array.length_toList];omega),qi _ _ _ qj,Array.length_toList,zc7]
   ·have ai:=J2 (br w ro s.heap β s.next) undef (cs:=cs) (vs:=cS (aI G s x)) (xs:=arr.toList) (ys:=(a.eval x).cells.toList) (off:=off) (by simp only[Array.length_toList];omega) (by simp only[Array.length_toList];omega) qj
     (fun j x af=>by have:=eV j x af;simpa[Array.getD_eq_getD_getElem?,List.getD]using this)
     (fun j x af=>by have:=ae j x af;simpa[Array.getD_eq_getD_getElem?,List.getD]using this) j y af
    have eW:=J1 (cs':=ek cs off (cS (aI G s x))) bc ai cb
    simpa[Array.getD_eq_getD_getElem?,List.getD]using eW
def iP:List aD→Option (List a1)
 |[]=>some []
 | .av x::r=>match iP r with
  |some l=>some (x::l)
  |none=>none
 |_::_=>none
theorem Dk: ∀{vs:List aD} {l:List a1},iP vs=some l→vs=l.map .av
 |[],l,h=>by simp[iP]at h;subst h;rfl
 | .av x::r,l,h=>by
  simp only[iP]at h
  cases ag:iP r with
  |none=>simp[ag]at h
  |some h1=>
   simp[ag]at h;subst h;simp[Dk ag]
 | .agg _::_,_,h=>by simp[iP]at h
 | .tuple _::_,_,h=>by simp[iP]at h
 | .ptr _ _::_,_,h=>by simp[iP]at h
 | .dz _ _::_,_,h=>by simp[iP]at h
 | .cV _ _ _::_,_,h=>by simp[iP]at h
 | .aN _::_,_,h=>by simp[iP]at h
 | .fn _ _ _::_,_,h=>by simp[iP]at h
 | .ref _::_,_,h=>by simp[iP]at h
 | .top::_,_,h=>by simp[iP]at h
theorem Q9{α:Type}{n:Nat}: ∀{es:List (List α)},(∀e∈es,e.length=n)→∀{i:Nat} {e ay:List α},es[i]? =some e→ay.length=n→(es.set i ay).flatten=es.flatten.take (i*n)++(ay++es.flatten.drop (i*n+n))
 |[],_,i,e,ay,h,_=>by simp at h
 |x::r,hn,i,e,ay,h,he=>by
  have hx:x.length=n:=hn x (by simp)
  cases i with
  |zero=>simp[hx]
  |succ i=>
   simp at h
   have aX:=Q9 (es:=r) (fun e he=>hn e (by simp[he])) h he
   simp only[List.set_cons_succ,List.flatten_cons,aX]
   have aB:(i+1)*n=x.length+i*n:=by rw[Nat.succ_mul];omega
   have bd:(i+1)*n+n=x.length+(i*n+n):=by rw[Nat.succ_mul];omega
   have cj:x.length+(i*n+n)-x.length=i*n+n:=by omega
   have eo:x.length+i*n-x.length=i*n:=by omega
   rw[bd,aB,List.take_append,List.drop_append,cj,eo,List.take_of_length_le (l:=x) (by omega),List.drop_of_length_le (l:=x) (by omega)]
   simp
theorem zc8{α:Type}(l:List α)(p n k:Nat)(vs:List α)(e:List α)(he:e.length=n)(aq: ∀j,j<n→l[p+j]? =e[j]?)(aj:k+vs.length≤n)(ak:p+n≤l.length):
 ek l (p+k) vs=l.take p++(ek e k vs++l.drop (p+n)):=by
 apply List.ext_getElem?
 intro j
 have ai:(ek e k vs).length=n:=by rw[qi _ _ _ (by omega),he]
 unfold ek at*
 by_cases aa:j<p
 ·rw[List.getElem?_append_left (by simp;omega),List.getElem?_take,if_pos (by omega),List.getElem?_append_left (by simp;omega),List.getElem?_take,if_pos aa]
 ·have aB:(l.take p).length=p:=by simp;omega
  have bd:(l.take (p+k)).length=p+k:=by simp;omega
  rw[List.getElem?_append_right (l₁:=l.take p) (by omega),aB]
  by_cases ae:j<p+k
  ·rw[List.getElem?_append_left (by omega),List.getElem?_take,if_pos ae,List.getElem?_append_left (by omega),List.getElem?_append_left (by simp;omega),List.getElem?_take,if_pos (by omega),←aq _ (by omega)]
   congr 1;omega
  ·rw[List.getElem?_append_right (by omega),bd]
   have cj:(e.take k).length=k:=by simp;omega
   by_cases au:j<p+k+vs.length
   ·rw[List.getElem?_append_left (by omega),List.getElem?_append_left (by omega),List.getElem?_append_right (by omega),cj,List.getElem?_append_left (by omega)]
    congr 1;omega
   ·rw[List.getElem?_append_right (by omega),List.getElem?_drop]
    by_cases aP:j<p+n
    ·rw[List.getElem?_append_left (by omega),List.getElem?_append_right (by omega),cj,List.getElem?_append_right (by omega),List.getElem?_drop,←aq _ (by omega)]
     congr 1;omega
    ·rw[List.getElem?_append_right (by omega),ai,List.getElem?_drop]
     congr 1;omega
theorem zc9{α:Type}(l:List α)(off m:Nat)(ys:List α)(h:off+ys.length≤m)(hm:m≤l.length):(ek l off ys).take m=ek (l.take m) off ys:=by
 have aB:min m off=off:=by omega
 have bd:min off m=off:=by omega
 have cj:min off l.length=off:=by omega
 have eo:List.take (m-off) ys=ys:=List.take_of_length_le (by omega)
 have kt:m-off-ys.length=m-(off+ys.length):=by omega
 simp only[ek,List.take_append,List.take_take,List.length_take,List.drop_take,aB,bd,cj,eo,kt]
theorem Ra(t:TypeId)(p x:Operand)(an:o.op= .store t p x){id i off:Nat}(ak:aI G s p= .cV id i off){bt:TypeId}{n:Nat}{es:List (List a1)}(bc:aE s.heap id=some (.row false bt n es))
 {e:List a1}(mZ:es[i]? =some e){vs:List a1}(aw:iP (cS (aI G s x))=some vs)(bM:(P.info? t).map (·.size)=some vs.length)(qj:off+vs.length≤n):
 dQ P G o s ({s with heap:=eM s.heap id (.row false bt n (es.set i (ek e off vs)))}.put o.dst .top):=by
 intro E a w ⟨β,ro,ag⟩ K Q hK
 have Rb:=Dk aw
 have eb:(cS (aI G s x)).all (eD s.heap)=true:=by rw[Rb];simp[List.all_eq_true,eD]
 obtain⟨aa,ae,au⟩:=(ag.eval x).cS eb ag.heap
 rw[Rb]at aa ae
 rw[List.length_map]at aa
 have ry:=ag.eval p
 rw[ak]at ry
 have dg:=ag.heap.c5 id _ bc
 cases dg with
 |row _ _ _ xs hA hn eV=>
  generalize J3:a.eval p=gW at ry
  cases ry with
  |cV _ _ _ c aq hc=>
   obtain⟨b,l,h0,ad,rfl⟩:=hc _ _ _ _ bc
   have zjL:=hA
   rw[ad]at hA;obtain⟨Dh,mO⟩:=hA
   rcases mO with⟨⟨_,h,_⟩,aR⟩|⟨g,cap,cur,Rc,Re,ah,hle,ie,dI,lI⟩
   ·have:=(List.getElem?_eq_some_iff.1 mZ).1;omega
   ·simp only[Value.slice.injEq,Option.some.injEq,Addr.mk.injEq,and_true]at Rc
    obtain⟨rfl,rfl,rfl⟩:=Rc
    have nR:e.length=n:=hn e (List.mem_of_getElem? mZ)
    have zda:i<es.length:=(List.getElem?_eq_some_iff.1 mZ).1
    have k0:i*n+n≤es.length*n:=by rw[←Nat.succ_mul];exact Nat.mul_le_mul_right n zda
    have zjM:es.length*n≤h0*n:=Nat.mul_le_mul_right n hle
    have cq:=Q7 (P:=P) t b (i*n+off) (a.eval x) w bt cur ah (by rw[bM,aa]) (by omega) au
    unfold Oper.wp;simp only[execOp,an,J3,Sem.run_bind,cq,Result.andThen_ok,Sem.run_pure]
    have jm: ∀k,k<w.heap.size→b2 (β id)≠some k→(w.setRow b (ek cur.toList (i*n+off) (a.eval x).cells.toList).toArray).heap[k]? =w.heap[k]? :=fun k _ aj=>
     setRow_other w b k _ (fun e=>aj (by rw[ad,e];simp[b2,Nat.ne_of_gt Re]))
    have cb: ∀k,ro k→(w.setRow b (ek cur.toList (i*n+off) (a.eval x).cells.toList).toArray).heap[k]? =w.heap[k]? :=fun k aj=>
     jm k (ag.heap.lt k aj) fun bf=>ag.heap.fg k aj ⟨id,_,bc,rfl,bf⟩
    have qk:(ek e off vs).length=n:=by rw[qi _ _ _ (by omega),nR]
    refine hK _ _ ⟨β,ro,(ag.write (w':=w.setRow b (ek cur.toList (i*n+off) (a.eval x).cells.toList).toArray) id _ (.row false bt n (es.set i (ek e off vs))) bc rfl rfl (.inr (.inl ⟨_,_,_,_,rfl,rfl⟩)) rfl rfl rfl (by simp) jm ?_).put o.dst _ _ (.top _)⟩
    have jn:(a.eval x).cells.toList.length=vs.length:=by simpa using aa
    refine .row bt n _ (ek xs (i*n+off) (a.eval x).cells.toList) ?_ (fun ay j3=>?_) (fun j y af=>?_)
    ·rw[ad,List.length_set]
     refine⟨by rw[qi _ _ _ (by omega)];exact Dh,.inr ⟨b,h0,_,rfl,Re,setRow_heap w b cur _ bt (0,0) ah,hle,ie,?_,?_⟩⟩
     ·rw[List.size_toArray,qi _ _ _ (by simp;omega)];simpa using dI
     ·show List.take (es.length*n) (ek cur.toList (i*n+off) (a.eval x).cells.toList)=_
      rw[zc9 _ _ _ _ (by omega) (by simp;omega),lI]
    ·rcases List.mem_or_eq_of_mem_set j3 with h|h
     ·exact hn ay h
     ·rw[h];exact qk
    ·rw[Q9 hn mZ qk,←zc8 es.flatten (i*n) n off vs e nR (fun j af=>rq hn mZ j af) qj (by rw[j2 hn];exact k0)]at af
     have ai:=J2 (cQ w ro) undef (cs:=es.flatten) (vs:=vs) (xs:=xs) (ys:=(a.eval x).cells.toList) (off:=i*n+off) (by rw[j2 hn];omega) (by omega) (by rw[j2 hn];omega)
      (fun j x af=>eV j x af)
      (fun j y af=>by
       have:=ae j (.av y) (by simp[af])
       cases this with
       |av _ _ h=>simpa[Array.getD_eq_getD_getElem?,List.getD]using h) j y af
     exact ai.keep cb fun _ h=>h
end
end Go.aK
namespace Go.aK
open Go
def dE(a b:ByteArray):Bool:=a.data.toList==b.data.toList
theorem vU(a b:ByteArray):dE a b=decide (a=b):=by
 unfold dE
 obtain⟨⟨x⟩⟩:=a
 obtain⟨⟨y⟩⟩:=b
 rw[Bool.eq_iff_iff]
 simp
theorem Rf(a b:ByteArray):(a.toList==b.toList)=dE a b:=by rw[ByteArray.toList_eq,ByteArray.toList_eq];rfl
@[simp] theorem zjN{a b:ByteArray}:dE a b=true↔a=b:=by rw[vU];simp
@[simp] theorem zjO{a b:ByteArray}:dE a b=false↔a≠b:=by rw[vU];simp
@[simp] theorem OO(a:ByteArray):dE a a=true:=by simp
def rz(a b:ByteArray):Bool:=Op.bytesLess a.data.toList b.data.toList
theorem zdb(a b:ByteArray):Op.bytesLess a.toList b.toList=rz a b:=by rw[ByteArray.toList_eq,ByteArray.toList_eq];rfl
def Dl(op:BinOp)(a b:Int):Option Value:=
 match op with
 | .eql=>some (.bool (a==b))
 | .neq=>some (.bool (a != b))
 | .lss=>some (.bool (decide (a<b)))
 | .leq=>some (.bool (decide (a≤b)))
 | .gtr=>some (.bool (decide (a>b)))
 | .geq=>some (.bool (decide (a≥b)))
 |_=>none
def j4(op:BinOp):Value→Value→Option Value
 | .int k a,.int bj b=>
  match op with
  | .shl=>if b<0 then none else some (.int k (k.wrap (a*2^(min b.toNat k.bits))))
  | .shr=>if b<0 then none else some (.int k (a.fdiv (2^(min b.toNat k.bits))))
  |op=>if k=bj then match op with
   | .add=>some (.int k (k.wrap (a+b)))
   | .sub=>some (.int k (k.wrap (a-b)))
   | .mul=>some (.int k (k.wrap (a*b)))
   | .quo=>if b=0 then none else some (.int k (k.wrap (a.tdiv b)))
   | .rem=>if b=0 then none else some (.int k (a.tmod b))
   |op=>Dl op a b
   else none
 | .string a,.string b=>
  match op with
  | .add=>if((a.size+b.size:Nat):Int)>IntKind.i64.max then none else some (.string (a++b))
  | .eql=>some (.bool (dE a b))
  | .neq=>some (.bool (!dE a b))
  | .lss=>some (.bool (rz a b))
  | .leq=>some (.bool (rz a b||dE a b))
  | .gtr=>some (.bool (!(rz a b||dE a b)))
  | .geq=>some (.bool (!rz a b))
  |_=>none
 |_,_=>none
theorem zdc {P : Program} {op : BinOp} {x y c : Value} (h : j4 op x y = some c) (t : TypeId) (p q : Operand) (w : World) :
    (eqGuard op t p q x y).run P w = .ok () w ∧ (binOp op t x y).run P w = .ok c w ∧ c.oneCell' = true := by
  cases x with
  | int k a =>
    cases y with
    | int bj b =>
      simp only [j4] at h; refine ⟨by rw [eqGuard_at_int]; rfl, ?_⟩
      cases op
      all_goals first
        | (simp only at h
           split at h
           · cases h
           · rename_i hn
             simp only [Option.some.injEq] at h; subst h; refine ⟨?_, rfl⟩
             simp [binOp, Op.shift, hn]; done)
        | (simp only at h
           split at h
           · rename_i aj
             subst aj
             first
               | (simp only [Option.some.injEq, Dl] at h; subst h; exact ⟨by simp [binOp, Op.intArith, Op.intCmp], rfl⟩)
               | (split at h
                  · cases h
                  · rename_i aR
                    simp only [Option.some.injEq] at h; subst h
                    exact ⟨by simp [binOp, Op.intDiv, aR], rfl⟩)
               | (simp [Dl] at h; done)
           · cases h)
    | _ => simp [j4] at h
  | string a =>
    cases y with
    | string b =>
      simp only [j4] at h; refine ⟨by rw [eqGuard_at_string]; rfl, ?_⟩
      cases op <;> simp only at h
      all_goals first
        | cases h; done
        | (split at h
           · cases h
           · rename_i hn
             simp only [Option.some.injEq] at h; subst h
             exact ⟨by simp only [binOp_string_add, Op.stringOp, hn, if_false]; rfl, rfl⟩)
        | (simp only [Option.some.injEq] at h; subst h; exact ⟨by simp only [binOp, Op.stringOp, Rf, zdb]; rfl, rfl⟩)
    | _ => simp [j4] at h
  | _ => simp [j4] at h
section
variable {P:Program} {G:a7} {o:Oper} {s:aO}
theorem br.val{w:World}{ro:Nat→Prop}{σ:Heap}{β:Nat→Value}{N:Nat}{x c:Value}(h:br w ro σ β N (.av (.v x)) c):c=x:=by
 cases h with
 |av _ _ h=>cases h;rfl
theorem c2.ee{E:Entry}{a:Act}{w:World}{β:Nat→Value}{ro:Nat→Prop}(h:c2 E G s a w β ro){x:Operand}{v:Value}(hx:aI G s x= .av (.v v)):a.eval x=v:=
 br.val (hx ▸ h.eval x)
theorem br.fD{w:World}{ro:Nat→Prop}{σ:Heap}{β:Nat→Value}{N:Nat}{c:Value}(h:c.oneCell'=true):br w ro σ β N (.av (.v c)) c:=.av _ _ (.v _ h)
theorem o1(op:BinOp)(cv ty:TypeId)(x y:Operand)(an:o.op= .binOp op cv x y ty){u v c:Value}(hx:aI G s x= .av (.v u))(ax:aI G s y= .av (.v v))(hc:j4 op u v=some c):
 cP P G o s (.av (.v c)):=
 fun _ a w β ro ag=>by
  obtain⟨aa,ae,au⟩:=zdc (P:=P) hc cv x y w;exact⟨c,by simp[execOp,an,ag.ee hx,ag.ee ax,aa,ae],.fD au⟩
theorem Rg(cv ty:TypeId)(x y:Operand)(an:o.op= .binOp .eql cv x y ty)(aG:P.underlying cv=some .bool){u v:Bool}(hx:aI G s x= .av (.v (.bool u)))(ax:aI G s y= .av (.v (.bool v))):
 cP P G o s (.av (.v (.bool (u==v)))):=
 fun _ a w β ro ag=>⟨.bool (u==v),by simp[execOp,an,ag.ee hx,ag.ee ax,eqGuard_at_bool,run_eql_bool w cv u v aG],.fD rfl⟩
theorem Rh(cv ty:TypeId)(x y:Operand)(an:o.op= .binOp .neq cv x y ty)(aG:P.underlying cv=some .bool){u v:Bool}(hx:aI G s x= .av (.v (.bool u)))(ax:aI G s y= .av (.v (.bool v))):
 cP P G o s (.av (.v (.bool (!(u==v))))):=
 fun _ a w β ro ag=>⟨.bool (!(u==v)),by simp[execOp,an,ag.ee hx,ag.ee ax,eqGuard_at_bool,run_neq_bool w cv u v aG],.fD rfl⟩
def m0:Value→Value→Option Bool
 | .int k a,.int bj b=>if k=bj then some (a==b)else none
 | .bool a,.bool b=>some (a==b)
 | .string a,.string b=>some (dE a b)
 |_,_=>none
def rA(P:Program)(t:TypeId):Value→Bool
 | .int k _=>match P.underlying t with
  |some (.int bj)=>decide (k=bj)
  |_=>false
 | .bool _=>match P.underlying t with
  |some .bool=>true
  |_=>false
 | .string _=>match P.underlying t with
  |some .string=>true
  |_=>false
 |_=>false
def Ri(e:TypeId)(c i:Nat):Field:={(default:Field)with name:= "e",type:=e,offset:=i*c}
theorem J4(d:Nat)(e:TypeId)(c:Nat)(X Y:Array Value): ∀(is:List Nat),Op.eqFields d X Y (is.map (Ri e c))=Op.eqItems d e c X Y is
 |[]=>rfl
 |i::is=>by
  simp only[List.map_cons,Op.eqFields,Op.eqItems,J4 d e c X Y is];rfl
def m1(P:Program)(t:TypeId):Option (List Field):=
 match P.underlying t with
 |some (.struct fs)=>if P.stoodInHeld t||P.eqGuardType P.depth t then none else some fs.toList
 |some (.array n e)=>match P.info? e with
  |some _=>if P.eqGuardType P.depth t then none else some ((List.range n).map (Ri e (P.cellsOf e)))
  |none=>none
 |_=>none
theorem zdd{P:Program}{t:TypeId}{gs:List Field}(h:m1 P t=some gs)(D:Nat)(p q:Array Value)(w:World):
 (Op.equalIn (D+1) t (.agg p) (.agg q)).run P w=(Op.eqFields D p q gs).run P w∧(isAgg t).run P w= .ok true w:=by
 unfold m1 at h
 split at h
 ·rename_i Dm hu
  split at h
  ·cases h
  ·rename_i hc
   simp only[Bool.or_eq_true,not_or,Bool.not_eq_true]at hc;simp only[Option.some.injEq]at h;subst h
   have ql:P.fieldsOf t=Dm:=by simp[Program.fieldsOf,hu]
   exact⟨by rw[run_equalIn_struct w D t p q (by rw[ql];exact hu) hc.1,ql],by simp[isAgg,run_underlying hu]⟩
 ·rename_i n e hu
  split at h
  ·rename_i inf wU
   split at h
   ·cases h
   ·simp only[Option.some.injEq]at h
    subst h;exact⟨by rw[run_equalIn_array w D p q hu wU,←J4],by simp[isAgg,run_underlying hu]⟩
  ·cases h
 ·cases h
def qm(P:Program):Nat→Nat→List Field→List Value→List Value→Option Bool
 |0,_,_,_,_=>none
 |_+1,_,[],_,_=>some true
 |d+1,k,f::fs,xs,ys=>
  if f.name= "_" ||f.offset != k then none
  else match m1 P f.type with
   |some gs=>match P.info? f.type with
    |some inf=>match qm P d 0 gs (xs.take inf.size) (ys.take inf.size),qm P d (k+inf.size) fs (xs.drop inf.size) (ys.drop inf.size)with
     |some a,some b=>some (a&&b)
     |_,_=>none
    |none=>none
   |none=>match xs,ys with
    |x::xs,y::ys=>if rA P f.type x then match m0 x y,qm P d (k+1) fs xs ys with
     |some a,some b=>some (a&&b)
     |_,_=>none
     else none
    |_,_=>none
def zL(P:Program)(k:Nat)(fs:List Field)(xs ys:List Value):Option Bool:=qm P 64 k fs xs ys
theorem zde{t:TypeId}{x y:Value}{b:Bool}(h:m0 x y=some b)(hf:rA P t x=true)(d:Nat)(w:World):(Op.equalIn (d+1) t x y).run P w= .ok b w∧x.oneCell'=true∧y.oneCell'=true∧(isAgg t).run P w= .ok false w:=by
 cases x with
 |int k a=>
  cases y with
  |int bj b'=>
   simp only[m0]at h
   split at h
   ·rename_i aj
    subst aj;simp only[Option.some.injEq]at h;subst h;simp only[rA]at hf
    split at hf
    ·rename_i gG hu
     exact⟨run_equalIn_int w d t k gG a b' hu,rfl,rfl,by simp[isAgg,run_underlying hu]⟩
    ·cases hf
   ·cases h
  |_=>simp[m0]at h
 |bool a=>
  cases y with
  |bool b'=>
   simp only[m0,Option.some.injEq]at h;subst h;simp only[rA]at hf
   split at hf
   ·rename_i hu
    exact⟨run_equalIn_bool w d t a b' hu,rfl,rfl,by simp[isAgg,run_underlying hu]⟩
   ·cases hf
  |_=>simp[m0]at h
 |string a=>
  cases y with
  |string b'=>
   simp only[m0,Option.some.injEq]at h;subst h;simp only[rA]at hf
   split at hf
   ·rename_i hu
    refine⟨?_,rfl,rfl,by simp[isAgg,run_underlying hu]⟩
    rw[run_equalIn_string w d t a b' hu,Rf]
   ·cases hf
  |_=>simp[m0]at h
 |_=>simp[m0]at h
theorem Rj{xs:List Value}{X:Array Value}{k n:Nat}(hM: ∀j x,xs[j]? =some x→X[k+j]? =some x): ∀j x,(xs.take n)[j]? =some x→(X.extract k (k+n))[0+j]? =some x:=by
 intro j x af
 rw[List.getElem?_take]at af
 split at af
 ·rename_i mT
  have:=hM j x af
  rw[Nat.zero_add,Array.getElem?_extract]
  have bG:k+j<X.size:=(Array.getElem?_eq_some_iff.1 this).1
  rw[if_pos (by omega)]
  exact this
 ·cases af
theorem Dn: ∀(d:Nat) (fs:List Field) (k:Nat) (xs ys:List Value) (X Y:Array Value) (b:Bool) (D:Nat) (w:World),qm P d k fs xs ys=some b→d≤D→(∀j x,xs[j]? =some x→X[k+j]? =some x)→(∀j y,ys[j]? =some y→Y[k+j]? =some y)→
 (Op.eqFields D X Y fs).run P w= .ok b w
 |0,_,k,xs,ys,X,Y,b,D,w,h,_,_,_=>by simp[qm]at h
 |d+1,[],k,xs,ys,X,Y,b,D,w,h,_,hM,o2=>by
  simp[qm]at h;subst h;simp[Op.eqFields]
 |d+1,f::fs,k,xs,ys,X,Y,b,0,w,h,mi,_,_=>by omega
 |d+1,f::fs,k,xs,ys,X,Y,b,D+1,w,h,mi,hM,o2=>by
  unfold qm at h
  split at h
  ·cases h
  ·rename_i hc
   simp only[Bool.or_eq_true,decide_eq_true_eq,bne_iff_ne,ne_eq,not_or,Decidable.not_not]at hc;obtain⟨wV,zK⟩:=hc
   split at h
   ·rename_i gs ah
    split at h
    ·rename_i inf wU
     split at h
     ·rename_i gp im aa ae
      simp only[Option.some.injEq]at h;subst h
      have dG:=Dn d gs 0 _ _ (X.extract k (k+inf.size)) (Y.extract k (k+inf.size)) gp D w aa (by omega) (Rj hM) (Rj o2)
      have eQ:=Dn d fs (k+inf.size) _ _ X Y im (D+1) w ae (by omega) (fun j x af=>by rw[List.getElem?_drop]at af;have:=hM _ x af;rwa[show k+(inf.size+j)=k+inf.size+j from by omega]at this) (fun j x af=>by rw[List.getElem?_drop]at af;have:=o2 _ x af;rwa[show k+(inf.size+j)=k+inf.size+j from by omega]at this)
      obtain⟨aB,bd⟩:=zdd ah D (X.extract k (k+inf.size)) (Y.extract k (k+inf.size)) w
      have dI:P.cellsOf f.type=inf.size:=by simp[Program.cellsOf,wU]
      simp only[Op.eqFields,Sem.run_bind,wV,ne_eq,not_false_eq_true,if_true,part,bd,Result.andThen_ok,run_sizeOf w wU,dI,zK,Sem.run_pure,aB,dG]
      cases gp
      ·simp
      ·simpa using eQ
     ·cases h
    ·cases h
   ·split at h
    ·rename_i x J5 y zdf
     split at h
     ·rename_i qj
      split at h
      ·rename_i gp im he ag
       simp only[Option.some.injEq]at h;subst h;obtain⟨aa,_,_,aP⟩:=zde he qj D w
       have Rk:=hM 0 x rfl
       have wW:=o2 0 y rfl
       have aX:=Dn d fs (k+1) J5 zdf X Y im (D+1) w ag (by omega) (fun j x af=>by have:=hM (j+1) x af;rwa[show k+(j+1)=k+1+j from by omega]at this) (fun j x af=>by have:=o2 (j+1) x af;rwa[show k+(j+1)=k+1+j from by omega]at this)
       simp only[Nat.add_zero]at Rk wW;simp only[Op.eqFields,Sem.run_bind,wV,ne_eq,not_false_eq_true,if_true,part,aP,Result.andThen_ok,Bool.false_eq_true,if_false,zK,Rk,wW,Sem.run_pure,aa]
       cases gp
       ·simp
       ·simpa using aX
      ·cases h
     ·cases h
    ·cases h
theorem Rl(fs:List Field)(k:Nat)(xs ys:List Value)(X Y:Array Value)(b:Bool)(d:Nat)(w:World)(h:zL P k fs xs ys=some b)(hd:64≤d+1)(hM: ∀j x,xs[j]? =some x→X[k+j]? =some x)(o2: ∀j y,ys[j]? =some y→Y[k+j]? =some y):
 (Op.eqFields (d+1) X Y fs).run P w= .ok b w:=Dn 64 fs k xs ys X Y b (d+1) w h hd hM o2
def hB:List aD→Option (List Value)
 |[]=>some []
 | .av (.v x)::r=>match hB r with
  |some l=>some (x::l)
  |none=>none
 |_::_=>none
theorem zM{w:World}{ro:Nat→Prop}{σ:Heap}{β:Nat→Value}{N:Nat}: ∀{cs:List aD} {l:List Value} {c:Nat→Value},hB cs=some l→(∀j x,cs[j]? =some x→br w ro σ β N x (c j))→l.length=cs.length∧∀j x,l[j]? =some x→c j=x
 |[],l,c,h,_=>by simp[hB]at h;subst h;simp
 | .av (.v x)::r,l,c,h,hc=>by
  simp only[hB]at h
  cases ag:hB r with
  |none=>simp[ag]at h
  |some h1=>
   simp[ag]at h;subst h;obtain⟨aa,ae⟩:=zM (c:=fun j=>c (j+1)) ag fun j x af=>hc (j+1) x af;refine⟨by simp[aa],fun j y af=>?_⟩
   cases j with
   |zero=>simp at af;subst af;exact br.val (hc 0 _ rfl)
   |succ j=>exact ae j y af
 | .av (.ptr _)::_,_,_,h,_=>by simp[hB]at h
 | .av (.aN _ _)::_,_,_,h,_=>by simp[hB]at h
 | .agg _::_,_,_,h,_=>by simp[hB]at h
 | .tuple _::_,_,_,h,_=>by simp[hB]at h
 | .ptr _ _::_,_,_,h,_=>by simp[hB]at h
 | .dz _ _::_,_,_,h,_=>by simp[hB]at h
 | .cV _ _ _::_,_,_,h,_=>by simp[hB]at h
 | .aN _::_,_,_,h,_=>by simp[hB]at h
 | .fn _ _ _::_,_,_,h,_=>by simp[hB]at h
 | .ref _::_,_,_,h,_=>by simp[hB]at h
 | .top::_,_,_,h,_=>by simp[hB]at h
theorem Rm{t:TypeId}{fs:List Field}(h:m1 P t=some fs){cs ds:List aD}{xs ys:List Value}{b:Bool}(nT:hB cs=some xs)(mj:hB ds=some ys)(ad:zL P 0 fs xs ys=some b)
 {w:World}{ro:Nat→Prop}{σ:Heap}{β:Nat→Value}{N:Nat}{X Y:Value}(hM:br w ro σ β N (.agg cs) X)(o2:br w ro σ β N (.agg ds) Y):
 ∃p q,X= .agg p∧Y= .agg q∧P.eqGuardType P.depth t=false∧(Op.equalIn 10000 t (.agg p) (.agg q)).run P w= .ok b w:=by
 unfold m1 at h
 split at h
 ·rename_i Dm hu
  split at h
  ·cases h
  ·rename_i hc
   simp only[Bool.or_eq_true,not_or,Bool.not_eq_true]at hc;simp only[Option.some.injEq]at h;subst h
   cases hM with
   |agg _ p ak J6=>
    cases o2 with
    |agg _ q aH J7=>
     refine⟨p,q,rfl,rfl,hc.2,?_⟩
     have ql:P.fieldsOf t=Dm:=by simp[Program.fieldsOf,hu]
     rw[run_equalIn_struct w 9999 t p q (by rw[ql];exact hu) hc.1,ql]
     obtain⟨aa,ae⟩:=zM (c:=fun j=>p.getD j undef) nT J6;obtain⟨au,aP⟩:=zM (c:=fun j=>q.getD j undef) mj J7;refine Rl Dm.toList 0 xs ys p q b 9998 w ad (by omega) (fun j x af=>?_) (fun j x af=>?_)
     ·have bG:j<p.size:=by
       rcases Nat.lt_or_ge j xs.length with h|h
       ·omega
       ·rw[List.getElem?_eq_none h]at af;cases af
      have:=ae j x af
      simp[bG]at this;simp[bG,this]
     ·have bG:j<q.size:=by
       rcases Nat.lt_or_ge j ys.length with h|h
       ·omega
       ·rw[List.getElem?_eq_none h]at af;cases af
      have:=aP j x af
      simp[bG]at this;simp[bG,this]
 ·rename_i n e hu
  split at h
  ·rename_i inf wU
   split at h
   ·cases h
   ·rename_i hc
    simp only[Bool.not_eq_true]at hc;simp only[Option.some.injEq]at h;subst h
    cases hM with
    |agg _ p ak J6=>
     cases o2 with
     |agg _ q aH J7=>
      refine⟨p,q,rfl,rfl,hc,?_⟩
      rw[run_equalIn_array w 9999 p q hu wU,←J4];obtain⟨aa,ae⟩:=zM (c:=fun j=>p.getD j undef) nT J6;obtain⟨au,aP⟩:=zM (c:=fun j=>q.getD j undef) mj J7;refine Rl _ 0 xs ys p q b 9998 w ad (by omega) (fun j x af=>?_) (fun j x af=>?_)
      ·have bG:j<p.size:=by
        rcases Nat.lt_or_ge j xs.length with h|h
        ·omega
        ·rw[List.getElem?_eq_none h]at af;cases af
       have:=ae j x af
       simp[bG]at this;simp[bG,this]
      ·have bG:j<q.size:=by
        rcases Nat.lt_or_ge j ys.length with h|h
        ·omega
        ·rw[List.getElem?_eq_none h]at af;cases af
       have:=aP j x af
       simp[bG]at this;simp[bG,this]
  ·cases h
 ·cases h
theorem Rn(cv ty:TypeId)(x y:Operand)(an:o.op= .binOp .eql cv x y ty){fs:List Field}(h:m1 P cv=some fs){cs ds:List aD}(hx:aI G s x= .agg cs)(ax:aI G s y= .agg ds)
 {xs ys:List Value}{b:Bool}(nT:hB cs=some xs)(mj:hB ds=some ys)(ad:zL P 0 fs xs ys=some b):cP P G o s (.av (.v (.bool b))):=
 fun _ a w β ro ag=>by
  obtain⟨p,q,aa,ae,au,aP⟩:=Rm h nT mj ad (hx ▸ ag.eval x) (ax ▸ ag.eval y);exact⟨.bool b,by simp only[execOp,an,aa,ae,Sem.run_bind,run_eqGuard_agg w .eql cv x y p q au,Result.andThen_ok,run_eql_struct,aP,Sem.run_pure],.fD rfl⟩
theorem Ro(cv ty:TypeId)(x y:Operand)(an:o.op= .binOp .neq cv x y ty){fs:List Field}(h:m1 P cv=some fs){cs ds:List aD}(hx:aI G s x= .agg cs)(ax:aI G s y= .agg ds)
 {xs ys:List Value}{b:Bool}(nT:hB cs=some xs)(mj:hB ds=some ys)(ad:zL P 0 fs xs ys=some b):cP P G o s (.av (.v (.bool (!b)))):=
 fun _ a w β ro ag=>by
  obtain⟨p,q,aa,ae,au,aP⟩:=Rm h nT mj ad (hx ▸ ag.eval x) (ax ▸ ag.eval y);exact⟨.bool (!b),by simp only[execOp,an,aa,ae,Sem.run_bind,run_eqGuard_agg w .neq cv x y p q au,Result.andThen_ok,run_neq_struct,aP,Sem.run_pure],.fD rfl⟩
theorem Rp(t:TypeId)(x:Operand)(an:o.op= .unOp .not t x){b:Bool}(hx:aI G s x= .av (.v (.bool b))):cP P G o s (.av (.v (.bool (!b)))):=
 fun _ a w β ro ag=>⟨.bool (!b),by simp[execOp,an,ag.ee hx,Op.unary],.fD rfl⟩
theorem Rq(t:TypeId)(x:Operand)(an:o.op= .unOp .neg t x){k:IntKind}{n:Int}(hx:aI G s x= .av (.v (.int k n))):cP P G o s (.av (.v (.int k (k.wrap (0-n))))):=
 fun _ a w β ro ag=>⟨.int k (k.wrap (0-n)),by simp[execOp,an,ag.ee hx,Op.unary,Op.intArith],.fD rfl⟩
theorem zN(c x y:Operand)(an:o.op= .pick c x y){b:Bool}(hc:aI G s c= .av (.v (.bool b))){v:aD}(aw:(if b then aI G s x else aI G s y)=v):cP P G o s v:=
 fun _ a w β ro ag=>⟨if b then a.eval x else a.eval y,by simp[execOp,an,ag.ee hc,asBool],by
  subst aw
  cases b
  ·simpa using ag.eval y
  ·simpa using ag.eval x⟩
theorem Rr(x:Operand)(i:Nat)(an:o.op= .extract x i){cs:List aD}(hx:aI G s x= .tuple cs){v:aD}(aw:cs[i]? =some v):cP P G o s v:=
 fun _ a w β ro ag=>by
  have h:=ag.eval x
  rw[hx]at h;generalize he:a.eval x=c at h
  cases h with
  |tuple _ c ai hc=>
   have bG:i<c.size:=by have:=(List.getElem?_eq_some_iff.1 aw).1;omega
   refine⟨c[i],?_,?_⟩
   ·simp[execOp,an,Instr.extract,he,bG]
   ·simpa[bG]using hc i v aw
end
end Go.aK
