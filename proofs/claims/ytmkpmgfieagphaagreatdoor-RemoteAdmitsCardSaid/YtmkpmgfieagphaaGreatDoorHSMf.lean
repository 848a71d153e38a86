/- The AV calculus, part A: values as trees, the relation between a symbolic state and a world, and how it is kept. Conditions: none; nothing here speaks of a particular program. -/
import Derived.Test.YtmkpmgfieagphaaGreatDoorHST0
import Derived.Laws.StructEq
import Derived.ChangeKeysEq
namespace Go.aN
open Go
theorem qg(a:Addr)(n:Nat):(a.add n).block=a.block:=by unfold Addr.add;split<;>rfl
theorem At(a:Addr)(i j:Nat):(a.add i).add j=a.add (i+j):=by
 unfold Addr.add
 by_cases hi:i=0<;>by_cases af:j=0<;>simp[hi,af,Nat.add_assoc]
theorem addLit(b o n:Nat):(⟨b,o,none⟩:Addr).add n=⟨b,o+n,none⟩:=by
 unfold Addr.add;split
 ·rename_i h;subst h;rfl
 ·rfl
inductive aD where
 |av (x:ba)
 |agg (cs:List aD)
 |tuple (cs:List aD)
 |ptr (id off:Nat)
 |c5 (id i off:Nat)
 |aP (id:Nat)
 |fn (f:Fn) (first captured:List aD)
 |ref (id:Nat)
 |dF (id n:Nat)
 |top
def Sg(agg:Bool)(n:Nat)(v:Value)(p:Nat→Value):Prop:=
 match agg with
 |true=>∃c:Array Value,v= .agg c∧c.size=n∧∀i,i<n→c.getD i undef=p i
 |false=>n=1∧v=p 0
inductive cZ (w:World) (ro:Nat→Prop):ba→Value→Prop where
 |v (x:Value):x.oneCell'=true→cZ w ro (.v x) x
 |ptr (cs:List ba) (a:Addr) (c:Nat→Value):(∀j x,cs[j]? =some x→ro a.block∧w.cell? (a.add j)=some (c j))→
  (∀j x,cs[j]? =some x→cZ w ro x (c j))→cZ w ro (.ptr cs) (.pointer (some a))
 |aP (n:Nat) (es:List (List ba)) (b:Option Addr) (cap:Nat) (c:Nat→Value):es.length≤cap→cap≤maxLen→(∀e∈es,e.length=n)→
  (0<es.length→∃a,b=some a∧∀j,j<es.length*n→ro a.block∧w.cell? (a.add j)=some (c j))→
  (∀j x,es.flatten[j]? =some x→cZ w ro x (c j))→cZ w ro (.aP n es) (.slice b es.length cap)
 |mp (agg:Bool) (ks:List Value) (vs:List (List ba)) (r:Nat) (es:Array MapEntry) (clock:Nat) (p:Nat→Nat→Value):ro r→w.heap[r]? =some (.map es clock)→es.size=ks.length→vs.length=ks.length→ks.Nodup→
  (∀j k cs,ks[j]? =some k→vs[j]? =some cs→∃e:MapEntry,es[j]? =some e∧e.key=k∧Sg agg cs.length e.val (p j))→
  (∀j cs i x,vs[j]? =some cs→cs[i]? =some x→cZ w ro x (p j i))→cZ w ro (.mp agg ks vs) (.map (some r))
 |li (i:bR) (l:List (fS i)) (c:Value):cZ w ro (.aP (b4 i) (l.map (ck i))) c→cZ w ro (.li i l) c
 |eB (t:TypeId) (agg:Bool) (cs:List ba) (v:Value) (p:Nat→Value):Sg agg cs.length v p→(∀i x,cs[i]? =some x→cZ w ro x (p i))→cZ w ro (.eB t agg cs) (.iface t v)
theorem cZ.one{w:World}{ro:Nat→Prop}{x:ba}{c:Value}(h:cZ w ro x c):c.oneCell'=true:=by
 induction h with
 |v x hx=>exact hx
 |ptr=>rfl
 |aP=>rfl
 |mp=>rfl
 |li i l c h aZ=>exact aZ
 |eB=>rfl
theorem cZ.keep{w w':World}{ro ro':Nat→Prop}{x:ba}{c:Value}(h:cZ w ro x c)
 (hw: ∀b,ro b→w'.heap[b]? =w.heap[b]?)(cm: ∀b,ro b→ro' b):cZ w' ro' x c:=by
 induction h with
 |v x hx=>exact .v x hx
 |ptr cs a c aa _ aZ=>
  exact .ptr cs a c (fun j x af=>⟨cm _ (aa j x af).1,by
   rw[World.cell?_of_block (w:=w) (by rw[qg];exact hw _ (aa j x af).1)];exact(aa j x af).2⟩) aZ
 |aP n es b cap c aa ae au aR _ aZ=>
  refine .aP n es b cap c aa ae au (fun ak=>?_) aZ
  obtain⟨a,ad,hc⟩:=aR ak
  exact⟨a,ad,fun j af=>⟨cm _ (hc j af).1,by
   rw[World.cell?_of_block (w:=w) (by rw[qg];exact hw _ (hc j af).1)];exact(hc j af).2⟩⟩
 |mp agg ks vs r es clock p aa ae au aR bN cL _ aZ=>exact .mp agg ks vs r es clock p (cm _ aa) ((hw _ aa).trans ae) au aR bN cL aZ
 |li i l c _ aZ=>exact .li i l c aZ
 |eB t agg cs v p aa _ aZ=>exact .eB t agg cs v p aa aZ
def cb:Value→Option Nat
 | .pointer (some a)=>some a.block
 | .slice (some a) _ cap=>if cap=0 then none else some a.block
 | .map (some r)=>some r
 |_=>none
structure xe where
 holds:(ba→Value→Prop)→Value→Obj→Prop
 mono: ∀(R rp:ba→Value→Prop) v o,(∀x c,R x c→rp x c)→holds R v o→holds rp v o
 view:Option ba
 Sh: ∀av,view=some av→∀(w:World) (ro ro':Nat→Prop) (v:Value) (o:Obj) (b:Nat),holds (cZ w ro) v o→cb v=some b→w.heap[b]? =some o→(∀x,ro x→ro' x)→ro' b→cZ w ro' av v
inductive ew where
 |box (t:TypeId) (cs:List aD)
 |row (Si:Bool) (t:TypeId) (n:Nat) (es:List (List ba))
 |bU (bW:xe)
def ew.live:ew→Bool
 | .box _ _=>true
 | .row Si _ _ _=>!Si
 | .bU _=>true
abbrev Heap:=List (Nat × ew)
def aE:Heap→Nat→Option ew
 |[],_=>none
 |(k,o)::r,id=>if k=id then some o else aE r id
def eU:Heap→Nat→ew→Heap
 |[],id,o=>[(id,o)]
 |(k,x)::r,id,o=>if k=id then(k,o)::r else(k,x)::eU r id o
def gu:Heap→Nat→Heap
 |[],_=>[]
 |(k,x)::r,id=>if k=id then gu r id else(k,x)::gu r id
theorem xf(h:Heap)(id:Nat)(o:ew)(k:Nat):aE (eU h id o) k=if id=k then some o else aE h k:=by
 induction h with
 |nil=>simp[eU,aE]
 |cons p r aZ=>
  obtain⟨j,x⟩:=p
  by_cases af:j=id
  ·subst af
   by_cases aj:j=k<;>simp[eU,aE,aj]
  ·by_cases aj:j=k
   ·subst aj
    simp[eU,aE,af,Ne.symm af]
   ·simp[eU,aE,af,aj,aZ]
theorem Au(h:Heap)(id k:Nat):aE (gu h id) k=if id=k then none else aE h k:=by
 induction h with
 |nil=>simp[gu,aE]
 |cons p r aZ=>
  obtain⟨j,x⟩:=p
  by_cases af:j=id
  ·subst af
   by_cases aj:j=k
   ·subst aj;simp[gu,aZ]
   ·simp[gu,aE,aj,aZ]
  ·by_cases aj:j=k
   ·subst aj
    simp[gu,aE,af,Ne.symm af]
   ·simp[gu,aE,af,aj,aZ]
def ij(w:World)(t:TypeId)(n:Nat)(v:Value)(len:Nat)(xs:List Value):Prop:=
 xs.length=len*n∧(((∃b,v= .slice b 0 0∧∀a,b=some a→a.block<w.heap.size)∧len=0)∨
  ∃g cap cur,v= .slice (some ⟨g,0,none⟩) len cap∧0<cap∧w.heap[g]? =some (.cells cur t (0,0))∧len≤cap∧cap≤maxLen∧cur.size=cap*n∧cur.toList.take (len*n)=xs)
inductive bG (w:World) (ro:Nat→Prop) (σ:Heap) (β:Nat→Value) (N:Nat):aD→Value→Prop where
 |av (x:ba) (c:Value):cZ w ro x c→bG w ro σ β N (.av x) c
 |agg (cs:List aD) (c:Array Value):c.size=cs.length→(∀j x,cs[j]? =some x→bG w ro σ β N x (c.getD j undef))→bG w ro σ β N (.agg cs) (.agg c)
 |tuple (cs:List aD) (c:Array Value):c.size=cs.length→(∀j x,cs[j]? =some x→bG w ro σ β N x (c.getD j undef))→bG w ro σ β N (.tuple cs) (.tuple c)
 |ptr (id off:Nat) (c:Value):id<N→(∀t cs,aE σ id=some (.box t cs)→∃b,β id= .pointer (some ⟨b,0,none⟩)∧c= .pointer (some ⟨b,off,none⟩))→bG w ro σ β N (.ptr id off) c
 |dF (id n:Nat) (c:Value):id<N→(∀t cs,aE σ id=some (.box t cs)→∃b,β id= .pointer (some ⟨b,0,none⟩)∧c= .slice (some ⟨b,0,none⟩) n n)→bG w ro σ β N (.dF id n) c
 |c5 (id i off:Nat) (c:Value):id<N→(∀z t n es,aE σ id=some (.row z t n es)→∃b l h6,β id= .slice (some ⟨b,0,none⟩) l h6∧c= .pointer (some ⟨b,i*n+off,none⟩))→bG w ro σ β N (.c5 id i off) c
 |aP (id:Nat) (c:Value):id<N→(∀z t n es,aE σ id=some (.row z t n es)→c=β id)→bG w ro σ β N (.aP id) c
 |fn (f:Fn) (p q:List aD) (c d:Array Value):c.size=p.length→d.size=q.length→(∀j x,p[j]? =some x→bG w ro σ β N x (c.getD j undef))→
  (∀j x,q[j]? =some x→bG w ro σ β N x (d.getD j undef))→bG w ro σ β N (.fn f p q) (.func f c d)
 |ref (id:Nat) (c:Value):id<N→(∀bW,aE σ id=some (.bU bW)→c=β id)→bG w ro σ β N (.ref id) c
 |top (c:Value):bG w ro σ β N .top c
inductive k7 (w:World) (ro:Nat→Prop) (σ:Heap) (β:Nat→Value) (N:Nat) (id:Nat):ew→Prop where
 |box (t:TypeId) (cs:List aD) (b:Nat) (arr:Array Value):β id= .pointer (some ⟨b,0,none⟩)→w.heap[b]? =some (.cells arr t (0,0))→arr.size=cs.length→
  (∀j x,cs[j]? =some x→bG w ro σ β N x (arr.getD j undef))→k7 w ro σ β N id (.box t cs)
 |row (t:TypeId) (n:Nat) (es:List (List ba)) (xs:List Value):ij w t n (β id) es.length xs→(∀e∈es,e.length=n)→
  (∀j x,es.flatten[j]? =some x→cZ w ro x (xs.getD j undef))→k7 w ro σ β N id (.row false t n es)
 |gf (t:TypeId) (n:Nat) (es:List (List ba)):cZ w ro (.aP n es) (β id)→k7 w ro σ β N id (.row true t n es)
 |bU (bW:xe) (b:Nat) (o:Obj):cb (β id)=some b→w.heap[b]? =some o→bW.holds (cZ w ro) (β id) o→k7 w ro σ β N id (.bU bW)
theorem ij.hO{w:World}{t:TypeId}{n:Nat}{v:Value}{len:Nat}{xs:List Value}(h:ij w t n v len xs){b:Nat}(ad:cb v=some b):
 b<w.heap.size∧∃cap cur,v= .slice (some ⟨b,0,none⟩) len cap∧w.heap[b]? =some (.cells cur t (0,0)):=by
 rcases h.2 with⟨⟨c,rfl,_⟩,_⟩|⟨g,cap,cur,rfl,hc,ah,_⟩
 ·cases c<;>simp[cb]at ad
 ·have:cap≠0:=by omega
  simp[cb,this]at ad;subst ad;exact⟨(Array.getElem?_eq_some_iff.1 ah).1,cap,cur,rfl,ah⟩
theorem ij.keep{w w':World}{t:TypeId}{n:Nat}{v:Value}{len:Nat}{xs:List Value}(h:ij w t n v len xs)(hw: ∀b,cb v=some b→w'.heap[b]? =w.heap[b]?)(bV:w.heap.size≤w'.heap.size):ij w' t n v len xs:=by
 refine⟨h.1,?_⟩
 rcases h.2 with⟨⟨b,ax,ad⟩,aq⟩|⟨g,cap,cur,ax,hc,ah,rest⟩
 ·exact .inl ⟨⟨b,ax,fun a aY=>Nat.lt_of_lt_of_le (ad a aY) bV⟩,aq⟩
 ·have:cap≠0:=by omega
  exact .inr ⟨g,cap,cur,ax,hc,(hw g (by rw[ax];simp[cb,this])).trans ah,rest⟩
theorem k7.hO{w:World}{ro:Nat→Prop}{σ:Heap}{β:Nat→Value}{N id:Nat}{o:ew}(h:k7 w ro σ β N id o)(aq:o.live=true){b:Nat}(ad:cb (β id)=some b):b<w.heap.size:=by
 cases h with
 |box t cs b' arr aa ae=>rw[aa]at ad;simp[cb]at ad;subst ad;exact(Array.getElem?_eq_some_iff.1 ae).1
 |row t n es xs aa=>exact(aa.hO ad).1
 |gf=>simp[ew.live]at aq
 |bU bW b' o aa ae=>rw[aa]at ad;simp only[Option.some.injEq]at ad;subst ad;exact(Array.getElem?_eq_some_iff.1 ae).1
def Own(σ:Heap)(β:Nat→Value)(b:Nat):Prop:=∃id o,aE σ id=some o∧o.live=true∧cb (β id)=some b
structure ho (w:World) (ro:Nat→Prop) (σ:Heap) (β:Nat→Value) (N:Nat):Prop where
 dh: ∀id o,aE σ id=some o→k7 w ro σ β N id o
 inj: ∀id gv o cG b,aE σ id=some o→aE σ gv=some cG→o.live=true→cG.live=true→cb (β id)=some b→cb (β gv)=some b→id=gv
 fo: ∀b,ro b→¬Own σ β b
 lt: ∀b,ro b→b<w.heap.size
abbrev bc:=Nat→Option (List ba)
def so(w:World)(ro:Nat→Prop)(G:bc):Prop:=∀g cs,G g=some cs→cZ w ro (.ptr cs) (.pointer (some ⟨g,0,none⟩))∧ro g∧∃arr t tT,w.heap[g]? =some (.cells arr t tT)∧arr.size=cs.length
structure Entry where
 w:World
 ro:Nat→Prop
 σ:Heap
 β:Nat→Value
 n:Nat
structure Trans (E:Entry) (w:World) (ro:Nat→Prop) (σ:Heap) (β:Nat→Value) (n:Nat):Prop where
 os:w.os=E.w.os
 tape:w.tape=E.w.tape
 output:w.output=E.w.output
 size:E.w.heap.size≤w.heap.size
 frame: ∀b,b<E.w.heap.size→¬Own E.σ E.β b→w.heap[b]? =E.w.heap[b]?
 jo: ∀b,ro b→E.ro b∨Own E.σ E.β b∨E.w.heap.size≤b
 j9: ∀b,E.ro b→ro b
 hp: ∀b,Own σ β b→Own E.σ E.β b∨E.w.heap.size≤b
 dT: ∀id,id<E.n→∀o,aE σ id=some o→aE E.σ id≠none∧β id=E.β id
 new: ∀id o,aE σ id=some o→id<n
 le:E.n≤n
structure aQ where
 c0:List aD
 heap:Heap
 next:Nat
 base:Nat
structure dc (E:Entry) (G:bc) (s:aQ) (a:Act) (w:World) (β:Nat→Value) (ro:Nat→Prop):Prop where
 defers:a.defers=[]
 size:a.tmps.size=s.c0.length
 slot: ∀i x,s.c0[i]? =some x→bG w ro s.heap β s.next x (a.tmps.getD i undef)
 heap:ho w ro s.heap β s.next
 ik:so w ro G
 trans:Trans E w ro s.heap β s.next
 base:E.n≤s.base
def Rel(E:Entry)(G:bc)(s:aQ)(a:Act)(w:World):Prop:=∃β ro,dc E G s a w β ro
theorem bG.keep{w w':World}{ro ro':Nat→Prop}{σ eZ:Heap}{β dU:Nat→Value}{N o1:Nat}{x:aD}{c:Value}(h:bG w ro σ β N x c)
 (hw: ∀b,ro b→w'.heap[b]? =w.heap[b]?)(cm: ∀b,ro b→ro' b)(mV:N≤o1)
 (nY: ∀id t cs,aE eZ id=some (.box t cs)→dU id=β id∧∃t cs,aE σ id=some (.box t cs))
 (da: ∀id z t n es,aE eZ id=some (.row z t n es)→dU id=β id∧∃z t es,aE σ id=some (.row z t n es))
 (nZ: ∀id bW,aE eZ id=some (.bU bW)→dU id=β id∧∃bW,aE σ id=some (.bU bW)):bG w' ro' eZ dU o1 x c:=by
 induction h with
 |av x c hx=>exact .av x c (hx.keep hw cm)
 |agg cs c ai _ aZ=>exact .agg cs c ai aZ
 |tuple cs c ai _ aZ=>exact .tuple cs c ai aZ
 |ptr id off c aq ak=>
  refine .ptr id off c (by omega) fun t cs ah=>?_
  obtain⟨ad,bL,cs',ec⟩:=nY id t cs ah;obtain⟨b,aa,ae⟩:=ak bL cs' ec;exact⟨b,ad.trans aa,ae⟩
 |dF id off c aq ak=>
  refine .dF id off c (by omega) fun t cs ah=>?_
  obtain⟨ad,bL,cs',ec⟩:=nY id t cs ah;obtain⟨b,aa,ae⟩:=ak bL cs' ec;exact⟨b,ad.trans aa,ae⟩
 |c5 id i off c aq ak=>
  refine .c5 id i off c (by omega) fun z t n es ah=>?_
  obtain⟨ad,iE,bL,dX,ec⟩:=da id z t n es ah;obtain⟨b,l,h6,aa,ae⟩:=ak iE bL n dX ec;exact⟨b,l,h6,ad.trans aa,ae⟩
 |aP id c aq ak=>
  refine .aP id c (by omega) fun z t n es ah=>?_
  obtain⟨ad,iE,bL,dX,ec⟩:=da id z t n es ah;rw[ad];exact ak iE bL n dX ec
 |fn f p q c d aa ae _ _ hq hr=>exact .fn f p q c d aa ae hq hr
 |ref id c aq ak=>
  refine .ref id c (by omega) fun bW ah=>?_
  obtain⟨ad,lL,ec⟩:=nZ id bW ah;rw[ad];exact ak lL ec
 |top c=>exact .top c
theorem so.keep{w w':World}{ro ro':Nat→Prop}{G:bc}(h:so w ro G)
 (hw: ∀b,ro b→w'.heap[b]? =w.heap[b]?)(cm: ∀b,ro b→ro' b):so w' ro' G:=fun g cs ah=>by
 obtain⟨aa,ae,arr,t,tT,au,aR⟩:=h g cs ah
 exact⟨aa.keep hw cm,cm g ae,arr,t,tT,(hw g ae).trans au,aR⟩
def aQ.put(s:aQ)(dst:Option Nat)(v:aD):aQ:=
 match dst with
 |some d=>{s with c0:=s.c0.set d v}
 |none=>s
theorem dc.put{E:Entry}{G:bc}{s:aQ}{a:Act}{w:World}{β:Nat→Value}{ro:Nat→Prop}(h:dc E G s a w β ro)(dst:Option Nat)(v:aD)(c:Value)
 (ax:bG w ro s.heap β s.next v c):dc E G (s.put dst v) (a.put dst c) w β ro:=by
 cases dst with
 |none=>exact h
 |some d=>
  refine⟨h.defers,by simpa[Act.put,aQ.put]using h.size,fun i x hx=>?_,h.heap,h.ik,h.trans,h.base⟩
  simp only[aQ.put,Act.put]at hx⊢;rw[List.getElem?_set]at hx
  have bV:=h.size
  by_cases Ln:d=i
  ·subst Ln
   simp only[if_true]at hx
   split at hx
   ·rename_i bM
    simp only[Option.some.injEq]at hx;subst hx
    have:d<a.tmps.size:=by omega
    simpa[this]using ax
   ·cases hx
  ·simp only[Ln,if_false]at hx
   have:=h.slot i x hx
   simpa[Array.getElem?_setIfInBounds_ne Ln]using this
end Go.aN
namespace Go.aN
open Go
def aL(G:bc)(s:aQ):Operand→aD
 | .tmp t=>s.c0.getD t .top
 | .const v=>if v.oneCell' then .av (.v v)else .top
 | .global g=>match G g with
  |some cs=>.av (.ptr cs)
  |none=>.top
 | .func f=>.fn (.func f) [] []
theorem dc.eval{E:Entry}{G:bc}{s:aQ}{a:Act}{w:World}{β:Nat→Value}{ro:Nat→Prop}(h:dc E G s a w β ro)(x:Operand):
 bG w ro s.heap β s.next (aL G s x) (a.eval x):=by
 cases x with
 |tmp t=>
  simp only[aL,Act.eval]
  cases aH:s.c0[t]? with
  |none=>simp only[List.getD,aH];exact .top _
  |some v=>simp only[List.getD,aH];exact h.slot t v aH
 |const v=>
  simp only[aL,Act.eval]
  split
  ·exact .av _ _ (.v _ (by assumption))
  ·exact .top _
 |global g=>
  simp only[aL,Act.eval]
  split
  ·exact .av _ _ (h.ik g _ (by assumption)).1
  ·exact .top _
 |func f=>exact .fn _ _ _ _ _ rfl rfl (by simp) (by simp)
def dY(P:Program)(G:bc)(o:Oper)(s bF:aQ):Prop:=
 ∀E a w,Rel E G s a w→∀(K:Act→World→Prop) (Q:Exit→Act→World→Prop),(∀bg w',Rel E G bF bg w'→K bg w')→o.wp P a w K Q
def gg(w w':World):Prop:=∀b,b<w.heap.size→w'.heap[b]? =w.heap[b]?
def mo(P:Program)(G:bc)(o:Oper)(s bF:aQ):Prop:=
 ∀E a w,Rel E G s a w→∀(K:Act→World→Prop) (Q:Exit→Act→World→Prop),(∀bg w',Rel E G bF bg w'→gg w w'→K bg w')→o.wp P a w K Q
theorem mo.op{P:Program}{G:bc}{o:Oper}{s bF:aQ}(h:mo P G o s bF):dY P G o s bF:=fun E a w ag K Q hK=>h E a w ag K Q fun bg w' ed _=>hK bg w' ed
section
variable {P:Program} {G:bc} {o:Oper} {s:aQ}
theorem dY.value{v:aD}(h: ∀E a w β ro,dc E G s a w β ro→∃c,(execOp a.eval o).run P w= .ok (.value c) w∧bG w ro s.heap β s.next v c):
 dY P G o s (s.put o.dst v):=by
 intro E a w ⟨β,ro,ag⟩ K Q hK
 obtain⟨c,cA,ax⟩:=h E a w β ro ag
 unfold Oper.wp
 rw[cA]
 exact hK _ _ ⟨β,ro,ag.put o.dst v c ax⟩
abbrev cY(P:Program)(G:bc)(o:Oper)(s:aQ)(v:aD):Prop:=
 ∀E a w β ro,dc E G s a w β ro→∃c,(execOp a.eval o).run P w= .ok (.value c) w∧bG w ro s.heap β s.next v c
theorem cY.step{v:aD}(h:cY P G o s v):dY P G o s (s.put o.dst v):=.value h
theorem cY.Sj{v:aD}(h:cY P G o s v):mo P G o s (s.put o.dst v):=by
 intro E a w ⟨β,ro,ag⟩ K Q hK
 obtain⟨c,cA,ax⟩:=h E a w β ro ag
 unfold Oper.wp
 rw[cA]
 exact hK _ _ ⟨β,ro,ag.put o.dst v c ax⟩ fun _ _=>rfl
theorem Sk(x:Operand)(ao:o.op= .move x):cY P G o s (aL G s x):=
 fun _ a w _ _ ag=>⟨a.eval x,by simp[execOp,ao],ag.eval x⟩
theorem Sl(x:Operand)(ao:o.op= .assign x):cY P G o s (aL G s x):=
 fun _ a w _ _ ag=>⟨a.eval x,by simp[execOp,ao],ag.eval x⟩
def fu(σ:Heap):aD→Option (List aD)
 | .av (.ptr cs)=>some (cs.map .av)
 | .ptr id off=>match aE σ id with
  |some (.box _ cs)=>some (cs.drop off)
  |_=>none
 | .c5 id i off=>match aE σ id with
  |some (.row false _ _ es)=>match es[i]? with
   |some e=>some ((e.drop off).map .av)
   |none=>none
  |_=>none
 |_=>none
theorem rq{α:Type}{n:Nat}: ∀{es:List (List α)},(∀e∈es,e.length=n)→∀{i:Nat} {e:List α},es[i]? =some e→∀j,j<n→es.flatten[i*n+j]? =e[j]?
 |[],_,i,e,h,_,_=>by simp at h
 |x::r,hn,i,e,h,j,af=>by
  have hx:x.length=n:=hn x (by simp)
  cases i with
  |zero=>
   simp at h;subst h;simp only[List.flatten_cons,Nat.zero_mul,Nat.zero_add];rw[List.getElem?_append_left (by omega)]
  |succ i=>
   simp at h
   have aZ:=rq (es:=r) (fun e he=>hn e (by simp[he])) h j af
   simp only[List.flatten_cons];rw[List.getElem?_append_right (by rw[Nat.succ_mul];omega),←aZ]
   congr 1
   rw[Nat.succ_mul];omega
theorem ka{α:Type}{n:Nat}: ∀{es:List (List α)},(∀e∈es,e.length=n)→es.flatten.length=es.length*n
 |[],_=>by simp
 |x::r,hn=>by
  simp only[List.flatten_cons,List.length_append,List.length_cons,Nat.succ_mul];rw[ka (es:=r) (fun e he=>hn e (by simp[he])),hn x (by simp)]
  omega
theorem bG.one{w:World}{ro:Nat→Prop}{σ:Heap}{β:Nat→Value}{N:Nat}{x:ba}{c:Value}(h:bG w ro σ β N (.av x) c):c.oneCell'=true:=by
 cases h with
 |av _ _ h=>exact h.one
theorem xg{w:World}{ro:Nat→Prop}{σ:Heap}{β:Nat→Value}{N:Nat}(a6:ho w ro σ β N){p:aD}{c:Value}{cs:List aD}(ak:fu σ p=some cs)(hc:bG w ro σ β N p c)
 (b9:cs≠[]): ∃a,c= .pointer (some a)∧∃f:Nat→Value,∀j x,cs[j]? =some x→w.cell? (a.add j)=some (f j)∧bG w ro σ β N x (f j):=by
 cases hc with
 |av x c hx=>
  cases hx with
  |v x=>simp[fu]at ak
  |ptr cs' a f aa ae=>
   simp only[fu,Option.some.injEq]at ak;subst ak;refine⟨a,rfl,f,fun j x af=>?_⟩
   rw[List.getElem?_map]at af
   cases o2:cs'[j]? with
   |none=>simp[o2]at af
   |some y=>
    simp[o2]at af;subst af;exact⟨(aa j y o2).2,.av _ _ (ae j y o2)⟩
  |aP=>simp[fu]at ak
  |mp=>simp[fu]at ak
  |eB=>simp[fu]at ak
  |li=>simp[fu]at ak
 |ptr id off c bM sS=>
  simp only[fu]at ak
  cases ao:aE σ id with
  |none=>simp[ao]at ak
  |some il=>
   cases il with
   |row=>simp[ao]at ak
   |bU=>simp[ao]at ak
   |box t cs'=>
    simp only[ao,Option.some.injEq]at ak;subst ak;obtain⟨b,ad,rfl⟩:=sS t cs' ao
    have du:=a6.dh id _ ao
    cases du with
    |box _ _ b' arr gD ah bV e0=>
     rw[ad]at gD;simp only[Value.pointer.injEq,Option.some.injEq,Addr.mk.injEq,and_true]at gD;subst gD;refine⟨_,rfl,fun j=>arr.getD (off+j) undef,fun j x af=>?_⟩
     rw[List.getElem?_drop]at af
     have bM:off+j<cs'.length:=by
      rcases Nat.lt_or_ge (off+j) cs'.length with h|h
      ·exact h
      ·rw[List.getElem?_eq_none h]at af;cases af
     refine⟨?_,e0 _ _ af⟩
     rw[addLit,cell_of_row w b (off+j) arr t (0,0) ah]
     have:off+j<arr.size:=by omega
     simp[this]
 |c5 id i off c bM sS=>
  simp only[fu]at ak
  cases ao:aE σ id with
  |none=>simp[ao]at ak
  |some il=>
   cases il with
   |box=>simp[ao]at ak
   |bU=>simp[ao]at ak
   |row z t n es=>
    cases z with
    |true=>simp[ao]at ak
    |false=>
     simp only[ao]at ak
     cases m8:es[i]? with
     |none=>simp[m8]at ak
     |some e=>
      simp only[m8,Option.some.injEq]at ak;subst ak;obtain⟨b,l,h6,ad,rfl⟩:=sS false t n es ao
      have du:=a6.dh id _ ao
      cases du with
      |row _ _ _ xs hG hn e0=>
       rw[ad]at hG;obtain⟨D7,mW⟩:=hG
       rcases mW with⟨⟨_,h,_⟩,aT⟩|⟨g,cap,cur,ax,_,ah,hle,im,dR,lM⟩
       ·have:=(List.getElem?_eq_some_iff.1 m8).1;omega
       ·simp only[Value.slice.injEq,Option.some.injEq,Addr.mk.injEq,and_true]at ax
        obtain⟨rfl,_,_⟩:=ax;refine⟨_,rfl,fun j=>xs.getD (i*n+(off+j)) undef,fun j x af=>?_⟩
        rw[List.getElem?_map]at af
        cases o2:(e.drop off)[j]? with
        |none=>simp[o2]at af
        |some y=>
         simp[o2]at af;subst af;rw[List.getElem?_drop]at o2
         have n1:e.length=n:=hn e (List.mem_of_getElem? m8)
         have mY:off+j<n:=by
          rcases Nat.lt_or_ge (off+j) e.length with h|h
          ·omega
          ·rw[List.getElem?_eq_none h]at o2;cases o2
         have mq:es.flatten[i*n+(off+j)]? =some y:=by rw[rq hn m8 _ mY];exact o2
         refine⟨?_,.av _ _ (e0 _ _ mq)⟩
         have jQ:i*n+(off+j)<xs.length:=by
          have aa:i*n+(off+j)<es.flatten.length:=by
           rcases Nat.lt_or_ge (i*n+(off+j)) es.flatten.length with h|h
           ·exact h
           ·rw[List.getElem?_eq_none h]at mq;cases mq
          rw[ka hn]at aa
          have ae:=D7
          omega
         rw[addLit,Nat.add_assoc,cell_of_row w b _ cur t (0,0) ah]
         have hx:xs[i*n+(off+j)]? =cur[i*n+(off+j)]? :=by
          rw[←lM,List.getElem?_take]
          have ae:=D7
          rw[if_pos (by omega)]
          simp
         rw[←hx];simp[List.getD,List.getElem?_eq_getElem jQ]
 |agg=>simp[fu]at ak
 |tuple=>simp[fu]at ak
 |aP=>simp[fu]at ak
 |fn=>simp[fu]at ak
 |ref=>simp[fu]at ak
 |dF=>simp[fu]at ak
 |top=>simp[fu]at ak
def mr(P:Program)(t:TypeId):Option Nat:=
 match P.underlying t with
 |some (.struct _)|some (.array _ _)=>(P.info? t).map (·.size)
 |_=>none
def scalar(P:Program)(t:TypeId):Bool:=
 match P.underlying t with
 |some (.struct _)|some (.array _ _)|none=>false
 |_=>true
theorem D8{t:TypeId}{n:Nat}(h:mr P t=some n)(w:World):(isAgg t).run P w= .ok true w∧(sizeOf t).run P w= .ok n w:=by
 unfold mr at h
 cases hu:P.underlying t with
 |none=>simp[hu]at h
 |some d=>
  cases hi:P.info? t with
  |none=>cases d<;>simp[hu,hi]at h
  |some i=>
   cases d<;>simp[hu,hi]at h
   all_goals
    subst h;exact⟨by simp[isAgg,run_underlying hu],by simp[sizeOf,typeInfo,hi]⟩
theorem Av{t:TypeId}(h:scalar P t=true)(w:World):(isAgg t).run P w= .ok false w:=by
 unfold scalar at h
 cases hu:P.underlying t with
 |none=>simp[hu]at h
 |some d=>cases d<;>simp[hu]at h<;>simp[isAgg,run_underlying hu]
theorem Sm(t:TypeId)(x:Operand)(ao:o.op= .load t x){n:Nat}(aH:mr P t=some n){cs:List aD}(ak:fu s.heap (aL G s x)=some cs)(hn:n≤cs.length)(aJ:0<n):
 cY P G o s (.agg (cs.take n)):=
 fun _ a w β ro ag=>by
  obtain⟨c8,hc,f,hf⟩:=xg ag.heap ak (ag.eval x) (by intro h;subst h;simp at hn;omega)
  obtain⟨aa,ae⟩:=D8 aH w
  have aq:=run_loadCells (P:=P) w c8 n f (fun j af=>(hf j (cs[j]'(by omega)) (by simp)).1)
  refine⟨.agg ((List.range n).map f).toArray,?_,.agg _ _ (by simp;omega) fun j y af=>?_⟩
  ·simp[execOp,ao,hc,Instr.loadAt,Instr.sureAddr,loadVar,aa,ae,aq]
  ·rw[List.getElem?_take]at af
   split at af
   ·have:=(hf j y af).2
    rename_i mY;simpa[mY]using this
   ·cases af
theorem Lo(t:TypeId)(x:Operand)(ao:o.op= .load t x)(aH:scalar P t=true){y:aD}{cs:List aD}(ak:fu s.heap (aL G s x)=some (y::cs)):
 cY P G o s y:=
 fun _ a w β ro ag=>by
  obtain⟨c8,hc,f,hf⟩:=xg ag.heap ak (ag.eval x) (by simp)
  have aa:=Av aH w
  obtain⟨k8,dG⟩:=hf 0 y rfl;rw[show c8.add 0=c8 from by simp[Addr.add]]at k8
  exact⟨f 0,by simp[execOp,ao,hc,Instr.loadAt,Instr.sureAddr,loadVar,aa,run_load,k8],dG⟩
def sT(P:Program)(t:TypeId)(f:Nat):Option Nat:=
 match P.underlying t with
 |some (.struct fs)=>match fs[f]? with
  |some fd=>match P.info? fd.type with
   |some i=>if i.size=0 then none else some fd.offset
   |none=>none
  |none=>none
 |_=>none
def iR(k:Nat):aD→Option aD
 | .av (.ptr cs)=>some (.av (.ptr (cs.drop k)))
 | .ptr id off=>some (.ptr id (off+k))
 | .c5 id i off=>some (.c5 id i (off+k))
 |_=>none
theorem Sn{w:World}{ro:Nat→Prop}{σ:Heap}{β:Nat→Value}{N:Nat}{p q:aD}{c:Value}{cs:List aD}{k:Nat}(ai:iR k p=some q)(ak:fu σ p=some cs)(hc:bG w ro σ β N p c):
 ∃a,c= .pointer (some a)∧bG w ro σ β N q (.pointer (some (a.add k))):=by
 cases hc with
 |av x c hx=>
  cases hx with
  |v x=>simp[iR]at ai
  |ptr cs' a f aa ae=>
   simp only[iR,Option.some.injEq]at ai;subst ai;refine⟨a,rfl,.av _ _ (.ptr _ _ (fun j=>f (k+j)) (fun j x af=>?_) (fun j x af=>?_))⟩
   ·rw[List.getElem?_drop]at af
    rw[qg,At];exact aa _ _ af
   ·rw[List.getElem?_drop]at af
    exact ae _ _ af
  |aP=>simp[iR]at ai
  |mp=>simp[iR]at ai
  |eB=>simp[iR]at ai
  |li=>simp[iR]at ai
 |ptr id off c bM sS=>
  simp only[iR,Option.some.injEq]at ai;subst ai;simp only[fu]at ak
  split at ak
  ·rename_i t cs' ao
   obtain⟨b,ad,rfl⟩:=sS t cs' ao;refine⟨_,rfl,.ptr _ _ _ bM fun bL zlX lE=>⟨b,ad,by rw[addLit]⟩⟩
  ·cases ak
 |c5 id i off c bM sS=>
  simp only[iR,Option.some.injEq]at ai;subst ai;simp only[fu]at ak
  split at ak
  ·rename_i t n es ao
   obtain⟨b,l,h6,ad,rfl⟩:=sS false t n es ao;refine⟨_,rfl,.c5 _ _ _ _ bM fun iE bL cS dX lE=>⟨b,l,h6,ad,?_⟩⟩
   rw[ao]at lE;simp only[Option.some.injEq,ew.row.injEq]at lE;obtain⟨_,_,rfl,_⟩:=lE;rw[addLit,Nat.add_assoc]
  ·cases ak
 |agg=>simp[iR]at ai
 |tuple=>simp[iR]at ai
 |aP=>simp[iR]at ai
 |fn=>simp[iR]at ai
 |ref=>simp[iR]at ai
 |dF=>simp[iR]at ai
 |top=>simp[iR]at ai
theorem So{t f k:Nat}(h:sT P t f=some k)(a:Addr)(w:World):(Instr.fieldAt t (.pointer (some a)) f).run P w= .ok (.pointer (some (a.add k))) w:=by
 unfold sT at h
 split at h
 ·rename_i fs hu
  split at h
  ·rename_i fd hf
   split at h
   ·rename_i i hi
    split at h
    ·cases h
    ·rename_i aT
     simp only[Option.some.injEq]at h;subst h;simp[Instr.fieldAt,run_underlying hu,hf,Instr.sureAddr,fieldPlace,sizeOf,typeInfo,hi,aT]
   ·cases h
  ·cases h
 ·cases h
def jR(σ:Heap):aD→Bool
 | .av (.ptr _)=>true
 | .ptr id _=>match aE σ id with
  |some (.box _ _)=>true
  |_=>false
 | .c5 id _ _=>match aE σ id with
  |some (.row _ _ _ _)=>true
  |_=>false
 |_=>false
def rr(k:Nat):aD→aD
 | .av (.ptr cs)=>.av (.ptr (cs.drop k))
 | .ptr id off=>.ptr id (off+k)
 | .c5 id i off=>.c5 id i (off+k)
 |x=>x
theorem Aw{w:World}{ro:Nat→Prop}{σ:Heap}{β:Nat→Value}{N:Nat}{x:aD}{c:Value}(hx:jR σ x=true)(h:bG w ro σ β N x c): ∃a,c= .pointer (some a)∧∀k,bG w ro σ β N (rr k x) (.pointer (some (a.add k))):=by
 cases h with
 |av x c ag=>
  cases ag with
  |ptr cs a f aa ae=>
   refine⟨a,rfl,fun k=>.av _ _ (.ptr _ _ (fun j=>f (k+j)) (fun j x af=>?_) (fun j x af=>?_))⟩
   ·rw[List.getElem?_drop]at af
    rw[qg,At];exact aa _ _ af
   ·rw[List.getElem?_drop]at af
    exact ae _ _ af
  |v=>simp[jR]at hx
  |aP=>simp[jR]at hx
  |mp=>simp[jR]at hx
  |eB=>simp[jR]at hx
  |li=>simp[jR]at hx
 |ptr id off c aq ak=>
  simp only[jR]at hx
  split at hx
  ·rename_i t cs ah
   obtain⟨b,ad,rfl⟩:=ak t cs ah;refine⟨_,rfl,fun k=>.ptr id (off+k) _ aq fun bL cs' ec=>?_⟩
   obtain⟨b',gD,Ax⟩:=ak bL cs' ec;rw[ad]at gD;simp only[Value.pointer.injEq,Option.some.injEq,Addr.mk.injEq,and_true]at gD;subst gD;exact⟨b,ad,by rw[addLit]⟩
  ·cases hx
 |c5 id i off c aq ak=>
  simp only[jR]at hx
  split at hx
  ·rename_i z t n es ah
   obtain⟨b,l,h6,ad,rfl⟩:=ak z t n es ah;refine⟨_,rfl,fun k=>.c5 id i (off+k) _ aq fun iE bL cS dX ec=>?_⟩
   rw[ah]at ec;simp only[Option.some.injEq,ew.row.injEq]at ec;obtain⟨_,_,rfl,_⟩:=ec;exact⟨b,l,h6,ad,by rw[addLit,Nat.add_assoc]⟩
  ·cases hx
 |_=>simp[jR]at hx
theorem Sp(t:TypeId)(x:Operand)(f:Nat)(ao:o.op= .fieldAddr t x f){k:Nat}(aj:sT P t f=some k)(ak:jR s.heap (aL G s x)=true):cY P G o s (rr k (aL G s x)):=
 fun _ a w β ro ag=>by
  obtain⟨c8,hc,dG⟩:=Aw ak (ag.eval x);exact⟨_,by simp[execOp,ao,hc,So aj],dG k⟩
theorem Sq(x:Operand)(ao:o.op= .nilCheck x)(ak:jR s.heap (aL G s x)=true):cY P G o s (aL G s x):=
 fun _ a w β ro ag=>by
  obtain⟨c8,hc,_⟩:=Aw ak (ag.eval x);exact⟨_,by simp[execOp,ao,hc],hc ▸ ag.eval x⟩
end
end Go.aN
namespace Go.aN
open Go
def gX(β:Nat→Value)(id:Nat)(v:Value):Nat→Value:=fun k=>if k=id then v else β k
theorem dZ(β:Nat→Value)(id:Nat)(v:Value):gX β id v id=v:=by simp[gX]
theorem db(β:Nat→Value){id k:Nat}(v:Value)(h:k≠id):gX β id v k=β k:=by simp[gX,h]
section
variable {E:Entry} {G:bc} {s:aQ} {a:Act} {w w':World} {β:Nat→Value} {ro:Nat→Prop}
theorem k7.keep{w w':World}{ro ro':Nat→Prop}{σ eZ:Heap}{β dU:Nat→Value}{N o1:Nat}{id:Nat}{o:ew}(h:k7 w ro σ β N id o)
 (hw: ∀b,ro b→w'.heap[b]? =w.heap[b]?)(cm: ∀b,ro b→ro' b)(mV:N≤o1)(bV:w.heap.size≤w'.heap.size)(bj:dU id=β id)(gN:o.live=true→∀b,cb (β id)=some b→w'.heap[b]? =w.heap[b]?)
 (nY: ∀id t cs,aE eZ id=some (.box t cs)→dU id=β id∧∃t cs,aE σ id=some (.box t cs))
 (da: ∀id z t n es,aE eZ id=some (.row z t n es)→dU id=β id∧∃z t es,aE σ id=some (.row z t n es))
 (nZ: ∀id bW,aE eZ id=some (.bU bW)→dU id=β id∧∃bW,aE σ id=some (.bU bW)):k7 w' ro' eZ dU o1 id o:=by
 cases h with
 |box t cs b arr aa ae au aR=>
  exact .box t cs b arr (bj.trans aa) ((gN rfl b (by rw[aa];rfl)).trans ae) au fun j x af=>(aR j x af).keep hw cm mV nY da nZ
 |row t n es xs aa ae au=>
  exact .row t n es xs (by rw[bj];exact aa.keep (fun b ad=>gN rfl b ad) bV) ae fun j x af=>(au j x af).keep hw cm
 |gf t n es aa=>exact .gf t n es (by rw[bj];exact aa.keep hw cm)
 |bU bW b o aa ae au=>exact .bU bW b o (by rw[bj];exact aa) ((gN rfl b aa).trans ae) (by rw[bj];exact bW.mono _ _ _ _ (fun x c h=>h.keep hw cm) au)
theorem dc.new(h:dc E G s a w β ro)(id:Nat)(bj:aE s.heap id=none)(ad:s.base≤id)(bM:s.next≤id)(o:ew)(val:Value)
 (o3:w'.os=w.os)(o4:w'.tape=w.tape)(kI:w'.output=w.output)(bV:w.heap.size≤w'.heap.size)(hw: ∀b,b<w.heap.size→w'.heap[b]? =w.heap[b]?)
 (gN: ∀b,cb val=some b→w.heap.size≤b)(_hlive:o.live=true)
 (du:k7 w' ro ((id,o)::s.heap) (gX β id val) (id+1) id o):dc E G {s with heap:=(id,o)::s.heap,next:=id+1} a w' (gX β id val) ro:=by
 have cm: ∀b,ro b→w'.heap[b]? =w.heap[b]? :=fun b ag=>hw b (h.heap.lt b ag)
 have ah: ∀k,k≠id→aE ((id,o)::s.heap) k=aE s.heap k:=fun k aj=>by simp[aE,Ne.symm aj]
 have uX:aE ((id,o)::s.heap) id=some o:=by simp[aE]
 have Lp: ∀k p b,aE s.heap k=some p→p.live=true→cb (β k)=some b→b<w.heap.size:=fun k p b aj ak bk=>(h.heap.dh k p aj).hO ak bk
 have key: ∀x c,bG w ro s.heap β s.next x c→bG w' ro ((id,o)::s.heap) (gX β id val) (id+1) x c:=by
  intro x c hx
  induction hx with
  |av x c hx=>exact .av x c (hx.keep cm fun _ h=>h)
  |agg cs c ai _ aZ=>exact .agg cs c ai aZ
  |tuple cs c ai _ aZ=>exact .tuple cs c ai aZ
  |ptr k off c aq ak=>
   have aj:k≠id:=by omega
   exact .ptr k off c (by omega) fun t cs bz=>by rw[db _ _ aj];rw[ah k aj]at bz;exact ak t cs bz
  |dF k off c aq ak=>
   have aj:k≠id:=by omega
   exact .dF k off c (by omega) fun t cs bz=>by rw[db _ _ aj];rw[ah k aj]at bz;exact ak t cs bz
  |c5 k i off c aq ak=>
   have aj:k≠id:=by omega
   exact .c5 k i off c (by omega) fun z t n es bz=>by rw[db _ _ aj];rw[ah k aj]at bz;exact ak z t n es bz
  |aP k c aq ak=>
   have aj:k≠id:=by omega
   exact .aP k c (by omega) fun z t n es bz=>by rw[db _ _ aj];rw[ah k aj]at bz;exact ak z t n es bz
  |fn f p q c d aa ae _ _ hq hr=>exact .fn f p q c d aa ae hq hr
  |ref k c aq ak=>
   have aj:k≠id:=by omega
   exact .ref k c (by omega) fun bW bz=>by rw[db _ _ aj];rw[ah k aj]at bz;exact ak bW bz
  |top c=>exact .top c
 refine⟨h.defers,h.size,fun i x hx=>key _ _ (h.slot i x hx),⟨fun k p aj=>?_,fun k bs p fZ b aj eu ak gO bk eC=>?_,fun b ag=>?_,fun b ag=>Nat.lt_of_lt_of_le (h.heap.lt b ag) bV⟩,
  h.ik.keep cm fun _ h=>h,?_,h.base⟩
 ·by_cases bI:k=id
  ·subst bI
   rw[uX]at aj;simp only[Option.some.injEq]at aj;subst aj;exact du
  ·rw[ah k bI]at aj
   have gP:=h.heap.dh k p aj
   cases gP with
   |box t cs b arr aa ae au aR=>
    have hP:=Lp k _ b aj rfl (by rw[aa];rfl)
    exact .box t cs b arr (by rw[db _ _ bI];exact aa) ((hw b hP).trans ae) au fun j x af=>key _ _ (aR j x af)
   |row t n es xs aa ae au=>
    exact .row t n es xs (by rw[db _ _ bI];exact aa.keep (fun b ad=>hw b (aa.hO ad).1) bV) ae fun j x af=>(au j x af).keep cm fun _ h=>h
   |gf t n es aa=>exact .gf t n es (by rw[db _ _ bI];exact aa.keep cm fun _ h=>h)
   |bU bW b o aa ae au=>exact .bU bW b o (by rw[db _ _ bI];exact aa) ((hw b (Array.getElem?_eq_some_iff.1 ae).1).trans ae) (by rw[db _ _ bI];exact bW.mono _ _ _ _ (fun x c h=>h.keep cm fun _ h=>h) au)
 ·by_cases bI:k=id
  ·by_cases gQ:bs=id
   ·rw[bI,gQ]
   ·subst bI
    rw[dZ]at bk;rw[db _ _ gQ]at eC;rw[ah bs gQ]at eu
    have aa:=gN b bk
    have ae:=Lp bs fZ b eu gO eC
    omega
  ·by_cases gQ:bs=id
   ·subst gQ
    rw[dZ]at eC;rw[db _ _ bI]at bk;rw[ah k bI]at aj
    have aa:=gN b eC
    have ae:=Lp k p b aj ak bk
    omega
   ·rw[db _ _ bI]at bk
    rw[db _ _ gQ]at eC;rw[ah k bI]at aj;rw[ah bs gQ]at eu;exact h.heap.inj k bs p fZ b aj eu ak gO bk eC
 ·rintro⟨k,p,aj,ak,bk⟩
  by_cases bI:k=id
  ·subst bI
   rw[dZ]at bk
   have aa:=gN b bk
   have ae:=h.heap.lt b ag
   omega
  ·rw[db _ _ bI]at bk
   rw[ah k bI]at aj;exact h.heap.fo b ag ⟨k,p,aj,ak,bk⟩
 ·have t:=h.trans
  refine⟨o3.trans t.os,o4.trans t.tape,kI.trans t.output,Nat.le_trans t.size bV,fun b hP gh=>?_,t.jo,t.j9,?_,fun k aj p bz=>?_,fun k p bz=>?_,Nat.le_trans h.base (Nat.le_trans ad (Nat.le_succ _))⟩
  ·rw[hw b (Nat.lt_of_lt_of_le hP t.size)]
   exact t.frame b hP gh
  ·rintro b ⟨k,p,aj,ak,bk⟩
   by_cases bI:k=id
   ·subst bI
    rw[dZ]at bk;exact .inr (Nat.le_trans t.size (gN b bk))
   ·rw[db _ _ bI]at bk
    rw[ah k bI]at aj;exact t.hp b ⟨k,p,aj,ak,bk⟩
  ·have bI:k≠id:=by have:=h.base;omega
   rw[ah k bI]at bz;rw[db _ _ bI];exact t.dT k aj p bz
  ·by_cases bI:k=id
   ·subst bI;exact Nat.lt_succ_self _
   ·rw[ah k bI]at bz
    have:=t.new k p bz
    show k<id+1;omega
theorem dc.write(h:dc E G s a w β ro)(id:Nat)(o cG:ew)(bj:aE s.heap id=some o)(xh:o.live=true)(zlY:cG.live=true)
 (Ay:(∃t cs cs',o= .box t cs∧cG= .box t cs')∨(∃t n es dX,o= .row false t n es∧cG= .row false t n dX)∨(∃bW lL,o= .bU bW∧cG= .bU lL))
 (o3:w'.os=w.os)(o4:w'.tape=w.tape)(kI:w'.output=w.output)(bV:w.heap.size≤w'.heap.size)(hw: ∀b,b<w.heap.size→cb (β id)≠some b→w'.heap[b]? =w.heap[b]?)
 (du:k7 w' ro (eU s.heap id cG) β s.next id cG):dc E G {s with heap:=eU s.heap id cG} a w' β ro:=by
 have cm: ∀b,ro b→w'.heap[b]? =w.heap[b]? :=fun b ag=>hw b (h.heap.lt b ag) fun ad=>h.heap.fo b ag ⟨id,o,bj,xh,ad⟩
 have ah:=xf s.heap id cG
 have own: ∀b,Own (eU s.heap id cG) β b→Own s.heap β b:=by
  rintro b ⟨k,p,aj,ak,bk⟩
  rw[ah k]at aj
  by_cases bI:id=k
  ·subst bI;exact⟨id,o,bj,xh,bk⟩
  ·rw[if_neg bI]at aj;exact⟨k,p,aj,ak,bk⟩
 have n2: ∀k p b,aE s.heap k=some p→p.live=true→cb (β k)=some b→b<w.heap.size:=fun k p b aj ak bk=>(h.heap.dh k p aj).hO ak bk
 have nY: ∀k t cs,aE (eU s.heap id cG) k=some (.box t cs)→β k=β k∧∃t cs,aE s.heap k=some (.box t cs):=by
  intro k t cs aj;rw[ah k]at aj
  by_cases bI:id=k
  ·subst bI
   rw[if_pos rfl]at aj;simp only[Option.some.injEq]at aj
   rcases Ay with⟨t1,aM,dg,rfl,rfl⟩|⟨t1,n,aB,bl,rfl,rfl⟩|⟨_,_,rfl,rfl⟩
   ·exact⟨rfl,t1,aM,bj⟩
   ·cases aj
   ·cases aj
  ·rw[if_neg bI]at aj;exact⟨rfl,t,cs,aj⟩
 have da: ∀k z t n es,aE (eU s.heap id cG) k=some (.row z t n es)→β k=β k∧∃z t es,aE s.heap k=some (.row z t n es):=by
  intro k z t n es aj;rw[ah k]at aj
  by_cases bI:id=k
  ·subst bI
   rw[if_pos rfl]at aj;simp only[Option.some.injEq]at aj
   rcases Ay with⟨t1,aM,dg,rfl,rfl⟩|⟨t1,gW,aB,bl,rfl,rfl⟩|⟨_,_,rfl,rfl⟩
   ·cases aj
   ·simp only[ew.row.injEq]at aj
    obtain⟨_,_,rfl,_⟩:=aj;exact⟨rfl,_,_,_,bj⟩
   ·cases aj
  ·rw[if_neg bI]at aj;exact⟨rfl,z,t,es,aj⟩
 have nZ: ∀k bW,aE (eU s.heap id cG) k=some (.bU bW)→β k=β k∧∃bW,aE s.heap k=some (.bU bW):=by
  intro k bW aj;rw[ah k]at aj
  by_cases bI:id=k
  ·subst bI
   rw[if_pos rfl]at aj;simp only[Option.some.injEq]at aj
   rcases Ay with⟨t1,aM,dg,rfl,rfl⟩|⟨t1,gW,aB,bl,rfl,rfl⟩|⟨zfl,_,rfl,rfl⟩
   ·cases aj
   ·cases aj
   ·exact⟨rfl,zfl,bj⟩
  ·rw[if_neg bI]at aj;exact⟨rfl,bW,aj⟩
 refine⟨h.defers,h.size,fun i x hx=>(h.slot i x hx).keep cm (fun _ h=>h) (Nat.le_refl _) nY da nZ,⟨fun k p aj=>?_,fun k bs p fZ b aj eu ak gO bk eC=>?_,fun b ag ad=>h.heap.fo b ag (own b ad),
  fun b ag=>Nat.lt_of_lt_of_le (h.heap.lt b ag) bV⟩,h.ik.keep cm fun _ h=>h,?_,h.base⟩
 ·rw[ah k]at aj
  by_cases bI:id=k
  ·subst bI
   rw[if_pos rfl]at aj;simp only[Option.some.injEq]at aj;subst aj;exact du
  ·rw[if_neg bI]at aj
   refine(h.heap.dh k p aj).keep cm (fun _ h=>h) (Nat.le_refl _) bV rfl (fun aq b ad=>hw b (n2 k p b aj aq ad) fun jS=>bI (h.heap.inj id k o p b bj aj xh aq jS ad)) nY da nZ
 ·have aa: ∃q,aE s.heap k=some q∧q.live=true:=by
   rw[ah k]at aj
   by_cases bI:id=k
   ·subst bI;exact⟨o,bj,xh⟩
   ·rw[if_neg bI]at aj;exact⟨p,aj,ak⟩
  have ae: ∃q,aE s.heap bs=some q∧q.live=true:=by
   rw[ah bs]at eu
   by_cases bI:id=bs
   ·subst bI;exact⟨o,bj,xh⟩
   ·rw[if_neg bI]at eu;exact⟨fZ,eu,gO⟩
  obtain⟨q,aK,ru⟩:=aa;obtain⟨q',uY,Az⟩:=ae;exact h.heap.inj k bs q q' b aK uY ru Az bk eC
 ·have t:=h.trans
  refine⟨o3.trans t.os,o4.trans t.tape,kI.trans t.output,Nat.le_trans t.size bV,fun b hP gh=>?_,t.jo,t.j9,fun b ad=>t.hp b (own b ad),fun k aj p bz=>?_,fun k p bz=>?_,t.le⟩
  ·by_cases jS:cb (β id)=some b
   ·rcases t.hp b ⟨id,o,bj,xh,jS⟩with hc|hc
    ·exact absurd hc gh
    ·omega
   ·rw[hw b (Nat.lt_of_lt_of_le hP t.size) jS]
    exact t.frame b hP gh
  ·rw[ah k]at bz
   by_cases bI:id=k
   ·subst bI;exact t.dT id aj o bj
   ·rw[if_neg bI]at bz;exact t.dT k aj p bz
  ·rw[ah k]at bz
   by_cases bI:id=k
   ·subst bI;exact t.new id o bj
   ·rw[if_neg bI]at bz;exact t.new k p bz
end
end Go.aN
namespace Go.aN
open Go
def c1:aD→List aD
 | .agg cs=>cs
 |x=>[x]
section
variable {w:World} {ro:Nat→Prop} {σ:Heap} {β:Nat→Value} {N:Nat}
def eJ(σ:Heap):aD→Bool
 | .av _| .fn _ _ _=>true
 | .ptr id _=>match aE σ id with
  |some (.box _ _)=>true
  |_=>false
 | .aP id=>match aE σ id with
  |some (.row _ _ _ _)=>true
  |_=>false
 | .c5 id _ _=>match aE σ id with
  |some (.row _ _ _ _)=>true
  |_=>false
 |_=>false
theorem D9(a6:ho w ro σ β N){x:aD}{c:Value}(hx:eJ σ x=true)(h:bG w ro σ β N x c):c.oneCell'=true:=by
 cases h with
 |av x c h=>exact h.one
 |agg=>simp[eJ]at hx
 |tuple=>simp[eJ]at hx
 |ptr id off c aq ak=>
  simp only[eJ]at hx
  split at hx
  ·rename_i t cs ah
   obtain⟨b,_,rfl⟩:=ak t cs ah;rfl
  ·cases hx
 |c5 id i off c aq ak=>
  simp only[eJ]at hx
  split at hx
  ·rename_i z t n es ah
   obtain⟨b,l,h6,_,rfl⟩:=ak z t n es ah;rfl
  ·cases hx
 |aP id c aq ak=>
  simp only[eJ]at hx
  split at hx
  ·rename_i z t n es ah
   rw[ak z t n es ah]
   have:=a6.dh id _ ah
   cases this with
   |row _ _ _ xs aa=>
    rcases aa.2 with⟨⟨_,ax,_⟩,_⟩|⟨g,cap,cur,ax,_⟩<;>rw[ax]<;>rfl
   |gf _ _ _ aa=>exact aa.one
  ·cases hx
 |fn=>rfl
 |ref=>simp[eJ]at hx
 |dF=>simp[eJ]at hx
 |top=>simp[eJ]at hx
theorem bG.c1{x:aD}{c:Value}(h:bG w ro σ β N x c)(eh:(c1 x).all (eJ σ)=true)(a6:ho w ro σ β N):
 c.cells.size=(c1 x).length∧(∀j y,(Go.aN.c1 x)[j]? =some y→bG w ro σ β N y (c.cells.getD j undef))∧∀u∈c.cells.toList,u.oneCell'=true:=by
 cases h with
 |agg cs c ai hc=>
  refine⟨ai,hc,fun u hu=>?_⟩
  obtain⟨j,af,rfl⟩:=List.mem_iff_getElem.1 hu
  have Sr:j<cs.length:=by simpa[Value.cells,ai]using af
  have aa:=hc j cs[j] (List.getElem?_eq_getElem Sr)
  have ae:eJ σ cs[j]=true:=by
   simp only[Go.aN.c1,List.all_eq_true]at eh;exact eh _ (List.getElem_mem Sr)
  have au:=D9 a6 ae aa
  have AA:j<c.size:=by omega
  simpa[Value.cells,AA]using au
 |av x c hx=>
  have aa:c.cells= #[c]:=by have:=hx.one;cases c<;>simp_all[Value.cells,Value.oneCell']
  refine⟨by simp[aa,Go.aN.c1],fun j y af=>?_,fun u hu=>?_⟩
  ·cases j with
   |zero=>simp[Go.aN.c1]at af;subst af;simpa[aa]using bG.av x c hx
   |succ j=>simp[Go.aN.c1]at af
  ·simp[aa]at hu;subst hu;exact hx.one
 |tuple cs c ai hc=>simp[Go.aN.c1,eJ]at eh
 |top c=>simp[Go.aN.c1,eJ]at eh
 |ref id c=>simp[Go.aN.c1,eJ]at eh
 |dF id n c=>simp[Go.aN.c1,eJ]at eh
 |ptr id off c aq ak=>
  have hx:eJ σ (.ptr id off)=true:=by simpa[Go.aN.c1]using eh
  have o5:=D9 a6 hx (bG.ptr (w:=w) (ro:=ro) id off c aq ak)
  have aa:c.cells= #[c]:=by cases c<;>simp_all[Value.cells,Value.oneCell']
  refine⟨by simp[aa,Go.aN.c1],fun j y af=>?_,fun u hu=>?_⟩
  ·cases j with
   |zero=>simp[Go.aN.c1]at af;subst af;simpa[aa]using bG.ptr id off c aq ak
   |succ j=>simp[Go.aN.c1]at af
  ·simp[aa]at hu;subst hu;exact o5
 |c5 id i off c aq ak=>
  have hx:eJ σ (.c5 id i off)=true:=by simpa[Go.aN.c1]using eh
  have o5:=D9 a6 hx (bG.c5 (w:=w) (ro:=ro) id i off c aq ak)
  have aa:c.cells= #[c]:=by cases c<;>simp_all[Value.cells,Value.oneCell']
  refine⟨by simp[aa,Go.aN.c1],fun j y af=>?_,fun u hu=>?_⟩
  ·cases j with
   |zero=>simp[Go.aN.c1]at af;subst af;simpa[aa]using bG.c5 id i off c aq ak
   |succ j=>simp[Go.aN.c1]at af
  ·simp[aa]at hu;subst hu;exact o5
 |aP id c aq ak=>
  have hx:eJ σ (.aP id)=true:=by simpa[Go.aN.c1]using eh
  have o5:=D9 a6 hx (bG.aP (w:=w) (ro:=ro) id c aq ak)
  have aa:c.cells= #[c]:=by cases c<;>simp_all[Value.cells,Value.oneCell']
  refine⟨by simp[aa,Go.aN.c1],fun j y af=>?_,fun u hu=>?_⟩
  ·cases j with
   |zero=>simp[Go.aN.c1]at af;subst af;simpa[aa]using bG.aP id c aq ak
   |succ j=>simp[Go.aN.c1]at af
  ·simp[aa]at hu;subst hu;exact o5
 |fn f p q c d aa ae au aR=>
  refine⟨by simp[Value.cells,Go.aN.c1],fun j y af=>?_,fun u hu=>?_⟩
  ·cases j with
   |zero=>simp[Go.aN.c1]at af;subst af;simpa[Value.cells]using bG.fn f p q c d aa ae au aR
   |succ j=>simp[Go.aN.c1]at af
  ·simp[Value.cells]at hu;subst hu;rfl
end
section
variable {P:Program} {G:bc} {o:Oper} {s:aQ}
theorem Ss(t:TypeId)(c:Value)(w:World):(newVar t c).run P w= .ok ⟨w.heap.size,0,none⟩ (w.alloc (.cells c.cells t)):=by
 simp[newVar,newRow]
theorem mo.St{t:TypeId}{cs:List aD}(h: ∀E a w β ro,dc E G s a w β ro→∃arr:Array Value,(execOp a.eval o).run P w= .ok (.value (.pointer (some ⟨w.heap.size,0,none⟩))) (w.alloc (.cells arr t))∧
      arr.size=cs.length∧∀j x,cs[j]? =some x→bG w ro s.heap β s.next x (arr.getD j undef))(ad:s.base≤s.next):
    mo P G o s ({s with heap:=(s.next,.box t cs)::s.heap,next:=s.next+1}.put o.dst (.ptr s.next 0)):=by
  intro E a w ⟨β,ro,ag⟩ K Q hK;obtain⟨arr,cA,bV,e0⟩:=h E a w β ro ag;unfold Oper.wp;rw[cA]
  have jq:aE s.heap s.next=none:=by
    cases ah:aE s.heap s.next with
    |none=>rfl
    |some p=>have:=ag.trans.new _ _ ah;omega
  have fh:dc E G {s with heap:=(s.next,.box t cs)::s.heap,next:=s.next+1} a (w.alloc (.cells arr t)) (gX β s.next (.pointer (some ⟨w.heap.size,0,none⟩))) ro:=by
    refine ag.new s.next jq ad (Nat.le_refl _) _ _ rfl rfl rfl (by simp) (fun b ad=>Go.RowKit.Below.heap_alloc w _ b ad) (fun b ad=>by simp[cb]at ad;omega) rfl ?_
    refine .box t cs w.heap.size arr (dZ _ _ _) (heap_alloc_new w _) bV fun j x af=>?_
    have hx:=e0 j x af
    have cm: ∀b,ro b→(w.alloc (.cells arr t)).heap[b]? =w.heap[b]? :=fun b ad=>Go.RowKit.Below.heap_alloc w _ b (ag.heap.lt b ad)
    clear af e0;generalize arr.getD j undef=c at hx
    induction hx with
    |av x c hx=>exact .av x c (hx.keep cm fun _ h=>h)
    |agg cs c ai _ aZ=>exact .agg cs c ai aZ
    |tuple cs c ai _ aZ=>exact .tuple cs c ai aZ
    |ptr k off c aq ak=>
      have aj:k≠s.next:=by omega
      exact .ptr k off c (by omega) fun t cs bz=>by rw[db _ _ aj];simp only[aE,if_neg (Ne.symm aj)]at bz;exact ak t cs bz
    |dF k off c aq ak=>
      have aj:k≠s.next:=by omega
      exact .dF k off c (by omega) fun t cs bz=>by rw[db _ _ aj];simp only[aE,if_neg (Ne.symm aj)]at bz;exact ak t cs bz
    |c5 k i off c aq ak=>
      have aj:k≠s.next:=by omega
      exact .c5 k i off c (by omega) fun z t n es bz=>by rw[db _ _ aj];simp only[aE,if_neg (Ne.symm aj)]at bz;exact ak z t n es bz
    |aP k c aq ak=>
      have aj:k≠s.next:=by omega
      exact .aP k c (by omega) fun z t n es bz=>by rw[db _ _ aj];simp only[aE,if_neg (Ne.symm aj)]at bz;exact ak z t n es bz
    |fn f p q c d aa ae _ _ hq hr=>exact .fn f p q c d aa ae hq hr
    |ref k c aq ak=>
      have aj:k≠s.next:=by omega
      exact .ref k c (by omega) fun bW bz=>by rw[db _ _ aj];simp only[aE,if_neg (Ne.symm aj)]at bz;exact ak bW bz
    |top c=>exact .top c
  refine hK _ _ ⟨_,ro,fh.put o.dst _ _ ?_⟩ fun b ad=>Go.RowKit.Below.heap_alloc w _ b ad
  refine .ptr _ _ _ (Nat.lt_succ_self _) fun bL cs' ah=>⟨w.heap.size,dZ _ _ _,rfl⟩
theorem Su(t:TypeId)(x:Operand)(ao:o.op= .box t x)(ad:s.base≤s.next)(eh:(c1 (aL G s x)).all (eJ s.heap)=true):
 mo P G o s ({s with heap:=(s.next,.box t (c1 (aL G s x)))::s.heap,next:=s.next+1}.put o.dst (.ptr s.next 0)):=
 .St (fun _ a w β ro ag=>by
  obtain⟨aa,ae,_⟩:=(ag.eval x).c1 eh ag.heap
  exact⟨(a.eval x).cells,by simp[execOp,ao,Instr.box,Ss],aa,ae⟩) ad
theorem Sv(t:TypeId)(x:Operand)(ao:o.op= .box t x)(ad:s.base≤s.next)(eh:(c1 (aL G s x)).all (eJ s.heap)=true):
 dY P G o s ({s with heap:=(s.next,.box t (c1 (aL G s x)))::s.heap,next:=s.next+1}.put o.dst (.ptr s.next 0)):=(Su t x ao ad eh).op
def zeroCells(P:Program)(t:TypeId):Option (List Value):=
 match P.info? t with
 |some i=>match i.zero with
  |some z=>some z.cells.toList
  |none=>none
 |none=>none
theorem AB{t:TypeId}{zs:List Value}(h:zeroCells P t=some zs)(w:World): ∃z:Value,(zeroValue t).run P w= .ok z w∧z.cells=zs.toArray∧∃i,P.info? t=some i∧i.zero=some z:=by
 unfold zeroCells at h
 cases hi:P.info? t with
 |none=>simp[hi]at h
 |some i=>
  cases aT:i.zero with
  |none=>simp[hi,aT]at h
  |some z=>
   simp[hi,aT]at h;exact⟨z,by simp[zeroValue,typeInfo,hi,aT],by rw[←h],i,rfl,aT⟩
theorem Sw(t:TypeId)(ao:o.op= .alloc t)(ad:s.base≤s.next){zs:List Value}(aT:zeroCells P t=some zs)(eh:zs.all Value.oneCell'=true):
 mo P G o s ({s with heap:=(s.next,.box t (zs.map fun z=>.av (.v z)))::s.heap,next:=s.next+1}.put o.dst (.ptr s.next 0)):=
 .St (fun _ a w β ro ag=>by
  obtain⟨z,cA,o6,_⟩:=AB aT w;refine⟨z.cells,by simp[execOp,ao,Instr.alloc,cA,Ss],by simp[o6],fun j x af=>?_⟩
  rw[List.getElem?_map]at af
  cases rv:zs[j]? with
  |none=>simp[rv]at af
  |some y=>
   simp[rv]at af;subst af
   have:y.oneCell'=true:=by
    rw[List.all_eq_true]at eh;exact eh y (List.mem_of_getElem? rv)
   rw[o6]
   simpa[rv]using bG.av (w:=w) (ro:=ro) (σ:=s.heap) (β:=β) (N:=s.next) _ _ (.v y this)) ad
theorem Sx(t:TypeId)(ao:o.op= .alloc t)(ad:s.base≤s.next){zs:List Value}(aT:zeroCells P t=some zs)(eh:zs.all Value.oneCell'=true):
 dY P G o s ({s with heap:=(s.next,.box t (zs.map fun z=>.av (.v z)))::s.heap,next:=s.next+1}.put o.dst (.ptr s.next 0)):=(Sw t ao ad aT eh).op
end
end Go.aN
namespace Go.aN
open Go
section
variable {P:Program} {G:bc} {o:Oper} {s:aQ}
theorem Lq{w w':World}{ro:Nat→Prop}{σ:Heap}{β:Nat→Value}{N id:Nat}{t:TypeId}{cs cs':List aD}(bj:aE σ id=some (.box t cs)){x:aD}{c:Value}
 (h:bG w ro σ β N x c)(cm: ∀b,ro b→w'.heap[b]? =w.heap[b]?):bG w' ro (eU σ id (.box t cs')) β N x c:=by
 refine h.keep cm (fun _ h=>h) (Nat.le_refl _) (fun k t1 aM aj=>?_) (fun k z t1 n es aj=>?_) (fun k bW aj=>?_)
 ·rw[xf]at aj
  by_cases bI:id=k
  ·subst bI;exact⟨rfl,t,cs,bj⟩
  ·rw[if_neg bI]at aj;exact⟨rfl,t1,aM,aj⟩
 ·rw[xf]at aj
  by_cases bI:id=k
  ·subst bI;rw[if_pos rfl]at aj;cases aj
  ·rw[if_neg bI]at aj;exact⟨rfl,z,t1,es,aj⟩
 ·rw[xf]at aj
  by_cases bI:id=k
  ·subst bI;rw[if_pos rfl]at aj;cases aj
  ·rw[if_neg bI]at aj;exact⟨rfl,bW,aj⟩
def ey{α:Type}(cs:List α)(off:Nat)(vs:List α):List α:=cs.take off++(vs++cs.drop (off+vs.length))
theorem qh{α:Type}(cs:List α)(off:Nat)(vs:List α)(h:off+vs.length≤cs.length):(ey cs off vs).length=cs.length:=by
 simp[ey];omega
theorem Lr{α β:Type}(R:α→β→Prop)(d:β){cs vs:List α}{xs ys:List β}{off:Nat}(aq:cs.length≤xs.length)(ax:vs.length=ys.length)(AD:off+vs.length≤cs.length)
 (aa: ∀j x,cs[j]? =some x→R x (xs.getD j d))(ae: ∀j x,vs[j]? =some x→R x (ys.getD j d)): ∀j x,(ey cs off vs)[j]? =some x→R x ((ey xs off ys).getD j d):=by
 intro j x af
 unfold ey at*
 by_cases aY:j<off
 ·rw[List.getElem?_append_left (by simp;omega),List.getElem?_take,if_pos aY]at af
  have:=aa j x af
  rw[List.getD,List.getElem?_append_left (by simp;omega),List.getElem?_take,if_pos aY]
  exact this
 ·have aB:(cs.take off).length=off:=by simp;omega
  have bl:(xs.take off).length=off:=by simp;omega
  rw[List.getElem?_append_right (by omega),aB]at af
  rw[List.getD,List.getElem?_append_right (by omega),bl]
  by_cases ad:j-off<vs.length
  ·rw[List.getElem?_append_left ad]at af
   rw[List.getElem?_append_left (by omega)]
   exact ae _ _ af
  ·rw[List.getElem?_append_right (by omega),List.getElem?_drop]at af
   rw[List.getElem?_append_right (by omega),List.getElem?_drop]
   have cx:off+vs.length+(j-off-vs.length)=j:=by omega
   have eR:off+ys.length+(j-off-ys.length)=j:=by omega
   rw[cx]at af;rw[eR];exact aa j x af
theorem Sy(t:TypeId)(b off:Nat)(c:Value)(w:World)(bt:TypeId)(arr:Array Value)(ah:w.heap[b]? =some (.cells arr bt (0,0)))(bV:(P.info? t).map (·.size)=some c.cells.size)
 (qi:off+c.cells.size≤arr.size)(aa: ∀u∈c.cells.toList,u.oneCell'=true):
 (Instr.storeAt t (.pointer (some ⟨b,off,none⟩)) c).run P w= .ok () (w.setRow b (ey arr.toList off c.cells.toList).toArray):=by
 have dJ:=run_storeCells_at P b off bt c.cells.toList 0 arr w ah (by simpa using qi) aa
 cases hi:P.info? t with
 |none=>simp[hi]at bV
 |some i=>
  have ai:i.size=c.cells.size:=by simpa[hi]using bV
  simp only[Nat.add_zero,List.append_assoc]at dJ;simp only[Instr.storeAt,Instr.sureAddr,storeVar,sizeOf,typeInfo,Sem.run_bind,Sem.run_pure,Result.andThen_ok,ey];simp[hi,ai,dJ]
theorem Sz(t:TypeId)(p x:Operand)(ao:o.op= .store t p x){id off:Nat}(ak:aL G s p= .ptr id off){bt:TypeId}{cs:List aD}(bj:aE s.heap id=some (.box bt cs))
 {vs:List aD}(ax:c1 (aL G s x)=vs)(eh:vs.all (eJ s.heap)=true)(bV:(P.info? t).map (·.size)=some vs.length)(qi:off+vs.length≤cs.length):
 dY P G o s ({s with heap:=eU s.heap id (.box bt (ey cs off vs))}.put o.dst .top):=by
 intro E a w ⟨β,ro,ag⟩ K Q hK
 subst ax
 obtain⟨aa,ae,au⟩:=(ag.eval x).c1 eh ag.heap
 have ry:=ag.eval p
 rw[ak]at ry
 have du:=ag.heap.dh id _ bj
 cases du with
 |box _ _ b arr ad ah zfm e0=>
  generalize Ls:a.eval p=gY at ry
  cases ry with
  |ptr _ _ c aq hc=>
   obtain⟨b',gD,rfl⟩:=hc _ _ bj;rw[ad]at gD;simp only[Value.pointer.injEq,Option.some.injEq,Addr.mk.injEq,and_true]at gD;subst gD
   have cA:=Sy (P:=P) t b off (a.eval x) w bt arr ah (by rw[bV,aa]) (by omega) au
   unfold Oper.wp;simp only[execOp,ao,Ls,Sem.run_bind,cA,Result.andThen_ok,Sem.run_pure]
   have jr: ∀k,k<w.heap.size→cb (β id)≠some k→(w.setRow b (ey arr.toList off (a.eval x).cells.toList).toArray).heap[k]? =w.heap[k]? :=fun k _ aj=>
    setRow_other w b k _ (fun e=>aj (by rw[ad,e];rfl))
   have cm: ∀k,ro k→(w.setRow b (ey arr.toList off (a.eval x).cells.toList).toArray).heap[k]? =w.heap[k]? :=fun k aj=>
    jr k (ag.heap.lt k aj) fun bk=>ag.heap.fo k aj ⟨id,_,bj,rfl,bk⟩
   refine hK _ _ ⟨β,ro,(ag.write (w':=w.setRow b (ey arr.toList off (a.eval x).cells.toList).toArray) id _ (.box bt (ey cs off (c1 (aL G s x)))) bj rfl rfl (.inl ⟨_,_,_,rfl,rfl⟩) rfl rfl rfl (by simp) jr ?_).put o.dst _ _ (.top _)⟩
   refine .box bt _ b _ ad (setRow_heap w b arr _ bt (0,0) ah) ?_ fun j y af=>?_
   ·rw[List.size_toArray,qh _ _ _ (by simp only[Array.length_toList];omega),qh _ _ _ qi,Array.length_toList,zfm]
   ·have ai:=Lr (bG w ro s.heap β s.next) undef (cs:=cs) (vs:=c1 (aL G s x)) (xs:=arr.toList) (ys:=(a.eval x).cells.toList) (off:=off) (by simp only[Array.length_toList];omega) (by simp only[Array.length_toList];omega) qi
     (fun j x af=>by have:=e0 j x af;simpa[Array.getD_eq_getD_getElem?,List.getD]using this)
     (fun j x af=>by have:=ae j x af;simpa[Array.getD_eq_getD_getElem?,List.getD]using this) j y af
    have e1:=Lq (cs':=ey cs off (c1 (aL G s x))) bj ai cm
    simpa[Array.getD_eq_getD_getElem?,List.getD]using e1
def iS:List aD→Option (List ba)
 |[]=>some []
 | .av x::r=>match iS r with
  |some l=>some (x::l)
  |none=>none
 |_::_=>none
theorem Ea: ∀{vs:List aD} {l:List ba},iS vs=some l→vs=l.map .av
 |[],l,h=>by simp[iS]at h;subst h;rfl
 | .av x::r,l,h=>by
  simp only[iS]at h
  cases ag:iS r with
  |none=>simp[ag]at h
  |some h7=>
   simp[ag]at h;subst h;simp[Ea ag]
 | .agg _::_,_,h=>by simp[iS]at h
 | .tuple _::_,_,h=>by simp[iS]at h
 | .ptr _ _::_,_,h=>by simp[iS]at h
 | .dF _ _::_,_,h=>by simp[iS]at h
 | .c5 _ _ _::_,_,h=>by simp[iS]at h
 | .aP _::_,_,h=>by simp[iS]at h
 | .fn _ _ _::_,_,h=>by simp[iS]at h
 | .ref _::_,_,h=>by simp[iS]at h
 | .top::_,_,h=>by simp[iS]at h
theorem SA{α:Type}{n:Nat}: ∀{es:List (List α)},(∀e∈es,e.length=n)→∀{i:Nat} {e az:List α},es[i]? =some e→az.length=n→(es.set i az).flatten=es.flatten.take (i*n)++(az++es.flatten.drop (i*n+n))
 |[],_,i,e,az,h,_=>by simp at h
 |x::r,hn,i,e,az,h,he=>by
  have hx:x.length=n:=hn x (by simp)
  cases i with
  |zero=>simp[hx]
  |succ i=>
   simp at h
   have aZ:=SA (es:=r) (fun e he=>hn e (by simp[he])) h he
   simp only[List.set_cons_succ,List.flatten_cons,aZ]
   have aB:(i+1)*n=x.length+i*n:=by rw[Nat.succ_mul];omega
   have bl:(i+1)*n+n=x.length+(i*n+n):=by rw[Nat.succ_mul];omega
   have cx:x.length+(i*n+n)-x.length=i*n+n:=by omega
   have eR:x.length+i*n-x.length=i*n:=by omega
   rw[bl,aB,List.take_append,List.drop_append,cx,eR,List.take_of_length_le (l:=x) (by omega),List.drop_of_length_le (l:=x) (by omega)]
   simp
theorem zfn{α:Type}(l:List α)(p n k:Nat)(vs:List α)(e:List α)(he:e.length=n)(aq: ∀j,j<n→l[p+j]? =e[j]?)(aj:k+vs.length≤n)(ak:p+n≤l.length):
 ey l (p+k) vs=l.take p++(ey e k vs++l.drop (p+n)):=by
 apply List.ext_getElem?
 intro j
 have ai:(ey e k vs).length=n:=by rw[qh _ _ _ (by omega),he]
 unfold ey at*
 by_cases aa:j<p
 ·rw[List.getElem?_append_left (by simp;omega),List.getElem?_take,if_pos (by omega),List.getElem?_append_left (by simp;omega),List.getElem?_take,if_pos aa]
 ·have aB:(l.take p).length=p:=by simp;omega
  have bl:(l.take (p+k)).length=p+k:=by simp;omega
  rw[List.getElem?_append_right (l₁:=l.take p) (by omega),aB]
  by_cases ae:j<p+k
  ·rw[List.getElem?_append_left (by omega),List.getElem?_take,if_pos ae,List.getElem?_append_left (by omega),List.getElem?_append_left (by simp;omega),List.getElem?_take,if_pos (by omega),←aq _ (by omega)]
   congr 1;omega
  ·rw[List.getElem?_append_right (by omega),bl]
   have cx:(e.take k).length=k:=by simp;omega
   by_cases au:j<p+k+vs.length
   ·rw[List.getElem?_append_left (by omega),List.getElem?_append_left (by omega),List.getElem?_append_right (by omega),cx,List.getElem?_append_left (by omega)]
    congr 1;omega
   ·rw[List.getElem?_append_right (by omega),List.getElem?_drop]
    by_cases aR:j<p+n
    ·rw[List.getElem?_append_left (by omega),List.getElem?_append_right (by omega),cx,List.getElem?_append_right (by omega),List.getElem?_drop,←aq _ (by omega)]
     congr 1;omega
    ·rw[List.getElem?_append_right (by omega),ai,List.getElem?_drop]
     congr 1;omega
theorem zfo{α:Type}(l:List α)(off m:Nat)(ys:List α)(h:off+ys.length≤m)(hm:m≤l.length):(ey l off ys).take m=ey (l.take m) off ys:=by
 have aB:min m off=off:=by omega
 have bl:min off m=off:=by omega
 have cx:min off l.length=off:=by omega
 have eR:List.take (m-off) ys=ys:=List.take_of_length_le (by omega)
 have oI:m-off-ys.length=m-(off+ys.length):=by omega
 simp only[ey,List.take_append,List.take_take,List.length_take,List.drop_take,aB,bl,cx,eR,oI]
theorem SB(t:TypeId)(p x:Operand)(ao:o.op= .store t p x){id i off:Nat}(ak:aL G s p= .c5 id i off){bt:TypeId}{n:Nat}{es:List (List ba)}(bj:aE s.heap id=some (.row false bt n es))
 {e:List ba}(m8:es[i]? =some e){vs:List ba}(ax:iS (c1 (aL G s x))=some vs)(bV:(P.info? t).map (·.size)=some vs.length)(qi:off+vs.length≤n):
 dY P G o s ({s with heap:=eU s.heap id (.row false bt n (es.set i (ey e off vs)))}.put o.dst .top):=by
 intro E a w ⟨β,ro,ag⟩ K Q hK
 have SC:=Ea ax
 have eh:(c1 (aL G s x)).all (eJ s.heap)=true:=by rw[SC];simp[List.all_eq_true,eJ]
 obtain⟨aa,ae,au⟩:=(ag.eval x).c1 eh ag.heap
 rw[SC]at aa ae
 rw[List.length_map]at aa
 have ry:=ag.eval p
 rw[ak]at ry
 have du:=ag.heap.dh id _ bj
 cases du with
 |row _ _ _ xs hG hn e0=>
  generalize Ls:a.eval p=gY at ry
  cases ry with
  |c5 _ _ _ c aq hc=>
   obtain⟨b,l,h6,ad,rfl⟩:=hc _ _ _ _ bj
   have zlZ:=hG
   rw[ad]at hG;obtain⟨D7,mW⟩:=hG
   rcases mW with⟨⟨_,h,_⟩,aT⟩|⟨g,cap,cur,SD,SE,ah,hle,im,dR,lM⟩
   ·have:=(List.getElem?_eq_some_iff.1 m8).1;omega
   ·simp only[Value.slice.injEq,Option.some.injEq,Addr.mk.injEq,and_true]at SD
    obtain⟨rfl,rfl,rfl⟩:=SD
    have n1:e.length=n:=hn e (List.mem_of_getElem? m8)
    have zfp:i<es.length:=(List.getElem?_eq_some_iff.1 m8).1
    have k0:i*n+n≤es.length*n:=by rw[←Nat.succ_mul];exact Nat.mul_le_mul_right n zfp
    have zl0:es.length*n≤h6*n:=Nat.mul_le_mul_right n hle
    have cA:=Sy (P:=P) t b (i*n+off) (a.eval x) w bt cur ah (by rw[bV,aa]) (by omega) au
    unfold Oper.wp;simp only[execOp,ao,Ls,Sem.run_bind,cA,Result.andThen_ok,Sem.run_pure]
    have jr: ∀k,k<w.heap.size→cb (β id)≠some k→(w.setRow b (ey cur.toList (i*n+off) (a.eval x).cells.toList).toArray).heap[k]? =w.heap[k]? :=fun k _ aj=>
     setRow_other w b k _ (fun e=>aj (by rw[ad,e];simp[cb,Nat.ne_of_gt SE]))
    have cm: ∀k,ro k→(w.setRow b (ey cur.toList (i*n+off) (a.eval x).cells.toList).toArray).heap[k]? =w.heap[k]? :=fun k aj=>
     jr k (ag.heap.lt k aj) fun bk=>ag.heap.fo k aj ⟨id,_,bj,rfl,bk⟩
    have qj:(ey e off vs).length=n:=by rw[qh _ _ _ (by omega),n1]
    refine hK _ _ ⟨β,ro,(ag.write (w':=w.setRow b (ey cur.toList (i*n+off) (a.eval x).cells.toList).toArray) id _ (.row false bt n (es.set i (ey e off vs))) bj rfl rfl (.inr (.inl ⟨_,_,_,_,rfl,rfl⟩)) rfl rfl rfl (by simp) jr ?_).put o.dst _ _ (.top _)⟩
    have js:(a.eval x).cells.toList.length=vs.length:=by simpa using aa
    refine .row bt n _ (ey xs (i*n+off) (a.eval x).cells.toList) ?_ (fun az kb=>?_) (fun j y af=>?_)
    ·rw[ad,List.length_set]
     refine⟨by rw[qh _ _ _ (by omega)];exact D7,.inr ⟨b,h6,_,rfl,SE,setRow_heap w b cur _ bt (0,0) ah,hle,im,?_,?_⟩⟩
     ·rw[List.size_toArray,qh _ _ _ (by simp;omega)];simpa using dR
     ·show List.take (es.length*n) (ey cur.toList (i*n+off) (a.eval x).cells.toList)=_
      rw[zfo _ _ _ _ (by omega) (by simp;omega),lM]
    ·rcases List.mem_or_eq_of_mem_set kb with h|h
     ·exact hn az h
     ·rw[h];exact qj
    ·rw[SA hn m8 qj,←zfn es.flatten (i*n) n off vs e n1 (fun j af=>rq hn m8 j af) qi (by rw[ka hn];exact k0)]at af
     have ai:=Lr (cZ w ro) undef (cs:=es.flatten) (vs:=vs) (xs:=xs) (ys:=(a.eval x).cells.toList) (off:=i*n+off) (by rw[ka hn];omega) (by omega) (by rw[ka hn];omega)
      (fun j x af=>e0 j x af)
      (fun j y af=>by
       have:=ae j (.av y) (by simp[af])
       cases this with
       |av _ _ h=>simpa[Array.getD_eq_getD_getElem?,List.getD]using h) j y af
     exact ai.keep cm fun _ h=>h
end
end Go.aN
namespace Go.aN
open Go
def et(a b:ByteArray):Bool:=a.data.toList==b.data.toList
theorem tX(a b:ByteArray):et a b=decide (a=b):=by
 unfold et
 obtain⟨⟨x⟩⟩:=a
 obtain⟨⟨y⟩⟩:=b
 rw[Bool.eq_iff_iff]
 simp
theorem SF(a b:ByteArray):(a.toList==b.toList)=et a b:=by rw[ByteArray.toList_eq,ByteArray.toList_eq];rfl
@[simp] theorem zl1{a b:ByteArray}:et a b=true↔a=b:=by rw[tX];simp
@[simp] theorem zl2{a b:ByteArray}:et a b=false↔a≠b:=by rw[tX];simp
@[simp] theorem zl3(a:ByteArray):et a a=true:=by simp
def rz(a b:ByteArray):Bool:=Op.bytesLess a.data.toList b.data.toList
theorem zfq(a b:ByteArray):Op.bytesLess a.toList b.toList=rz a b:=by rw[ByteArray.toList_eq,ByteArray.toList_eq];rfl
def Eb(op:BinOp)(a b:Int):Option Value:=
 match op with
 | .eql=>some (.bool (a==b))
 | .neq=>some (.bool (a != b))
 | .lss=>some (.bool (decide (a<b)))
 | .leq=>some (.bool (decide (a≤b)))
 | .gtr=>some (.bool (decide (a>b)))
 | .geq=>some (.bool (decide (a≥b)))
 |_=>none
def kc(op:BinOp):Value→Value→Option Value
 | .int k a,.int bs b=>
  match op with
  | .shl=>if b<0 then none else some (.int k (k.wrap (a*2^(min b.toNat k.bits))))
  | .shr=>if b<0 then none else some (.int k (a.fdiv (2^(min b.toNat k.bits))))
  |op=>if k=bs then match op with
   | .add=>some (.int k (k.wrap (a+b)))
   | .sub=>some (.int k (k.wrap (a-b)))
   | .mul=>some (.int k (k.wrap (a*b)))
   | .quo=>if b=0 then none else some (.int k (k.wrap (a.tdiv b)))
   | .rem=>if b=0 then none else some (.int k (a.tmod b))
   |op=>Eb op a b
   else none
 | .string a,.string b=>
  match op with
  | .add=>if((a.size+b.size:Nat):Int)>IntKind.i64.max then none else some (.string (a++b))
  | .eql=>some (.bool (et a b))
  | .neq=>some (.bool (!et a b))
  | .lss=>some (.bool (rz a b))
  | .leq=>some (.bool (rz a b||et a b))
  | .gtr=>some (.bool (!(rz a b||et a b)))
  | .geq=>some (.bool (!rz a b))
  |_=>none
 |_,_=>none
theorem zfr {P : Program} {op : BinOp} {x y c : Value} (h : kc op x y = some c) (t : TypeId) (p q : Operand) (w : World) :
    (eqGuard op t p q x y).run P w = .ok () w ∧ (binOp op t x y).run P w = .ok c w ∧ c.oneCell' = true := by
  cases x with
  | int k a =>
    cases y with
    | int bs b =>
      simp only [kc] at h; refine ⟨by rw [eqGuard_at_int]; rfl, ?_⟩
      cases op
      all_goals first
        | (simp only at h
           split at h
           · cases h
           · rename_i hn
             simp only [Option.some.injEq] at h; subst h; refine ⟨?_, rfl⟩
             simp [binOp, Op.shift, hn]; done)
        | (simp only at h
           split at h
           · rename_i aj
             subst aj
             first
               | (simp only [Option.some.injEq, Eb] at h; subst h; exact ⟨by simp [binOp, Op.intArith, Op.intCmp], rfl⟩)
               | (split at h
                  · cases h
                  · rename_i aT
                    simp only [Option.some.injEq] at h; subst h
                    exact ⟨by simp [binOp, Op.intDiv, aT], rfl⟩)
               | (simp [Eb] at h; done)
           · cases h)
    | _ => simp [kc] at h
  | string a =>
    cases y with
    | string b =>
      simp only [kc] at h; refine ⟨by rw [eqGuard_at_string]; rfl, ?_⟩
      cases op <;> simp only at h
      all_goals first
        | cases h; done
        | (split at h
           · cases h
           · rename_i hn
             simp only [Option.some.injEq] at h; subst h
             exact ⟨by simp only [binOp_string_add, Op.stringOp, hn, if_false] <;> rfl, rfl⟩)
        | (simp only [Option.some.injEq] at h; subst h; exact ⟨by simp only [binOp, Op.stringOp, SF, zfq] <;> rfl, rfl⟩)
    | _ => simp [kc] at h
  | _ => simp [kc] at h
section
variable {P:Program} {G:bc} {o:Oper} {s:aQ}
theorem bG.val{w:World}{ro:Nat→Prop}{σ:Heap}{β:Nat→Value}{N:Nat}{x c:Value}(h:bG w ro σ β N (.av (.v x)) c):c=x:=by
 cases h with
 |av _ _ h=>cases h;rfl
theorem dc.en{E:Entry}{a:Act}{w:World}{β:Nat→Value}{ro:Nat→Prop}(h:dc E G s a w β ro){x:Operand}{v:Value}(hx:aL G s x= .av (.v v)):a.eval x=v:=
 bG.val (hx ▸ h.eval x)
theorem bG.fI{w:World}{ro:Nat→Prop}{σ:Heap}{β:Nat→Value}{N:Nat}{c:Value}(h:c.oneCell'=true):bG w ro σ β N (.av (.v c)) c:=.av _ _ (.v _ h)
theorem o7(op:BinOp)(cE ty:TypeId)(x y:Operand)(ao:o.op= .binOp op cE x y ty){u v c:Value}(hx:aL G s x= .av (.v u))(ay:aL G s y= .av (.v v))(hc:kc op u v=some c):
 cY P G o s (.av (.v c)):=
 fun _ a w β ro ag=>by
  obtain⟨aa,ae,au⟩:=zfr (P:=P) hc cE x y w;exact⟨c,by simp[execOp,ao,ag.en hx,ag.en ay,aa,ae],.fI au⟩
theorem SG(cE ty:TypeId)(x y:Operand)(ao:o.op= .binOp .eql cE x y ty)(aH:P.underlying cE=some .bool){u v:Bool}(hx:aL G s x= .av (.v (.bool u)))(ay:aL G s y= .av (.v (.bool v))):
 cY P G o s (.av (.v (.bool (u==v)))):=
 fun _ a w β ro ag=>⟨.bool (u==v),by simp[execOp,ao,ag.en hx,ag.en ay,eqGuard_at_bool,run_eql_bool w cE u v aH],.fI rfl⟩
theorem SH(cE ty:TypeId)(x y:Operand)(ao:o.op= .binOp .neq cE x y ty)(aH:P.underlying cE=some .bool){u v:Bool}(hx:aL G s x= .av (.v (.bool u)))(ay:aL G s y= .av (.v (.bool v))):
 cY P G o s (.av (.v (.bool (!(u==v))))):=
 fun _ a w β ro ag=>⟨.bool (!(u==v)),by simp[execOp,ao,ag.en hx,ag.en ay,eqGuard_at_bool,run_neq_bool w cE u v aH],.fI rfl⟩
def m9:Value→Value→Option Bool
 | .int k a,.int bs b=>if k=bs then some (a==b)else none
 | .bool a,.bool b=>some (a==b)
 | .string a,.string b=>some (et a b)
 |_,_=>none
def rA(P:Program)(t:TypeId):Value→Bool
 | .int k _=>match P.underlying t with
  |some (.int bs)=>decide (k=bs)
  |_=>false
 | .bool _=>match P.underlying t with
  |some .bool=>true
  |_=>false
 | .string _=>match P.underlying t with
  |some .string=>true
  |_=>false
 |_=>false
def SI(e:TypeId)(c i:Nat):Field:={(default:Field)with name:= "e",type:=e,offset:=i*c}
theorem Lt(d:Nat)(e:TypeId)(c:Nat)(X Y:Array Value): ∀(is:List Nat),Op.eqFields d X Y (is.map (SI e c))=Op.eqItems d e c X Y is
 |[]=>rfl
 |i::is=>by
  simp only[List.map_cons,Op.eqFields,Op.eqItems,Lt d e c X Y is];rfl
def na(P:Program)(t:TypeId):Option (List Field):=
 match P.underlying t with
 |some (.struct fs)=>if P.stoodInHeld t||P.eqGuardType P.depth t then none else some fs.toList
 |some (.array n e)=>match P.info? e with
  |some _=>if P.eqGuardType P.depth t then none else some ((List.range n).map (SI e (P.cellsOf e)))
  |none=>none
 |_=>none
theorem zfs{P:Program}{t:TypeId}{gs:List Field}(h:na P t=some gs)(D:Nat)(p q:Array Value)(w:World):
 (Op.equalIn (D+1) t (.agg p) (.agg q)).run P w=(Op.eqFields D p q gs).run P w∧(isAgg t).run P w= .ok true w:=by
 unfold na at h
 split at h
 ·rename_i Ec hu
  split at h
  ·cases h
  ·rename_i hc
   simp only[Bool.or_eq_true,not_or,Bool.not_eq_true]at hc;simp only[Option.some.injEq]at h;subst h
   have qk:P.fieldsOf t=Ec:=by simp[Program.fieldsOf,hu]
   exact⟨by rw[run_equalIn_struct w D t p q (by rw[qk];exact hu) hc.1,qk],by simp[isAgg,run_underlying hu]⟩
 ·rename_i n e hu
  split at h
  ·rename_i inf xi
   split at h
   ·cases h
   ·simp only[Option.some.injEq]at h
    subst h;exact⟨by rw[run_equalIn_array w D p q hu xi,←Lt],by simp[isAgg,run_underlying hu]⟩
  ·cases h
 ·cases h
def ql(P:Program):Nat→Nat→List Field→List Value→List Value→Option Bool
 |0,_,_,_,_=>none
 |_+1,_,[],_,_=>some true
 |d+1,k,f::fs,xs,ys=>
  if f.name= "_" ||f.offset != k then none
  else match na P f.type with
   |some gs=>match P.info? f.type with
    |some inf=>match ql P d 0 gs (xs.take inf.size) (ys.take inf.size),ql P d (k+inf.size) fs (xs.drop inf.size) (ys.drop inf.size)with
     |some a,some b=>some (a&&b)
     |_,_=>none
    |none=>none
   |none=>match xs,ys with
    |x::xs,y::ys=>if rA P f.type x then match m9 x y,ql P d (k+1) fs xs ys with
     |some a,some b=>some (a&&b)
     |_,_=>none
     else none
    |_,_=>none
def AE(P:Program)(k:Nat)(fs:List Field)(xs ys:List Value):Option Bool:=ql P 64 k fs xs ys
theorem zft{t:TypeId}{x y:Value}{b:Bool}(h:m9 x y=some b)(hf:rA P t x=true)(d:Nat)(w:World):(Op.equalIn (d+1) t x y).run P w= .ok b w∧x.oneCell'=true∧y.oneCell'=true∧(isAgg t).run P w= .ok false w:=by
 cases x with
 |int k a=>
  cases y with
  |int bs b'=>
   simp only[m9]at h
   split at h
   ·rename_i aj
    subst aj;simp only[Option.some.injEq]at h;subst h;simp only[rA]at hf
    split at hf
    ·rename_i gM hu
     exact⟨run_equalIn_int w d t k gM a b' hu,rfl,rfl,by simp[isAgg,run_underlying hu]⟩
    ·cases hf
   ·cases h
  |_=>simp[m9]at h
 |bool a=>
  cases y with
  |bool b'=>
   simp only[m9,Option.some.injEq]at h;subst h;simp only[rA]at hf
   split at hf
   ·rename_i hu
    exact⟨run_equalIn_bool w d t a b' hu,rfl,rfl,by simp[isAgg,run_underlying hu]⟩
   ·cases hf
  |_=>simp[m9]at h
 |string a=>
  cases y with
  |string b'=>
   simp only[m9,Option.some.injEq]at h;subst h;simp only[rA]at hf
   split at hf
   ·rename_i hu
    refine⟨?_,rfl,rfl,by simp[isAgg,run_underlying hu]⟩
    rw[run_equalIn_string w d t a b' hu,SF]
   ·cases hf
  |_=>simp[m9]at h
 |_=>simp[m9]at h
theorem SJ{xs:List Value}{X:Array Value}{k n:Nat}(gK: ∀j x,xs[j]? =some x→X[k+j]? =some x): ∀j x,(xs.take n)[j]? =some x→(X.extract k (k+n))[0+j]? =some x:=by
 intro j x af
 rw[List.getElem?_take]at af
 split at af
 ·rename_i mY
  have:=gK j x af
  rw[Nat.zero_add,Array.getElem?_extract]
  have bM:k+j<X.size:=(Array.getElem?_eq_some_iff.1 this).1
  rw[if_pos (by omega)]
  exact this
 ·cases af
theorem Ed: ∀(d:Nat) (fs:List Field) (k:Nat) (xs ys:List Value) (X Y:Array Value) (b:Bool) (D:Nat) (w:World),ql P d k fs xs ys=some b→d≤D→(∀j x,xs[j]? =some x→X[k+j]? =some x)→(∀j y,ys[j]? =some y→Y[k+j]? =some y)→
 (Op.eqFields D X Y fs).run P w= .ok b w
 |0,_,k,xs,ys,X,Y,b,D,w,h,_,_,_=>by simp[ql]at h
 |d+1,[],k,xs,ys,X,Y,b,D,w,h,_,gK,lI=>by
  simp[ql]at h;subst h;simp[Op.eqFields]
 |d+1,f::fs,k,xs,ys,X,Y,b,0,w,h,mv,_,_=>by omega
 |d+1,f::fs,k,xs,ys,X,Y,b,D+1,w,h,mv,gK,lI=>by
  unfold ql at h
  split at h
  ·cases h
  ·rename_i hc
   simp only[Bool.or_eq_true,decide_eq_true_eq,bne_iff_ne,ne_eq,not_or,Decidable.not_not]at hc;obtain⟨xj,AD⟩:=hc
   split at h
   ·rename_i gs ah
    split at h
    ·rename_i inf xi
     split at h
     ·rename_i gZ jt aa ae
      simp only[Option.some.injEq]at h;subst h
      have dI:=Ed d gs 0 _ _ (X.extract k (k+inf.size)) (Y.extract k (k+inf.size)) gZ D w aa (by omega) (SJ gK) (SJ lI)
      have eO:=Ed d fs (k+inf.size) _ _ X Y jt (D+1) w ae (by omega) (fun j x af=>by rw[List.getElem?_drop]at af;have:=gK _ x af;rwa[show k+(inf.size+j)=k+inf.size+j from by omega]at this) (fun j x af=>by rw[List.getElem?_drop]at af;have:=lI _ x af;rwa[show k+(inf.size+j)=k+inf.size+j from by omega]at this)
      obtain⟨aB,bl⟩:=zfs ah D (X.extract k (k+inf.size)) (Y.extract k (k+inf.size)) w
      have dR:P.cellsOf f.type=inf.size:=by simp[Program.cellsOf,xi]
      simp only[Op.eqFields,Sem.run_bind,xj,ne_eq,not_false_eq_true,if_true,part,bl,Result.andThen_ok,run_sizeOf w xi,dR,AD,Sem.run_pure,aB,dI]
      cases gZ
      ·simp
      ·simpa using eO
     ·cases h
    ·cases h
   ·split at h
    ·rename_i x Lu y zfu
     split at h
     ·rename_i qi
      split at h
      ·rename_i gZ jt he ag
       simp only[Option.some.injEq]at h;subst h;obtain⟨aa,_,_,aR⟩:=zft he qi D w
       have SK:=gK 0 x rfl
       have xk:=lI 0 y rfl
       have aZ:=Ed d fs (k+1) Lu zfu X Y jt (D+1) w ag (by omega) (fun j x af=>by have:=gK (j+1) x af;rwa[show k+(j+1)=k+1+j from by omega]at this) (fun j x af=>by have:=lI (j+1) x af;rwa[show k+(j+1)=k+1+j from by omega]at this)
       simp only[Nat.add_zero]at SK xk;simp only[Op.eqFields,Sem.run_bind,xj,ne_eq,not_false_eq_true,if_true,part,aR,Result.andThen_ok,Bool.false_eq_true,if_false,AD,SK,xk,Sem.run_pure,aa]
       cases gZ
       ·simp
       ·simpa using aZ
      ·cases h
     ·cases h
    ·cases h
theorem SL(fs:List Field)(k:Nat)(xs ys:List Value)(X Y:Array Value)(b:Bool)(d:Nat)(w:World)(h:AE P k fs xs ys=some b)(hd:64≤d+1)(gK: ∀j x,xs[j]? =some x→X[k+j]? =some x)(lI: ∀j y,ys[j]? =some y→Y[k+j]? =some y):
 (Op.eqFields (d+1) X Y fs).run P w= .ok b w:=Ed 64 fs k xs ys X Y b (d+1) w h hd gK lI
def hH:List aD→Option (List Value)
 |[]=>some []
 | .av (.v x)::r=>match hH r with
  |some l=>some (x::l)
  |none=>none
 |_::_=>none
theorem AF{w:World}{ro:Nat→Prop}{σ:Heap}{β:Nat→Value}{N:Nat}: ∀{cs:List aD} {l:List Value} {c:Nat→Value},hH cs=some l→(∀j x,cs[j]? =some x→bG w ro σ β N x (c j))→l.length=cs.length∧∀j x,l[j]? =some x→c j=x
 |[],l,c,h,_=>by simp[hH]at h;subst h;simp
 | .av (.v x)::r,l,c,h,hc=>by
  simp only[hH]at h
  cases ag:hH r with
  |none=>simp[ag]at h
  |some h7=>
   simp[ag]at h;subst h;obtain⟨aa,ae⟩:=AF (c:=fun j=>c (j+1)) ag fun j x af=>hc (j+1) x af;refine⟨by simp[aa],fun j y af=>?_⟩
   cases j with
   |zero=>simp at af;subst af;exact bG.val (hc 0 _ rfl)
   |succ j=>exact ae j y af
 | .av (.ptr _)::_,_,_,h,_=>by simp[hH]at h
 | .av (.aP _ _)::_,_,_,h,_=>by simp[hH]at h
 | .agg _::_,_,_,h,_=>by simp[hH]at h
 | .tuple _::_,_,_,h,_=>by simp[hH]at h
 | .ptr _ _::_,_,_,h,_=>by simp[hH]at h
 | .dF _ _::_,_,_,h,_=>by simp[hH]at h
 | .c5 _ _ _::_,_,_,h,_=>by simp[hH]at h
 | .aP _::_,_,_,h,_=>by simp[hH]at h
 | .fn _ _ _::_,_,_,h,_=>by simp[hH]at h
 | .ref _::_,_,_,h,_=>by simp[hH]at h
 | .top::_,_,_,h,_=>by simp[hH]at h
theorem SM{t:TypeId}{fs:List Field}(h:na P t=some fs){cs ds:List aD}{xs ys:List Value}{b:Bool}(n3:hH cs=some xs)(mw:hH ds=some ys)(ad:AE P 0 fs xs ys=some b)
 {w:World}{ro:Nat→Prop}{σ:Heap}{β:Nat→Value}{N:Nat}{X Y:Value}(gK:bG w ro σ β N (.agg cs) X)(lI:bG w ro σ β N (.agg ds) Y):
 ∃p q,X= .agg p∧Y= .agg q∧P.eqGuardType P.depth t=false∧(Op.equalIn 10000 t (.agg p) (.agg q)).run P w= .ok b w:=by
 unfold na at h
 split at h
 ·rename_i Ec hu
  split at h
  ·cases h
  ·rename_i hc
   simp only[Bool.or_eq_true,not_or,Bool.not_eq_true]at hc;simp only[Option.some.injEq]at h;subst h
   cases gK with
   |agg _ p ak Lv=>
    cases lI with
    |agg _ q aK Lx=>
     refine⟨p,q,rfl,rfl,hc.2,?_⟩
     have qk:P.fieldsOf t=Ec:=by simp[Program.fieldsOf,hu]
     rw[run_equalIn_struct w 9999 t p q (by rw[qk];exact hu) hc.1,qk]
     obtain⟨aa,ae⟩:=AF (c:=fun j=>p.getD j undef) n3 Lv;obtain⟨au,aR⟩:=AF (c:=fun j=>q.getD j undef) mw Lx;refine SL Ec.toList 0 xs ys p q b 9998 w ad (by omega) (fun j x af=>?_) (fun j x af=>?_)
     ·have bM:j<p.size:=by
       rcases Nat.lt_or_ge j xs.length with h|h
       ·omega
       ·rw[List.getElem?_eq_none h]at af;cases af
      have:=ae j x af
      simp[bM]at this;simp[bM,this]
     ·have bM:j<q.size:=by
       rcases Nat.lt_or_ge j ys.length with h|h
       ·omega
       ·rw[List.getElem?_eq_none h]at af;cases af
      have:=aR j x af
      simp[bM]at this;simp[bM,this]
 ·rename_i n e hu
  split at h
  ·rename_i inf xi
   split at h
   ·cases h
   ·rename_i hc
    simp only[Bool.not_eq_true]at hc;simp only[Option.some.injEq]at h;subst h
    cases gK with
    |agg _ p ak Lv=>
     cases lI with
     |agg _ q aK Lx=>
      refine⟨p,q,rfl,rfl,hc,?_⟩
      rw[run_equalIn_array w 9999 p q hu xi,←Lt];obtain⟨aa,ae⟩:=AF (c:=fun j=>p.getD j undef) n3 Lv;obtain⟨au,aR⟩:=AF (c:=fun j=>q.getD j undef) mw Lx;refine SL _ 0 xs ys p q b 9998 w ad (by omega) (fun j x af=>?_) (fun j x af=>?_)
      ·have bM:j<p.size:=by
        rcases Nat.lt_or_ge j xs.length with h|h
        ·omega
        ·rw[List.getElem?_eq_none h]at af;cases af
       have:=ae j x af
       simp[bM]at this;simp[bM,this]
      ·have bM:j<q.size:=by
        rcases Nat.lt_or_ge j ys.length with h|h
        ·omega
        ·rw[List.getElem?_eq_none h]at af;cases af
       have:=aR j x af
       simp[bM]at this;simp[bM,this]
  ·cases h
 ·cases h
theorem SN(cE ty:TypeId)(x y:Operand)(ao:o.op= .binOp .eql cE x y ty){fs:List Field}(h:na P cE=some fs){cs ds:List aD}(hx:aL G s x= .agg cs)(ay:aL G s y= .agg ds)
 {xs ys:List Value}{b:Bool}(n3:hH cs=some xs)(mw:hH ds=some ys)(ad:AE P 0 fs xs ys=some b):cY P G o s (.av (.v (.bool b))):=
 fun _ a w β ro ag=>by
  obtain⟨p,q,aa,ae,au,aR⟩:=SM h n3 mw ad (hx ▸ ag.eval x) (ay ▸ ag.eval y);exact⟨.bool b,by simp only[execOp,ao,aa,ae,Sem.run_bind,run_eqGuard_agg w .eql cE x y p q au,Result.andThen_ok,run_eql_struct,aR,Sem.run_pure],.fI rfl⟩
theorem SO(cE ty:TypeId)(x y:Operand)(ao:o.op= .binOp .neq cE x y ty){fs:List Field}(h:na P cE=some fs){cs ds:List aD}(hx:aL G s x= .agg cs)(ay:aL G s y= .agg ds)
 {xs ys:List Value}{b:Bool}(n3:hH cs=some xs)(mw:hH ds=some ys)(ad:AE P 0 fs xs ys=some b):cY P G o s (.av (.v (.bool (!b)))):=
 fun _ a w β ro ag=>by
  obtain⟨p,q,aa,ae,au,aR⟩:=SM h n3 mw ad (hx ▸ ag.eval x) (ay ▸ ag.eval y);exact⟨.bool (!b),by simp only[execOp,ao,aa,ae,Sem.run_bind,run_eqGuard_agg w .neq cE x y p q au,Result.andThen_ok,run_neq_struct,aR,Sem.run_pure],.fI rfl⟩
theorem SP(t:TypeId)(x:Operand)(ao:o.op= .unOp .not t x){b:Bool}(hx:aL G s x= .av (.v (.bool b))):cY P G o s (.av (.v (.bool (!b)))):=
 fun _ a w β ro ag=>⟨.bool (!b),by simp[execOp,ao,ag.en hx,Op.unary],.fI rfl⟩
theorem SQ(t:TypeId)(x:Operand)(ao:o.op= .unOp .neg t x){k:IntKind}{n:Int}(hx:aL G s x= .av (.v (.int k n))):cY P G o s (.av (.v (.int k (k.wrap (0-n))))):=
 fun _ a w β ro ag=>⟨.int k (k.wrap (0-n)),by simp[execOp,ao,ag.en hx,Op.unary,Op.intArith],.fI rfl⟩
theorem AG(c x y:Operand)(ao:o.op= .pick c x y){b:Bool}(hc:aL G s c= .av (.v (.bool b))){v:aD}(ax:(if b then aL G s x else aL G s y)=v):cY P G o s v:=
 fun _ a w β ro ag=>⟨if b then a.eval x else a.eval y,by simp[execOp,ao,ag.en hc,asBool],by
  subst ax
  cases b
  ·simpa using ag.eval y
  ·simpa using ag.eval x⟩
theorem SR(x:Operand)(i:Nat)(ao:o.op= .extract x i){cs:List aD}(hx:aL G s x= .tuple cs){v:aD}(ax:cs[i]? =some v):cY P G o s v:=
 fun _ a w β ro ag=>by
  have h:=ag.eval x
  rw[hx]at h;generalize he:a.eval x=c at h
  cases h with
  |tuple _ c ai hc=>
   have bM:i<c.size:=by have:=(List.getElem?_eq_some_iff.1 ax).1;omega
   refine⟨c[i],?_,?_⟩
   ·simp[execOp,ao,Instr.extract,he,bM]
   ·simpa[bM]using hc i v ax
end
end Go.aN
