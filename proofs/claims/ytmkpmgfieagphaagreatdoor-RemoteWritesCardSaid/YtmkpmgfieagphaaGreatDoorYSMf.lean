/- The AV calculus, part A: values as trees, the relation between a symbolic state and a world, and how it is kept. Conditions: none; nothing here speaks of a particular program. -/
import Derived.Test.YtmkpmgfieagphaaGreatDoorYST0
import Derived.Laws.StructEq
import Derived.ChangeKeysEq
namespace Go.aO
open Go
theorem pP(a:Addr)(n:Nat):(a.add n).block=a.block:=by unfold Addr.add;split<;>rfl
theorem zd(a:Addr)(i j:Nat):(a.add i).add j=a.add (i+j):=by
 unfold Addr.add
 by_cases hi:i=0<;>by_cases af:j=0<;>simp[hi,af,Nat.add_assoc]
theorem addLit(b o n:Nat):(⟨b,o,none⟩:Addr).add n=⟨b,o+n,none⟩:=by
 unfold Addr.add;split
 ·rename_i h;subst h;rfl
 ·rfl
inductive aF where
 |aw (x:bb)
 |agg (cs:List aF)
 |tuple (cs:List aF)
 |ptr (id off:Nat)
 |c6 (id i off:Nat)
 |aR (id:Nat)
 |fn (f:Fn) (first captured:List aF)
 |ref (id:Nat)
 |dC (id n:Nat)
 |top
def QR(agg:Bool)(n:Nat)(v:Value)(p:Nat→Value):Prop:=
 match agg with
 |true=>∃c:Array Value,v= .agg c∧c.size=n∧∀i,i<n→c.getD i undef=p i
 |false=>n=1∧v=p 0
inductive cZ (w:World) (ro:Nat→Prop):bb→Value→Prop where
 |v (x:Value):x.oneCell'=true→cZ w ro (.v x) x
 |ptr (cs:List bb) (a:Addr) (c:Nat→Value):(∀j x,cs[j]? =some x→ro a.block∧w.cell? (a.add j)=some (c j))→
  (∀j x,cs[j]? =some x→cZ w ro x (c j))→cZ w ro (.ptr cs) (.pointer (some a))
 |aR (n:Nat) (es:List (List bb)) (b:Option Addr) (cap:Nat) (c:Nat→Value):es.length≤cap→cap≤maxLen→(∀e∈es,e.length=n)→
  (0<es.length→∃a,b=some a∧∀j,j<es.length*n→ro a.block∧w.cell? (a.add j)=some (c j))→
  (∀j x,es.flatten[j]? =some x→cZ w ro x (c j))→cZ w ro (.aR n es) (.slice b es.length cap)
 |mp (agg:Bool) (ks:List Value) (vs:List (List bb)) (r:Nat) (es:Array MapEntry) (clock:Nat) (p:Nat→Nat→Value):ro r→w.heap[r]? =some (.map es clock)→es.size=ks.length→vs.length=ks.length→ks.Nodup→
  (∀j k cs,ks[j]? =some k→vs[j]? =some cs→∃e:MapEntry,es[j]? =some e∧e.key=k∧QR agg cs.length e.val (p j))→
  (∀j cs i x,vs[j]? =some cs→cs[i]? =some x→cZ w ro x (p j i))→cZ w ro (.mp agg ks vs) (.map (some r))
 |li (i:bJ) (l:List (fQ i)) (c:Value):cZ w ro (.aR (b5 i) (l.map (cj i))) c→cZ w ro (.li i l) c
 |er (t:TypeId) (agg:Bool) (cs:List bb) (v:Value) (p:Nat→Value):QR agg cs.length v p→(∀i x,cs[i]? =some x→cZ w ro x (p i))→cZ w ro (.er t agg cs) (.iface t v)
theorem cZ.one{w:World}{ro:Nat→Prop}{x:bb}{c:Value}(h:cZ w ro x c):c.oneCell'=true:=by
 induction h with
 |v x hx=>exact hx
 |ptr=>rfl
 |aR=>rfl
 |mp=>rfl
 |li i l c h a7=>exact a7
 |er=>rfl
theorem cZ.keep{w w':World}{ro ro':Nat→Prop}{x:bb}{c:Value}(h:cZ w ro x c)
 (hw: ∀b,ro b→w'.heap[b]? =w.heap[b]?)(cl: ∀b,ro b→ro' b):cZ w' ro' x c:=by
 induction h with
 |v x hx=>exact .v x hx
 |ptr cs a c aa _ a7=>
  exact .ptr cs a c (fun j x af=>⟨cl _ (aa j x af).1,by
   rw[World.cell?_of_block (w:=w) (by rw[pP];exact hw _ (aa j x af).1)];exact(aa j x af).2⟩) a7
 |aR n es b cap c aa ae au aW _ a7=>
  refine .aR n es b cap c aa ae au (fun ak=>?_) a7
  obtain⟨a,ad,hc⟩:=aW ak
  exact⟨a,ad,fun j af=>⟨cl _ (hc j af).1,by
   rw[World.cell?_of_block (w:=w) (by rw[pP];exact hw _ (hc j af).1)];exact(hc j af).2⟩⟩
 |mp agg ks vs r es clock p aa ae au aW bN c5 _ a7=>exact .mp agg ks vs r es clock p (cl _ aa) ((hw _ aa).trans ae) au aW bN c5 a7
 |li i l c _ a7=>exact .li i l c a7
 |er t agg cs v p aa _ a7=>exact .er t agg cs v p aa a7
def b9:Value→Option Nat
 | .pointer (some a)=>some a.block
 | .slice (some a) _ cap=>if cap=0 then none else some a.block
 | .map (some r)=>some r
 |_=>none
structure we where
 holds:(bb→Value→Prop)→Value→Obj→Prop
 mono: ∀(R qO:bb→Value→Prop) v o,(∀x c,R x c→qO x c)→holds R v o→holds qO v o
 view:Option bb
 QS: ∀aw,view=some aw→∀(w:World) (ro ro':Nat→Prop) (v:Value) (o:Obj) (b:Nat),holds (cZ w ro) v o→b9 v=some b→w.heap[b]? =some o→(∀x,ro x→ro' x)→ro' b→cZ w ro' aw v
inductive ei where
 |box (t:TypeId) (cs:List aF)
 |row (QT:Bool) (t:TypeId) (n:Nat) (es:List (List bb))
 |bT (bU:we)
def ei.live:ei→Bool
 | .box _ _=>true
 | .row QT _ _ _=>!QT
 | .bT _=>true
abbrev Heap:=List (Nat × ei)
def aG:Heap→Nat→Option ei
 |[],_=>none
 |(k,o)::r,id=>if k=id then some o else aG r id
def eQ:Heap→Nat→ei→Heap
 |[],id,o=>[(id,o)]
 |(k,x)::r,id,o=>if k=id then(k,o)::r else(k,x)::eQ r id o
def gu:Heap→Nat→Heap
 |[],_=>[]
 |(k,x)::r,id=>if k=id then gu r id else(k,x)::gu r id
theorem wg(h:Heap)(id:Nat)(o:ei)(k:Nat):aG (eQ h id o) k=if id=k then some o else aG h k:=by
 induction h with
 |nil=>simp[eQ,aG]
 |cons p r a7=>
  obtain⟨j,x⟩:=p
  by_cases af:j=id
  ·subst af
   by_cases aj:j=k<;>simp[eQ,aG,aj]
  ·by_cases aj:j=k
   ·subst aj
    simp[eQ,aG,af,Ne.symm af]
   ·simp[eQ,aG,af,aj,a7]
theorem ze(h:Heap)(id k:Nat):aG (gu h id) k=if id=k then none else aG h k:=by
 induction h with
 |nil=>simp[gu,aG]
 |cons p r a7=>
  obtain⟨j,x⟩:=p
  by_cases af:j=id
  ·subst af
   by_cases aj:j=k
   ·subst aj;simp[gu,a7]
   ·simp[gu,aG,aj,a7]
  ·by_cases aj:j=k
   ·subst aj
    simp[gu,aG,af,Ne.symm af]
   ·simp[gu,aG,af,aj,a7]
def h6(w:World)(t:TypeId)(n:Nat)(v:Value)(len:Nat)(xs:List Value):Prop:=
 xs.length=len*n∧(((∃b,v= .slice b 0 0∧∀a,b=some a→a.block<w.heap.size)∧len=0)∨
  ∃g cap cur,v= .slice (some ⟨g,0,none⟩) len cap∧0<cap∧w.heap[g]? =some (.cells cur t (0,0))∧len≤cap∧cap≤maxLen∧cur.size=cap*n∧cur.toList.take (len*n)=xs)
inductive bF (w:World) (ro:Nat→Prop) (σ:Heap) (β:Nat→Value) (N:Nat):aF→Value→Prop where
 |aw (x:bb) (c:Value):cZ w ro x c→bF w ro σ β N (.aw x) c
 |agg (cs:List aF) (c:Array Value):c.size=cs.length→(∀j x,cs[j]? =some x→bF w ro σ β N x (c.getD j undef))→bF w ro σ β N (.agg cs) (.agg c)
 |tuple (cs:List aF) (c:Array Value):c.size=cs.length→(∀j x,cs[j]? =some x→bF w ro σ β N x (c.getD j undef))→bF w ro σ β N (.tuple cs) (.tuple c)
 |ptr (id off:Nat) (c:Value):id<N→(∀t cs,aG σ id=some (.box t cs)→∃b,β id= .pointer (some ⟨b,0,none⟩)∧c= .pointer (some ⟨b,off,none⟩))→bF w ro σ β N (.ptr id off) c
 |dC (id n:Nat) (c:Value):id<N→(∀t cs,aG σ id=some (.box t cs)→∃b,β id= .pointer (some ⟨b,0,none⟩)∧c= .slice (some ⟨b,0,none⟩) n n)→bF w ro σ β N (.dC id n) c
 |c6 (id i off:Nat) (c:Value):id<N→(∀z t n es,aG σ id=some (.row z t n es)→∃b l hW,β id= .slice (some ⟨b,0,none⟩) l hW∧c= .pointer (some ⟨b,i*n+off,none⟩))→bF w ro σ β N (.c6 id i off) c
 |aR (id:Nat) (c:Value):id<N→(∀z t n es,aG σ id=some (.row z t n es)→c=β id)→bF w ro σ β N (.aR id) c
 |fn (f:Fn) (p q:List aF) (c d:Array Value):c.size=p.length→d.size=q.length→(∀j x,p[j]? =some x→bF w ro σ β N x (c.getD j undef))→
  (∀j x,q[j]? =some x→bF w ro σ β N x (d.getD j undef))→bF w ro σ β N (.fn f p q) (.func f c d)
 |ref (id:Nat) (c:Value):id<N→(∀bU,aG σ id=some (.bT bU)→c=β id)→bF w ro σ β N (.ref id) c
 |top (c:Value):bF w ro σ β N .top c
inductive kO (w:World) (ro:Nat→Prop) (σ:Heap) (β:Nat→Value) (N:Nat) (id:Nat):ei→Prop where
 |box (t:TypeId) (cs:List aF) (b:Nat) (arr:Array Value):β id= .pointer (some ⟨b,0,none⟩)→w.heap[b]? =some (.cells arr t (0,0))→arr.size=cs.length→
  (∀j x,cs[j]? =some x→bF w ro σ β N x (arr.getD j undef))→kO w ro σ β N id (.box t cs)
 |row (t:TypeId) (n:Nat) (es:List (List bb)) (xs:List Value):h6 w t n (β id) es.length xs→(∀e∈es,e.length=n)→
  (∀j x,es.flatten[j]? =some x→cZ w ro x (xs.getD j undef))→kO w ro σ β N id (.row false t n es)
 |gi (t:TypeId) (n:Nat) (es:List (List bb)):cZ w ro (.aR n es) (β id)→kO w ro σ β N id (.row true t n es)
 |bT (bU:we) (b:Nat) (o:Obj):b9 (β id)=some b→w.heap[b]? =some o→bU.holds (cZ w ro) (β id) o→kO w ro σ β N id (.bT bU)
theorem h6.hG{w:World}{t:TypeId}{n:Nat}{v:Value}{len:Nat}{xs:List Value}(h:h6 w t n v len xs){b:Nat}(ad:b9 v=some b):
 b<w.heap.size∧∃cap cur,v= .slice (some ⟨b,0,none⟩) len cap∧w.heap[b]? =some (.cells cur t (0,0)):=by
 rcases h.2 with⟨⟨c,rfl,_⟩,_⟩|⟨g,cap,cur,rfl,hc,ah,_⟩
 ·cases c<;>simp[b9]at ad
 ·have:cap≠0:=by omega
  simp[b9,this]at ad;subst ad;exact⟨(Array.getElem?_eq_some_iff.1 ah).1,cap,cur,rfl,ah⟩
theorem h6.keep{w w':World}{t:TypeId}{n:Nat}{v:Value}{len:Nat}{xs:List Value}(h:h6 w t n v len xs)(hw: ∀b,b9 v=some b→w'.heap[b]? =w.heap[b]?)(bY:w.heap.size≤w'.heap.size):h6 w' t n v len xs:=by
 refine⟨h.1,?_⟩
 rcases h.2 with⟨⟨b,ax,ad⟩,ar⟩|⟨g,cap,cur,ax,hc,ah,rest⟩
 ·exact .inl ⟨⟨b,ax,fun a ba=>Nat.lt_of_lt_of_le (ad a ba) bY⟩,ar⟩
 ·have:cap≠0:=by omega
  exact .inr ⟨g,cap,cur,ax,hc,(hw g (by rw[ax];simp[b9,this])).trans ah,rest⟩
theorem kO.hG{w:World}{ro:Nat→Prop}{σ:Heap}{β:Nat→Value}{N id:Nat}{o:ei}(h:kO w ro σ β N id o)(ar:o.live=true){b:Nat}(ad:b9 (β id)=some b):b<w.heap.size:=by
 cases h with
 |box t cs b' arr aa ae=>rw[aa]at ad;simp[b9]at ad;subst ad;exact(Array.getElem?_eq_some_iff.1 ae).1
 |row t n es xs aa=>exact(aa.hG ad).1
 |gi=>simp[ei.live]at ar
 |bT bU b' o aa ae=>rw[aa]at ad;simp only[Option.some.injEq]at ad;subst ad;exact(Array.getElem?_eq_some_iff.1 ae).1
def Own(σ:Heap)(β:Nat→Value)(b:Nat):Prop:=∃id o,aG σ id=some o∧o.live=true∧b9 (β id)=some b
structure gY (w:World) (ro:Nat→Prop) (σ:Heap) (β:Nat→Value) (N:Nat):Prop where
 dh: ∀id o,aG σ id=some o→kO w ro σ β N id o
 inj: ∀id gv o ct b,aG σ id=some o→aG σ gv=some ct→o.live=true→ct.live=true→b9 (β id)=some b→b9 (β gv)=some b→id=gv
 fk: ∀b,ro b→¬Own σ β b
 lt: ∀b,ro b→b<w.heap.size
abbrev bd:=Nat→Option (List bb)
def rR(w:World)(ro:Nat→Prop)(G:bd):Prop:=∀g cs,G g=some cs→cZ w ro (.ptr cs) (.pointer (some ⟨g,0,none⟩))∧ro g∧∃arr t tj,w.heap[g]? =some (.cells arr t tj)∧arr.size=cs.length
structure Entry where
 w:World
 ro:Nat→Prop
 σ:Heap
 β:Nat→Value
 n:Nat
 d:List Deferred
structure Trans (E:Entry) (w:World) (ro:Nat→Prop) (σ:Heap) (β:Nat→Value) (n:Nat):Prop where
 os:w.os=E.w.os
 tape:w.tape=E.w.tape
 output:w.output=E.w.output
 size:E.w.heap.size≤w.heap.size
 frame: ∀b,b<E.w.heap.size→¬Own E.σ E.β b→w.heap[b]? =E.w.heap[b]?
 jk: ∀b,ro b→E.ro b∨Own E.σ E.β b∨E.w.heap.size≤b
 jZ: ∀b,E.ro b→ro b
 gZ: ∀b,Own σ β b→Own E.σ E.β b∨E.w.heap.size≤b
 dM: ∀id,id<E.n→∀o,aG σ id=some o→aG E.σ id≠none∧β id=E.β id
 new: ∀id o,aG σ id=some o→id<n
 le:E.n≤n
structure aU where
 c0:List aF
 heap:Heap
 next:Nat
 base:Nat
structure df (E:Entry) (G:bd) (s:aU) (a:Act) (w:World) (β:Nat→Value) (ro:Nat→Prop):Prop where
 defers:a.defers=E.d
 size:a.tmps.size=s.c0.length
 slot: ∀i x,s.c0[i]? =some x→bF w ro s.heap β s.next x (a.tmps.getD i undef)
 heap:gY w ro s.heap β s.next
 h7:rR w ro G
 trans:Trans E w ro s.heap β s.next
 base:E.n≤s.base
def Rel(E:Entry)(G:bd)(s:aU)(a:Act)(w:World):Prop:=∃β ro,df E G s a w β ro
theorem bF.keep{w w':World}{ro ro':Nat→Prop}{σ e0:Heap}{β dN:Nat→Value}{N oz:Nat}{x:aF}{c:Value}(h:bF w ro σ β N x c)
 (hw: ∀b,ro b→w'.heap[b]? =w.heap[b]?)(cl: ∀b,ro b→ro' b)(ou:N≤oz)
 (nw: ∀id t cs,aG e0 id=some (.box t cs)→dN id=β id∧∃t cs,aG σ id=some (.box t cs))
 (db: ∀id z t n es,aG e0 id=some (.row z t n es)→dN id=β id∧∃z t es,aG σ id=some (.row z t n es))
 (nx: ∀id bU,aG e0 id=some (.bT bU)→dN id=β id∧∃bU,aG σ id=some (.bT bU)):bF w' ro' e0 dN oz x c:=by
 induction h with
 |aw x c hx=>exact .aw x c (hx.keep hw cl)
 |agg cs c ai _ a7=>exact .agg cs c ai a7
 |tuple cs c ai _ a7=>exact .tuple cs c ai a7
 |ptr id off c ar ak=>
  refine .ptr id off c (by omega) fun t cs ah=>?_
  obtain⟨ad,bI,cs',dX⟩:=nw id t cs ah;obtain⟨b,aa,ae⟩:=ak bI cs' dX;exact⟨b,ad.trans aa,ae⟩
 |dC id off c ar ak=>
  refine .dC id off c (by omega) fun t cs ah=>?_
  obtain⟨ad,bI,cs',dX⟩:=nw id t cs ah;obtain⟨b,aa,ae⟩:=ak bI cs' dX;exact⟨b,ad.trans aa,ae⟩
 |c6 id i off c ar ak=>
  refine .c6 id i off c (by omega) fun z t n es ah=>?_
  obtain⟨ad,iA,bI,dR,dX⟩:=db id z t n es ah;obtain⟨b,l,hW,aa,ae⟩:=ak iA bI n dR dX;exact⟨b,l,hW,ad.trans aa,ae⟩
 |aR id c ar ak=>
  refine .aR id c (by omega) fun z t n es ah=>?_
  obtain⟨ad,iA,bI,dR,dX⟩:=db id z t n es ah;rw[ad];exact ak iA bI n dR dX
 |fn f p q c d aa ae _ _ ha hb=>exact .fn f p q c d aa ae ha hb
 |ref id c ar ak=>
  refine .ref id c (by omega) fun bU ah=>?_
  obtain⟨ad,ln,dX⟩:=nx id bU ah;rw[ad];exact ak ln dX
 |top c=>exact .top c
theorem rR.keep{w w':World}{ro ro':Nat→Prop}{G:bd}(h:rR w ro G)
 (hw: ∀b,ro b→w'.heap[b]? =w.heap[b]?)(cl: ∀b,ro b→ro' b):rR w' ro' G:=fun g cs ah=>by
 obtain⟨aa,ae,arr,t,tj,au,aW⟩:=h g cs ah
 exact⟨aa.keep hw cl,cl g ae,arr,t,tj,(hw g ae).trans au,aW⟩
def aU.put(s:aU)(dst:Option Nat)(v:aF):aU:=
 match dst with
 |some d=>{s with c0:=s.c0.set d v}
 |none=>s
theorem df.put{E:Entry}{G:bd}{s:aU}{a:Act}{w:World}{β:Nat→Value}{ro:Nat→Prop}(h:df E G s a w β ro)(dst:Option Nat)(v:aF)(c:Value)
 (ax:bF w ro s.heap β s.next v c):df E G (s.put dst v) (a.put dst c) w β ro:=by
 cases dst with
 |none=>exact h
 |some d=>
  refine⟨h.defers,by simpa[Act.put,aU.put]using h.size,fun i x hx=>?_,h.heap,h.h7,h.trans,h.base⟩
  simp only[aU.put,Act.put]at hx⊢;rw[List.getElem?_set]at hx
  have bY:=h.size
  by_cases Ka:d=i
  ·subst Ka
   simp only[if_true]at hx
   split at hx
   ·rename_i bR
    simp only[Option.some.injEq]at hx;subst hx
    have:d<a.tmps.size:=by omega
    simpa[this]using ax
   ·cases hx
  ·simp only[Ka,if_false]at hx
   have:=h.slot i x hx
   simpa[Array.getElem?_setIfInBounds_ne Ka]using this
end Go.aO
namespace Go.aO
open Go
def aM(G:bd)(s:aU):Operand→aF
 | .tmp t=>s.c0.getD t .top
 | .const v=>if v.oneCell' then .aw (.v v)else .top
 | .global g=>match G g with
  |some cs=>.aw (.ptr cs)
  |none=>.top
 | .func f=>.fn (.func f) [] []
theorem df.eval{E:Entry}{G:bd}{s:aU}{a:Act}{w:World}{β:Nat→Value}{ro:Nat→Prop}(h:df E G s a w β ro)(x:Operand):
 bF w ro s.heap β s.next (aM G s x) (a.eval x):=by
 cases x with
 |tmp t=>
  simp only[aM,Act.eval]
  cases aK:s.c0[t]? with
  |none=>simp only[List.getD,aK];exact .top _
  |some v=>simp only[List.getD,aK];exact h.slot t v aK
 |const v=>
  simp only[aM,Act.eval]
  split
  ·exact .aw _ _ (.v _ (by assumption))
  ·exact .top _
 |global g=>
  simp only[aM,Act.eval]
  split
  ·exact .aw _ _ (h.h7 g _ (by assumption)).1
  ·exact .top _
 |func f=>exact .fn _ _ _ _ _ rfl rfl (by simp) (by simp)
def dS(P:Program)(G:bd)(o:Oper)(s bC:aU):Prop:=
 ∀E a w,Rel E G s a w→∀(K:Act→World→Prop) (Q:Exit→Act→World→Prop),(∀bf w',Rel E G bC bf w'→K bf w')→o.wp P a w K Q
def gj(w w':World):Prop:=∀b,b<w.heap.size→w'.heap[b]? =w.heap[b]?
def l1(P:Program)(G:bd)(o:Oper)(s bC:aU):Prop:=
 ∀E a w,Rel E G s a w→∀(K:Act→World→Prop) (Q:Exit→Act→World→Prop),(∀bf w',Rel E G bC bf w'→gj w w'→K bf w')→o.wp P a w K Q
theorem l1.op{P:Program}{G:bd}{o:Oper}{s bC:aU}(h:l1 P G o s bC):dS P G o s bC:=fun E a w ag K Q hK=>h E a w ag K Q fun bf w' dY _=>hK bf w' dY
section
variable {P:Program} {G:bd} {o:Oper} {s:aU}
theorem dS.value{v:aF}(h: ∀E a w β ro,df E G s a w β ro→∃c,(execOp a.eval o).run P w= .ok (.value c) w∧bF w ro s.heap β s.next v c):
 dS P G o s (s.put o.dst v):=by
 intro E a w ⟨β,ro,ag⟩ K Q hK
 obtain⟨c,cy,ax⟩:=h E a w β ro ag
 unfold Oper.wp
 rw[cy]
 exact hK _ _ ⟨β,ro,ag.put o.dst v c ax⟩
abbrev cX(P:Program)(G:bd)(o:Oper)(s:aU)(v:aF):Prop:=
 ∀E a w β ro,df E G s a w β ro→∃c,(execOp a.eval o).run P w= .ok (.value c) w∧bF w ro s.heap β s.next v c
theorem cX.step{v:aF}(h:cX P G o s v):dS P G o s (s.put o.dst v):=.value h
theorem cX.QU{v:aF}(h:cX P G o s v):l1 P G o s (s.put o.dst v):=by
 intro E a w ⟨β,ro,ag⟩ K Q hK
 obtain⟨c,cy,ax⟩:=h E a w β ro ag
 unfold Oper.wp
 rw[cy]
 exact hK _ _ ⟨β,ro,ag.put o.dst v c ax⟩ fun _ _=>rfl
theorem QV(x:Operand)(ao:o.op= .move x):cX P G o s (aM G s x):=
 fun _ a w _ _ ag=>⟨a.eval x,by simp[execOp,ao],ag.eval x⟩
theorem QW(x:Operand)(ao:o.op= .assign x):cX P G o s (aM G s x):=
 fun _ a w _ _ ag=>⟨a.eval x,by simp[execOp,ao],ag.eval x⟩
def fr(σ:Heap):aF→Option (List aF)
 | .aw (.ptr cs)=>some (cs.map .aw)
 | .ptr id off=>match aG σ id with
  |some (.box _ cs)=>some (cs.drop off)
  |_=>none
 | .c6 id i off=>match aG σ id with
  |some (.row false _ _ es)=>match es[i]? with
   |some e=>some ((e.drop off).map .aw)
   |none=>none
  |_=>none
 |_=>none
theorem qP{α:Type}{n:Nat}: ∀{es:List (List α)},(∀e∈es,e.length=n)→∀{i:Nat} {e:List α},es[i]? =some e→∀j,j<n→es.flatten[i*n+j]? =e[j]?
 |[],_,i,e,h,_,_=>by simp at h
 |x::r,hn,i,e,h,j,af=>by
  have hx:x.length=n:=hn x (by simp)
  cases i with
  |zero=>
   simp at h;subst h;simp only[List.flatten_cons,Nat.zero_mul,Nat.zero_add];rw[List.getElem?_append_left (by omega)]
  |succ i=>
   simp at h
   have a7:=qP (es:=r) (fun e he=>hn e (by simp[he])) h j af
   simp only[List.flatten_cons];rw[List.getElem?_append_right (by rw[Nat.succ_mul];omega),←a7]
   congr 1
   rw[Nat.succ_mul];omega
theorem j0{α:Type}{n:Nat}: ∀{es:List (List α)},(∀e∈es,e.length=n)→es.flatten.length=es.length*n
 |[],_=>by simp
 |x::r,hn=>by
  simp only[List.flatten_cons,List.length_append,List.length_cons,Nat.succ_mul];rw[j0 (es:=r) (fun e he=>hn e (by simp[he])),hn x (by simp)]
  omega
theorem bF.one{w:World}{ro:Nat→Prop}{σ:Heap}{β:Nat→Value}{N:Nat}{x:bb}{c:Value}(h:bF w ro σ β N (.aw x) c):c.oneCell'=true:=by
 cases h with
 |aw _ _ h=>exact h.one
theorem wh{w:World}{ro:Nat→Prop}{σ:Heap}{β:Nat→Value}{N:Nat}(bk:gY w ro σ β N){p:aF}{c:Value}{cs:List aF}(ak:fr σ p=some cs)(hc:bF w ro σ β N p c)
 (cb:cs≠[]): ∃a,c= .pointer (some a)∧∃f:Nat→Value,∀j x,cs[j]? =some x→w.cell? (a.add j)=some (f j)∧bF w ro σ β N x (f j):=by
 cases hc with
 |aw x c hx=>
  cases hx with
  |v x=>simp[fr]at ak
  |ptr cs' a f aa ae=>
   simp only[fr,Option.some.injEq]at ak;subst ak;refine⟨a,rfl,f,fun j x af=>?_⟩
   rw[List.getElem?_map]at af
   cases oA:cs'[j]? with
   |none=>simp[oA]at af
   |some y=>
    simp[oA]at af;subst af;exact⟨(aa j y oA).2,.aw _ _ (ae j y oA)⟩
  |aR=>simp[fr]at ak
  |mp=>simp[fr]at ak
  |er=>simp[fr]at ak
  |li=>simp[fr]at ak
 |ptr id off c bR si=>
  simp only[fr]at ak
  cases ao:aG σ id with
  |none=>simp[ao]at ak
  |some h8=>
   cases h8 with
   |row=>simp[ao]at ak
   |bT=>simp[ao]at ak
   |box t cs'=>
    simp only[ao,Option.some.injEq]at ak;subst ak;obtain⟨b,ad,rfl⟩:=si t cs' ao
    have dr:=bk.dh id _ ao
    cases dr with
    |box _ _ b' arr ga ah bY e1=>
     rw[ad]at ga;simp only[Value.pointer.injEq,Option.some.injEq,Addr.mk.injEq,and_true]at ga;subst ga;refine⟨_,rfl,fun j=>arr.getD (off+j) undef,fun j x af=>?_⟩
     rw[List.getElem?_drop]at af
     have bR:off+j<cs'.length:=by
      rcases Nat.lt_or_ge (off+j) cs'.length with h|h
      ·exact h
      ·rw[List.getElem?_eq_none h]at af;cases af
     refine⟨?_,e1 _ _ af⟩
     rw[addLit,cell_of_row w b (off+j) arr t (0,0) ah]
     have:off+j<arr.size:=by omega
     simp[this]
 |c6 id i off c bR si=>
  simp only[fr]at ak
  cases ao:aG σ id with
  |none=>simp[ao]at ak
  |some h8=>
   cases h8 with
   |box=>simp[ao]at ak
   |bT=>simp[ao]at ak
   |row z t n es=>
    cases z with
    |true=>simp[ao]at ak
    |false=>
     simp only[ao]at ak
     cases mK:es[i]? with
     |none=>simp[mK]at ak
     |some e=>
      simp only[mK,Option.some.injEq]at ak;subst ak;obtain⟨b,l,hW,ad,rfl⟩:=si false t n es ao
      have dr:=bk.dh id _ ao
      cases dr with
      |row _ _ _ xs hv hn e1=>
       rw[ad]at hv;obtain⟨C2,oB⟩:=hv
       rcases oB with⟨⟨_,h,_⟩,aS⟩|⟨g,cap,cur,ax,_,ah,hle,h9,dL,lp⟩
       ·have:=(List.getElem?_eq_some_iff.1 mK).1;omega
       ·simp only[Value.slice.injEq,Option.some.injEq,Addr.mk.injEq,and_true]at ax
        obtain⟨rfl,_,_⟩:=ax;refine⟨_,rfl,fun j=>xs.getD (i*n+(off+j)) undef,fun j x af=>?_⟩
        rw[List.getElem?_map]at af
        cases oA:(e.drop off)[j]? with
        |none=>simp[oA]at af
        |some y=>
         simp[oA]at af;subst af;rw[List.getElem?_drop]at oA
         have ny:e.length=n:=hn e (List.mem_of_getElem? mK)
         have mC:off+j<n:=by
          rcases Nat.lt_or_ge (off+j) e.length with h|h
          ·omega
          ·rw[List.getElem?_eq_none h]at oA;cases oA
         have l2:es.flatten[i*n+(off+j)]? =some y:=by rw[qP hn mK _ mC];exact oA
         refine⟨?_,.aw _ _ (e1 _ _ l2)⟩
         have jI:i*n+(off+j)<xs.length:=by
          have aa:i*n+(off+j)<es.flatten.length:=by
           rcases Nat.lt_or_ge (i*n+(off+j)) es.flatten.length with h|h
           ·exact h
           ·rw[List.getElem?_eq_none h]at l2;cases l2
          rw[j0 hn]at aa
          have ae:=C2
          omega
         rw[addLit,Nat.add_assoc,cell_of_row w b _ cur t (0,0) ah]
         have hx:xs[i*n+(off+j)]? =cur[i*n+(off+j)]? :=by
          rw[←lp,List.getElem?_take]
          have ae:=C2
          rw[if_pos (by omega)]
          simp
         rw[←hx];simp[List.getD,List.getElem?_eq_getElem jI]
 |agg=>simp[fr]at ak
 |tuple=>simp[fr]at ak
 |aR=>simp[fr]at ak
 |fn=>simp[fr]at ak
 |ref=>simp[fr]at ak
 |dC=>simp[fr]at ak
 |top=>simp[fr]at ak
def l3(P:Program)(t:TypeId):Option Nat:=
 match P.underlying t with
 |some (.struct _)|some (.array _ _)=>(P.info? t).map (·.size)
 |_=>none
def scalar(P:Program)(t:TypeId):Bool:=
 match P.underlying t with
 |some (.struct _)|some (.array _ _)|none=>false
 |_=>true
theorem C3{t:TypeId}{n:Nat}(h:l3 P t=some n)(w:World):(isAgg t).run P w= .ok true w∧(sizeOf t).run P w= .ok n w:=by
 unfold l3 at h
 cases hu:P.underlying t with
 |none=>simp[hu]at h
 |some d=>
  cases hi:P.info? t with
  |none=>cases d<;>simp[hu,hi]at h
  |some i=>
   cases d<;>simp[hu,hi]at h
   all_goals
    subst h;exact⟨by simp[isAgg,run_underlying hu],by simp[sizeOf,typeInfo,hi]⟩
theorem zf{t:TypeId}(h:scalar P t=true)(w:World):(isAgg t).run P w= .ok false w:=by
 unfold scalar at h
 cases hu:P.underlying t with
 |none=>simp[hu]at h
 |some d=>cases d<;>simp[hu]at h<;>simp[isAgg,run_underlying hu]
theorem QX(t:TypeId)(x:Operand)(ao:o.op= .load t x){n:Nat}(aK:l3 P t=some n){cs:List aF}(ak:fr s.heap (aM G s x)=some cs)(hn:n≤cs.length)(aP:0<n):
 cX P G o s (.agg (cs.take n)):=
 fun _ a w β ro ag=>by
  obtain⟨c8,hc,f,hf⟩:=wh ag.heap ak (ag.eval x) (by intro h;subst h;simp at hn;omega)
  obtain⟨aa,ae⟩:=C3 aK w
  have ar:=run_loadCells (P:=P) w c8 n f (fun j af=>(hf j (cs[j]'(by omega)) (by simp)).1)
  refine⟨.agg ((List.range n).map f).toArray,?_,.agg _ _ (by simp;omega) fun j y af=>?_⟩
  ·simp[execOp,ao,hc,Instr.loadAt,Instr.sureAddr,loadVar,aa,ae,ar]
  ·rw[List.getElem?_take]at af
   split at af
   ·have:=(hf j y af).2
    rename_i mC;simpa[mC]using this
   ·cases af
theorem Kb(t:TypeId)(x:Operand)(ao:o.op= .load t x)(aK:scalar P t=true){y:aF}{cs:List aF}(ak:fr s.heap (aM G s x)=some (y::cs)):
 cX P G o s y:=
 fun _ a w β ro ag=>by
  obtain⟨c8,hc,f,hf⟩:=wh ag.heap ak (ag.eval x) (by simp)
  have aa:=zf aK w
  obtain⟨kP,dD⟩:=hf 0 y rfl;rw[show c8.add 0=c8 from by simp[Addr.add]]at kP
  exact⟨f 0,by simp[execOp,ao,hc,Instr.loadAt,Instr.sureAddr,loadVar,aa,run_load,kP],dD⟩
def sj(P:Program)(t:TypeId)(f:Nat):Option Nat:=
 match P.underlying t with
 |some (.struct fs)=>match fs[f]? with
  |some fd=>match P.info? fd.type with
   |some i=>if i.size=0 then none else some fd.offset
   |none=>none
  |none=>none
 |_=>none
def iQ(k:Nat):aF→Option aF
 | .aw (.ptr cs)=>some (.aw (.ptr (cs.drop k)))
 | .ptr id off=>some (.ptr id (off+k))
 | .c6 id i off=>some (.c6 id i (off+k))
 |_=>none
theorem QY{w:World}{ro:Nat→Prop}{σ:Heap}{β:Nat→Value}{N:Nat}{p q:aF}{c:Value}{cs:List aF}{k:Nat}(ai:iQ k p=some q)(ak:fr σ p=some cs)(hc:bF w ro σ β N p c):
 ∃a,c= .pointer (some a)∧bF w ro σ β N q (.pointer (some (a.add k))):=by
 cases hc with
 |aw x c hx=>
  cases hx with
  |v x=>simp[iQ]at ai
  |ptr cs' a f aa ae=>
   simp only[iQ,Option.some.injEq]at ai;subst ai;refine⟨a,rfl,.aw _ _ (.ptr _ _ (fun j=>f (k+j)) (fun j x af=>?_) (fun j x af=>?_))⟩
   ·rw[List.getElem?_drop]at af
    rw[pP,zd];exact aa _ _ af
   ·rw[List.getElem?_drop]at af
    exact ae _ _ af
  |aR=>simp[iQ]at ai
  |mp=>simp[iQ]at ai
  |er=>simp[iQ]at ai
  |li=>simp[iQ]at ai
 |ptr id off c bR si=>
  simp only[iQ,Option.some.injEq]at ai;subst ai;simp only[fr]at ak
  split at ak
  ·rename_i t cs' ao
   obtain⟨b,ad,rfl⟩:=si t cs' ao;refine⟨_,rfl,.ptr _ _ _ bR fun bI zjx l4=>⟨b,ad,by rw[addLit]⟩⟩
  ·cases ak
 |c6 id i off c bR si=>
  simp only[iQ,Option.some.injEq]at ai;subst ai;simp only[fr]at ak
  split at ak
  ·rename_i t n es ao
   obtain⟨b,l,hW,ad,rfl⟩:=si false t n es ao;refine⟨_,rfl,.c6 _ _ _ _ bR fun iA bI cT dR l4=>⟨b,l,hW,ad,?_⟩⟩
   rw[ao]at l4;simp only[Option.some.injEq,ei.row.injEq]at l4;obtain⟨_,_,rfl,_⟩:=l4;rw[addLit,Nat.add_assoc]
  ·cases ak
 |agg=>simp[iQ]at ai
 |tuple=>simp[iQ]at ai
 |aR=>simp[iQ]at ai
 |fn=>simp[iQ]at ai
 |ref=>simp[iQ]at ai
 |dC=>simp[iQ]at ai
 |top=>simp[iQ]at ai
theorem QZ{t f k:Nat}(h:sj P t f=some k)(a:Addr)(w:World):(Instr.fieldAt t (.pointer (some a)) f).run P w= .ok (.pointer (some (a.add k))) w:=by
 unfold sj at h
 split at h
 ·rename_i fs hu
  split at h
  ·rename_i fd hf
   split at h
   ·rename_i i hi
    split at h
    ·cases h
    ·rename_i aS
     simp only[Option.some.injEq]at h;subst h;simp[Instr.fieldAt,run_underlying hu,hf,Instr.sureAddr,fieldPlace,sizeOf,typeInfo,hi,aS]
   ·cases h
  ·cases h
 ·cases h
def jJ(σ:Heap):aF→Bool
 | .aw (.ptr _)=>true
 | .ptr id _=>match aG σ id with
  |some (.box _ _)=>true
  |_=>false
 | .c6 id _ _=>match aG σ id with
  |some (.row _ _ _ _)=>true
  |_=>false
 |_=>false
def qQ(k:Nat):aF→aF
 | .aw (.ptr cs)=>.aw (.ptr (cs.drop k))
 | .ptr id off=>.ptr id (off+k)
 | .c6 id i off=>.c6 id i (off+k)
 |x=>x
theorem zg{w:World}{ro:Nat→Prop}{σ:Heap}{β:Nat→Value}{N:Nat}{x:aF}{c:Value}(hx:jJ σ x=true)(h:bF w ro σ β N x c): ∃a,c= .pointer (some a)∧∀k,bF w ro σ β N (qQ k x) (.pointer (some (a.add k))):=by
 cases h with
 |aw x c ag=>
  cases ag with
  |ptr cs a f aa ae=>
   refine⟨a,rfl,fun k=>.aw _ _ (.ptr _ _ (fun j=>f (k+j)) (fun j x af=>?_) (fun j x af=>?_))⟩
   ·rw[List.getElem?_drop]at af
    rw[pP,zd];exact aa _ _ af
   ·rw[List.getElem?_drop]at af
    exact ae _ _ af
  |v=>simp[jJ]at hx
  |aR=>simp[jJ]at hx
  |mp=>simp[jJ]at hx
  |er=>simp[jJ]at hx
  |li=>simp[jJ]at hx
 |ptr id off c ar ak=>
  simp only[jJ]at hx
  split at hx
  ·rename_i t cs ah
   obtain⟨b,ad,rfl⟩:=ak t cs ah;refine⟨_,rfl,fun k=>.ptr id (off+k) _ ar fun bI cs' dX=>?_⟩
   obtain⟨b',ga,zh⟩:=ak bI cs' dX;rw[ad]at ga;simp only[Value.pointer.injEq,Option.some.injEq,Addr.mk.injEq,and_true]at ga;subst ga;exact⟨b,ad,by rw[addLit]⟩
  ·cases hx
 |c6 id i off c ar ak=>
  simp only[jJ]at hx
  split at hx
  ·rename_i z t n es ah
   obtain⟨b,l,hW,ad,rfl⟩:=ak z t n es ah;refine⟨_,rfl,fun k=>.c6 id i (off+k) _ ar fun iA bI cT dR dX=>?_⟩
   rw[ah]at dX;simp only[Option.some.injEq,ei.row.injEq]at dX;obtain⟨_,_,rfl,_⟩:=dX;exact⟨b,l,hW,ad,by rw[addLit,Nat.add_assoc]⟩
  ·cases hx
 |_=>simp[jJ]at hx
theorem Q0(t:TypeId)(x:Operand)(f:Nat)(ao:o.op= .fieldAddr t x f){k:Nat}(aj:sj P t f=some k)(ak:jJ s.heap (aM G s x)=true):cX P G o s (qQ k (aM G s x)):=
 fun _ a w β ro ag=>by
  obtain⟨c8,hc,dD⟩:=zg ak (ag.eval x);exact⟨_,by simp[execOp,ao,hc,QZ aj],dD k⟩
theorem Q1(x:Operand)(ao:o.op= .nilCheck x)(ak:jJ s.heap (aM G s x)=true):cX P G o s (aM G s x):=
 fun _ a w β ro ag=>by
  obtain⟨c8,hc,_⟩:=zg ak (ag.eval x);exact⟨_,by simp[execOp,ao,hc],hc ▸ ag.eval x⟩
end
end Go.aO
namespace Go.aO
open Go
def gQ(β:Nat→Value)(id:Nat)(v:Value):Nat→Value:=fun k=>if k=id then v else β k
theorem dT(β:Nat→Value)(id:Nat)(v:Value):gQ β id v id=v:=by simp[gQ]
theorem dc(β:Nat→Value){id k:Nat}(v:Value)(h:k≠id):gQ β id v k=β k:=by simp[gQ,h]
section
variable {E:Entry} {G:bd} {s:aU} {a:Act} {w w':World} {β:Nat→Value} {ro:Nat→Prop}
theorem kO.keep{w w':World}{ro ro':Nat→Prop}{σ e0:Heap}{β dN:Nat→Value}{N oz:Nat}{id:Nat}{o:ei}(h:kO w ro σ β N id o)
 (hw: ∀b,ro b→w'.heap[b]? =w.heap[b]?)(cl: ∀b,ro b→ro' b)(ou:N≤oz)(bY:w.heap.size≤w'.heap.size)(bh:dN id=β id)(gJ:o.live=true→∀b,b9 (β id)=some b→w'.heap[b]? =w.heap[b]?)
 (nw: ∀id t cs,aG e0 id=some (.box t cs)→dN id=β id∧∃t cs,aG σ id=some (.box t cs))
 (db: ∀id z t n es,aG e0 id=some (.row z t n es)→dN id=β id∧∃z t es,aG σ id=some (.row z t n es))
 (nx: ∀id bU,aG e0 id=some (.bT bU)→dN id=β id∧∃bU,aG σ id=some (.bT bU)):kO w' ro' e0 dN oz id o:=by
 cases h with
 |box t cs b arr aa ae au aW=>
  exact .box t cs b arr (bh.trans aa) ((gJ rfl b (by rw[aa];rfl)).trans ae) au fun j x af=>(aW j x af).keep hw cl ou nw db nx
 |row t n es xs aa ae au=>
  exact .row t n es xs (by rw[bh];exact aa.keep (fun b ad=>gJ rfl b ad) bY) ae fun j x af=>(au j x af).keep hw cl
 |gi t n es aa=>exact .gi t n es (by rw[bh];exact aa.keep hw cl)
 |bT bU b o aa ae au=>exact .bT bU b o (by rw[bh];exact aa) ((gJ rfl b aa).trans ae) (by rw[bh];exact bU.mono _ _ _ _ (fun x c h=>h.keep hw cl) au)
theorem df.new(h:df E G s a w β ro)(id:Nat)(bh:aG s.heap id=none)(ad:s.base≤id)(bR:s.next≤id)(o:ei)(val:Value)
 (oC:w'.os=w.os)(oD:w'.tape=w.tape)(kq:w'.output=w.output)(bY:w.heap.size≤w'.heap.size)(hw: ∀b,b<w.heap.size→w'.heap[b]? =w.heap[b]?)
 (gJ: ∀b,b9 val=some b→w.heap.size≤b)(_hlive:o.live=true)
 (dr:kO w' ro ((id,o)::s.heap) (gQ β id val) (id+1) id o):df E G {s with heap:=(id,o)::s.heap,next:=id+1} a w' (gQ β id val) ro:=by
 have cl: ∀b,ro b→w'.heap[b]? =w.heap[b]? :=fun b ag=>hw b (h.heap.lt b ag)
 have ah: ∀k,k≠id→aG ((id,o)::s.heap) k=aG s.heap k:=fun k aj=>by simp[aG,Ne.symm aj]
 have uc:aG ((id,o)::s.heap) id=some o:=by simp[aG]
 have Kc: ∀k p b,aG s.heap k=some p→p.live=true→b9 (β k)=some b→b<w.heap.size:=fun k p b aj ak bm=>(h.heap.dh k p aj).hG ak bm
 have key: ∀x c,bF w ro s.heap β s.next x c→bF w' ro ((id,o)::s.heap) (gQ β id val) (id+1) x c:=by
  intro x c hx
  induction hx with
  |aw x c hx=>exact .aw x c (hx.keep cl fun _ h=>h)
  |agg cs c ai _ a7=>exact .agg cs c ai a7
  |tuple cs c ai _ a7=>exact .tuple cs c ai a7
  |ptr k off c ar ak=>
   have aj:k≠id:=by omega
   exact .ptr k off c (by omega) fun t cs bz=>by rw[dc _ _ aj];rw[ah k aj]at bz;exact ak t cs bz
  |dC k off c ar ak=>
   have aj:k≠id:=by omega
   exact .dC k off c (by omega) fun t cs bz=>by rw[dc _ _ aj];rw[ah k aj]at bz;exact ak t cs bz
  |c6 k i off c ar ak=>
   have aj:k≠id:=by omega
   exact .c6 k i off c (by omega) fun z t n es bz=>by rw[dc _ _ aj];rw[ah k aj]at bz;exact ak z t n es bz
  |aR k c ar ak=>
   have aj:k≠id:=by omega
   exact .aR k c (by omega) fun z t n es bz=>by rw[dc _ _ aj];rw[ah k aj]at bz;exact ak z t n es bz
  |fn f p q c d aa ae _ _ ha hb=>exact .fn f p q c d aa ae ha hb
  |ref k c ar ak=>
   have aj:k≠id:=by omega
   exact .ref k c (by omega) fun bU bz=>by rw[dc _ _ aj];rw[ah k aj]at bz;exact ak bU bz
  |top c=>exact .top c
 refine⟨h.defers,h.size,fun i x hx=>key _ _ (h.slot i x hx),⟨fun k p aj=>?_,fun k bu p gb b aj eA ak gK bm et=>?_,fun b ag=>?_,fun b ag=>Nat.lt_of_lt_of_le (h.heap.lt b ag) bY⟩,
  h.h7.keep cl fun _ h=>h,?_,h.base⟩
 ·by_cases bH:k=id
  ·subst bH
   rw[uc]at aj;simp only[Option.some.injEq]at aj;subst aj;exact dr
  ·rw[ah k bH]at aj
   have gL:=h.heap.dh k p aj
   cases gL with
   |box t cs b arr aa ae au aW=>
    have hH:=Kc k _ b aj rfl (by rw[aa];rfl)
    exact .box t cs b arr (by rw[dc _ _ bH];exact aa) ((hw b hH).trans ae) au fun j x af=>key _ _ (aW j x af)
   |row t n es xs aa ae au=>
    exact .row t n es xs (by rw[dc _ _ bH];exact aa.keep (fun b ad=>hw b (aa.hG ad).1) bY) ae fun j x af=>(au j x af).keep cl fun _ h=>h
   |gi t n es aa=>exact .gi t n es (by rw[dc _ _ bH];exact aa.keep cl fun _ h=>h)
   |bT bU b o aa ae au=>exact .bT bU b o (by rw[dc _ _ bH];exact aa) ((hw b (Array.getElem?_eq_some_iff.1 ae).1).trans ae) (by rw[dc _ _ bH];exact bU.mono _ _ _ _ (fun x c h=>h.keep cl fun _ h=>h) au)
 ·by_cases bH:k=id
  ·by_cases gM:bu=id
   ·rw[bH,gM]
   ·subst bH
    rw[dT]at bm;rw[dc _ _ gM]at et;rw[ah bu gM]at eA
    have aa:=gJ b bm
    have ae:=Kc bu gb b eA gK et
    omega
  ·by_cases gM:bu=id
   ·subst gM
    rw[dT]at et;rw[dc _ _ bH]at bm;rw[ah k bH]at aj
    have aa:=gJ b et
    have ae:=Kc k p b aj ak bm
    omega
   ·rw[dc _ _ bH]at bm
    rw[dc _ _ gM]at et;rw[ah k bH]at aj;rw[ah bu gM]at eA;exact h.heap.inj k bu p gb b aj eA ak gK bm et
 ·rintro⟨k,p,aj,ak,bm⟩
  by_cases bH:k=id
  ·subst bH
   rw[dT]at bm
   have aa:=gJ b bm
   have ae:=h.heap.lt b ag
   omega
  ·rw[dc _ _ bH]at bm
   rw[ah k bH]at aj;exact h.heap.fk b ag ⟨k,p,aj,ak,bm⟩
 ·have t:=h.trans
  refine⟨oC.trans t.os,oD.trans t.tape,kq.trans t.output,Nat.le_trans t.size bY,fun b hH gk=>?_,t.jk,t.jZ,?_,fun k aj p bz=>?_,fun k p bz=>?_,Nat.le_trans h.base (Nat.le_trans ad (Nat.le_succ _))⟩
  ·rw[hw b (Nat.lt_of_lt_of_le hH t.size)]
   exact t.frame b hH gk
  ·rintro b ⟨k,p,aj,ak,bm⟩
   by_cases bH:k=id
   ·subst bH
    rw[dT]at bm;exact .inr (Nat.le_trans t.size (gJ b bm))
   ·rw[dc _ _ bH]at bm
    rw[ah k bH]at aj;exact t.gZ b ⟨k,p,aj,ak,bm⟩
  ·have bH:k≠id:=by have:=h.base;omega
   rw[ah k bH]at bz;rw[dc _ _ bH];exact t.dM k aj p bz
  ·by_cases bH:k=id
   ·subst bH;exact Nat.lt_succ_self _
   ·rw[ah k bH]at bz
    have:=t.new k p bz
    show k<id+1;omega
theorem df.write(h:df E G s a w β ro)(id:Nat)(o ct:ei)(bh:aG s.heap id=some o)(wi:o.live=true)(zjy:ct.live=true)
 (zi:(∃t cs cs',o= .box t cs∧ct= .box t cs')∨(∃t n es dR,o= .row false t n es∧ct= .row false t n dR)∨(∃bU ln,o= .bT bU∧ct= .bT ln))
 (oC:w'.os=w.os)(oD:w'.tape=w.tape)(kq:w'.output=w.output)(bY:w.heap.size≤w'.heap.size)(hw: ∀b,b<w.heap.size→b9 (β id)≠some b→w'.heap[b]? =w.heap[b]?)
 (dr:kO w' ro (eQ s.heap id ct) β s.next id ct):df E G {s with heap:=eQ s.heap id ct} a w' β ro:=by
 have cl: ∀b,ro b→w'.heap[b]? =w.heap[b]? :=fun b ag=>hw b (h.heap.lt b ag) fun ad=>h.heap.fk b ag ⟨id,o,bh,wi,ad⟩
 have ah:=wg s.heap id ct
 have own: ∀b,Own (eQ s.heap id ct) β b→Own s.heap β b:=by
  rintro b ⟨k,p,aj,ak,bm⟩
  rw[ah k]at aj
  by_cases bH:id=k
  ·subst bH;exact⟨id,o,bh,wi,bm⟩
  ·rw[if_neg bH]at aj;exact⟨k,p,aj,ak,bm⟩
 have nz: ∀k p b,aG s.heap k=some p→p.live=true→b9 (β k)=some b→b<w.heap.size:=fun k p b aj ak bm=>(h.heap.dh k p aj).hG ak bm
 have nw: ∀k t cs,aG (eQ s.heap id ct) k=some (.box t cs)→β k=β k∧∃t cs,aG s.heap k=some (.box t cs):=by
  intro k t cs aj;rw[ah k]at aj
  by_cases bH:id=k
  ·subst bH
   rw[if_pos rfl]at aj;simp only[Option.some.injEq]at aj
   rcases zi with⟨t1,aY,bW,rfl,rfl⟩|⟨t1,n,aE,bo,rfl,rfl⟩|⟨_,_,rfl,rfl⟩
   ·exact⟨rfl,t1,aY,bh⟩
   ·cases aj
   ·cases aj
  ·rw[if_neg bH]at aj;exact⟨rfl,t,cs,aj⟩
 have db: ∀k z t n es,aG (eQ s.heap id ct) k=some (.row z t n es)→β k=β k∧∃z t es,aG s.heap k=some (.row z t n es):=by
  intro k z t n es aj;rw[ah k]at aj
  by_cases bH:id=k
  ·subst bH
   rw[if_pos rfl]at aj;simp only[Option.some.injEq]at aj
   rcases zi with⟨t1,aY,bW,rfl,rfl⟩|⟨t1,gO,aE,bo,rfl,rfl⟩|⟨_,_,rfl,rfl⟩
   ·cases aj
   ·simp only[ei.row.injEq]at aj
    obtain⟨_,_,rfl,_⟩:=aj;exact⟨rfl,_,_,_,bh⟩
   ·cases aj
  ·rw[if_neg bH]at aj;exact⟨rfl,z,t,es,aj⟩
 have nx: ∀k bU,aG (eQ s.heap id ct) k=some (.bT bU)→β k=β k∧∃bU,aG s.heap k=some (.bT bU):=by
  intro k bU aj;rw[ah k]at aj
  by_cases bH:id=k
  ·subst bH
   rw[if_pos rfl]at aj;simp only[Option.some.injEq]at aj
   rcases zi with⟨t1,aY,bW,rfl,rfl⟩|⟨t1,gO,aE,bo,rfl,rfl⟩|⟨zc1,_,rfl,rfl⟩
   ·cases aj
   ·cases aj
   ·exact⟨rfl,zc1,bh⟩
  ·rw[if_neg bH]at aj;exact⟨rfl,bU,aj⟩
 refine⟨h.defers,h.size,fun i x hx=>(h.slot i x hx).keep cl (fun _ h=>h) (Nat.le_refl _) nw db nx,⟨fun k p aj=>?_,fun k bu p gb b aj eA ak gK bm et=>?_,fun b ag ad=>h.heap.fk b ag (own b ad),
  fun b ag=>Nat.lt_of_lt_of_le (h.heap.lt b ag) bY⟩,h.h7.keep cl fun _ h=>h,?_,h.base⟩
 ·rw[ah k]at aj
  by_cases bH:id=k
  ·subst bH
   rw[if_pos rfl]at aj;simp only[Option.some.injEq]at aj;subst aj;exact dr
  ·rw[if_neg bH]at aj
   refine(h.heap.dh k p aj).keep cl (fun _ h=>h) (Nat.le_refl _) bY rfl (fun ar b ad=>hw b (nz k p b aj ar ad) fun jK=>bH (h.heap.inj id k o p b bh aj wi ar jK ad)) nw db nx
 ·have aa: ∃q,aG s.heap k=some q∧q.live=true:=by
   rw[ah k]at aj
   by_cases bH:id=k
   ·subst bH;exact⟨o,bh,wi⟩
   ·rw[if_neg bH]at aj;exact⟨p,aj,ak⟩
  have ae: ∃q,aG s.heap bu=some q∧q.live=true:=by
   rw[ah bu]at eA
   by_cases bH:id=bu
   ·subst bH;exact⟨o,bh,wi⟩
   ·rw[if_neg bH]at eA;exact⟨gb,eA,gK⟩
  obtain⟨q,aN,qR⟩:=aa;obtain⟨q',ud,zj⟩:=ae;exact h.heap.inj k bu q q' b aN ud qR zj bm et
 ·have t:=h.trans
  refine⟨oC.trans t.os,oD.trans t.tape,kq.trans t.output,Nat.le_trans t.size bY,fun b hH gk=>?_,t.jk,t.jZ,fun b ad=>t.gZ b (own b ad),fun k aj p bz=>?_,fun k p bz=>?_,t.le⟩
  ·by_cases jK:b9 (β id)=some b
   ·rcases t.gZ b ⟨id,o,bh,wi,jK⟩with hc|hc
    ·exact absurd hc gk
    ·omega
   ·rw[hw b (Nat.lt_of_lt_of_le hH t.size) jK]
    exact t.frame b hH gk
  ·rw[ah k]at bz
   by_cases bH:id=k
   ·subst bH;exact t.dM id aj o bh
   ·rw[if_neg bH]at bz;exact t.dM k aj p bz
  ·rw[ah k]at bz
   by_cases bH:id=k
   ·subst bH;exact t.new id o bh
   ·rw[if_neg bH]at bz;exact t.new k p bz
end
end Go.aO
namespace Go.aO
open Go
def c1:aF→List aF
 | .agg cs=>cs
 |x=>[x]
section
variable {w:World} {ro:Nat→Prop} {σ:Heap} {β:Nat→Value} {N:Nat}
def eF(σ:Heap):aF→Bool
 | .aw _| .fn _ _ _=>true
 | .ptr id _=>match aG σ id with
  |some (.box _ _)=>true
  |_=>false
 | .aR id=>match aG σ id with
  |some (.row _ _ _ _)=>true
  |_=>false
 | .c6 id _ _=>match aG σ id with
  |some (.row _ _ _ _)=>true
  |_=>false
 |_=>false
theorem C4(bk:gY w ro σ β N){x:aF}{c:Value}(hx:eF σ x=true)(h:bF w ro σ β N x c):c.oneCell'=true:=by
 cases h with
 |aw x c h=>exact h.one
 |agg=>simp[eF]at hx
 |tuple=>simp[eF]at hx
 |ptr id off c ar ak=>
  simp only[eF]at hx
  split at hx
  ·rename_i t cs ah
   obtain⟨b,_,rfl⟩:=ak t cs ah;rfl
  ·cases hx
 |c6 id i off c ar ak=>
  simp only[eF]at hx
  split at hx
  ·rename_i z t n es ah
   obtain⟨b,l,hW,_,rfl⟩:=ak z t n es ah;rfl
  ·cases hx
 |aR id c ar ak=>
  simp only[eF]at hx
  split at hx
  ·rename_i z t n es ah
   rw[ak z t n es ah]
   have:=bk.dh id _ ah
   cases this with
   |row _ _ _ xs aa=>
    rcases aa.2 with⟨⟨_,ax,_⟩,_⟩|⟨g,cap,cur,ax,_⟩<;>rw[ax]<;>rfl
   |gi _ _ _ aa=>exact aa.one
  ·cases hx
 |fn=>rfl
 |ref=>simp[eF]at hx
 |dC=>simp[eF]at hx
 |top=>simp[eF]at hx
theorem bF.c1{x:aF}{c:Value}(h:bF w ro σ β N x c)(ec:(c1 x).all (eF σ)=true)(bk:gY w ro σ β N):
 c.cells.size=(c1 x).length∧(∀j y,(Go.aO.c1 x)[j]? =some y→bF w ro σ β N y (c.cells.getD j undef))∧∀u∈c.cells.toList,u.oneCell'=true:=by
 cases h with
 |agg cs c ai hc=>
  refine⟨ai,hc,fun u hu=>?_⟩
  obtain⟨j,af,rfl⟩:=List.mem_iff_getElem.1 hu
  have Q2:j<cs.length:=by simpa[Value.cells,ai]using af
  have aa:=hc j cs[j] (List.getElem?_eq_getElem Q2)
  have ae:eF σ cs[j]=true:=by
   simp only[Go.aO.c1,List.all_eq_true]at ec;exact ec _ (List.getElem_mem Q2)
  have au:=C4 bk ae aa
  have zk:j<c.size:=by omega
  simpa[Value.cells,zk]using au
 |aw x c hx=>
  have aa:c.cells= #[c]:=by have:=hx.one;cases c<;>simp_all[Value.cells,Value.oneCell']
  refine⟨by simp[aa,Go.aO.c1],fun j y af=>?_,fun u hu=>?_⟩
  ·cases j with
   |zero=>simp[Go.aO.c1]at af;subst af;simpa[aa]using bF.aw x c hx
   |succ j=>simp[Go.aO.c1]at af
  ·simp[aa]at hu;subst hu;exact hx.one
 |tuple cs c ai hc=>simp[Go.aO.c1,eF]at ec
 |top c=>simp[Go.aO.c1,eF]at ec
 |ref id c=>simp[Go.aO.c1,eF]at ec
 |dC id n c=>simp[Go.aO.c1,eF]at ec
 |ptr id off c ar ak=>
  have hx:eF σ (.ptr id off)=true:=by simpa[Go.aO.c1]using ec
  have oE:=C4 bk hx (bF.ptr (w:=w) (ro:=ro) id off c ar ak)
  have aa:c.cells= #[c]:=by cases c<;>simp_all[Value.cells,Value.oneCell']
  refine⟨by simp[aa,Go.aO.c1],fun j y af=>?_,fun u hu=>?_⟩
  ·cases j with
   |zero=>simp[Go.aO.c1]at af;subst af;simpa[aa]using bF.ptr id off c ar ak
   |succ j=>simp[Go.aO.c1]at af
  ·simp[aa]at hu;subst hu;exact oE
 |c6 id i off c ar ak=>
  have hx:eF σ (.c6 id i off)=true:=by simpa[Go.aO.c1]using ec
  have oE:=C4 bk hx (bF.c6 (w:=w) (ro:=ro) id i off c ar ak)
  have aa:c.cells= #[c]:=by cases c<;>simp_all[Value.cells,Value.oneCell']
  refine⟨by simp[aa,Go.aO.c1],fun j y af=>?_,fun u hu=>?_⟩
  ·cases j with
   |zero=>simp[Go.aO.c1]at af;subst af;simpa[aa]using bF.c6 id i off c ar ak
   |succ j=>simp[Go.aO.c1]at af
  ·simp[aa]at hu;subst hu;exact oE
 |aR id c ar ak=>
  have hx:eF σ (.aR id)=true:=by simpa[Go.aO.c1]using ec
  have oE:=C4 bk hx (bF.aR (w:=w) (ro:=ro) id c ar ak)
  have aa:c.cells= #[c]:=by cases c<;>simp_all[Value.cells,Value.oneCell']
  refine⟨by simp[aa,Go.aO.c1],fun j y af=>?_,fun u hu=>?_⟩
  ·cases j with
   |zero=>simp[Go.aO.c1]at af;subst af;simpa[aa]using bF.aR id c ar ak
   |succ j=>simp[Go.aO.c1]at af
  ·simp[aa]at hu;subst hu;exact oE
 |fn f p q c d aa ae au aW=>
  refine⟨by simp[Value.cells,Go.aO.c1],fun j y af=>?_,fun u hu=>?_⟩
  ·cases j with
   |zero=>simp[Go.aO.c1]at af;subst af;simpa[Value.cells]using bF.fn f p q c d aa ae au aW
   |succ j=>simp[Go.aO.c1]at af
  ·simp[Value.cells]at hu;subst hu;rfl
end
section
variable {P:Program} {G:bd} {o:Oper} {s:aU}
theorem Q3(t:TypeId)(c:Value)(w:World):(newVar t c).run P w= .ok ⟨w.heap.size,0,none⟩ (w.alloc (.cells c.cells t)):=by
 simp[newVar,newRow]
theorem l1.Q4{t:TypeId}{cs:List aF}(h: ∀E a w β ro,df E G s a w β ro→∃arr:Array Value,(execOp a.eval o).run P w= .ok (.value (.pointer (some ⟨w.heap.size,0,none⟩))) (w.alloc (.cells arr t))∧
      arr.size=cs.length∧∀j x,cs[j]? =some x→bF w ro s.heap β s.next x (arr.getD j undef))(ad:s.base≤s.next):
    l1 P G o s ({s with heap:=(s.next,.box t cs)::s.heap,next:=s.next+1}.put o.dst (.ptr s.next 0)):=by
  intro E a w ⟨β,ro,ag⟩ K Q hK;obtain⟨arr,cy,bY,e1⟩:=h E a w β ro ag;unfold Oper.wp;rw[cy]
  have jl:aG s.heap s.next=none:=by
    cases ah:aG s.heap s.next with
    |none=>rfl
    |some p=>have:=ag.trans.new _ _ ah;omega
  have fh:df E G {s with heap:=(s.next,.box t cs)::s.heap,next:=s.next+1} a (w.alloc (.cells arr t)) (gQ β s.next (.pointer (some ⟨w.heap.size,0,none⟩))) ro:=by
    refine ag.new s.next jl ad (Nat.le_refl _) _ _ rfl rfl rfl (by simp) (fun b ad=>Go.RowKit.Below.heap_alloc w _ b ad) (fun b ad=>by simp[b9]at ad;omega) rfl ?_
    refine .box t cs w.heap.size arr (dT _ _ _) (heap_alloc_new w _) bY fun j x af=>?_
    have hx:=e1 j x af
    have cl: ∀b,ro b→(w.alloc (.cells arr t)).heap[b]? =w.heap[b]? :=fun b ad=>Go.RowKit.Below.heap_alloc w _ b (ag.heap.lt b ad)
    clear af e1;generalize arr.getD j undef=c at hx
    induction hx with
    |aw x c hx=>exact .aw x c (hx.keep cl fun _ h=>h)
    |agg cs c ai _ a7=>exact .agg cs c ai a7
    |tuple cs c ai _ a7=>exact .tuple cs c ai a7
    |ptr k off c ar ak=>
      have aj:k≠s.next:=by omega
      exact .ptr k off c (by omega) fun t cs bz=>by rw[dc _ _ aj];simp only[aG,if_neg (Ne.symm aj)]at bz;exact ak t cs bz
    |dC k off c ar ak=>
      have aj:k≠s.next:=by omega
      exact .dC k off c (by omega) fun t cs bz=>by rw[dc _ _ aj];simp only[aG,if_neg (Ne.symm aj)]at bz;exact ak t cs bz
    |c6 k i off c ar ak=>
      have aj:k≠s.next:=by omega
      exact .c6 k i off c (by omega) fun z t n es bz=>by rw[dc _ _ aj];simp only[aG,if_neg (Ne.symm aj)]at bz;exact ak z t n es bz
    |aR k c ar ak=>
      have aj:k≠s.next:=by omega
      exact .aR k c (by omega) fun z t n es bz=>by rw[dc _ _ aj];simp only[aG,if_neg (Ne.symm aj)]at bz;exact ak z t n es bz
    |fn f p q c d aa ae _ _ ha hb=>exact .fn f p q c d aa ae ha hb
    |ref k c ar ak=>
      have aj:k≠s.next:=by omega
      exact .ref k c (by omega) fun bU bz=>by rw[dc _ _ aj];simp only[aG,if_neg (Ne.symm aj)]at bz;exact ak bU bz
    |top c=>exact .top c
  refine hK _ _ ⟨_,ro,fh.put o.dst _ _ ?_⟩ fun b ad=>Go.RowKit.Below.heap_alloc w _ b ad
  refine .ptr _ _ _ (Nat.lt_succ_self _) fun bI cs' ah=>⟨w.heap.size,dT _ _ _,rfl⟩
theorem Q5(t:TypeId)(x:Operand)(ao:o.op= .box t x)(ad:s.base≤s.next)(ec:(c1 (aM G s x)).all (eF s.heap)=true):
 l1 P G o s ({s with heap:=(s.next,.box t (c1 (aM G s x)))::s.heap,next:=s.next+1}.put o.dst (.ptr s.next 0)):=
 .Q4 (fun _ a w β ro ag=>by
  obtain⟨aa,ae,_⟩:=(ag.eval x).c1 ec ag.heap
  exact⟨(a.eval x).cells,by simp[execOp,ao,Instr.box,Q3],aa,ae⟩) ad
theorem Q6(t:TypeId)(x:Operand)(ao:o.op= .box t x)(ad:s.base≤s.next)(ec:(c1 (aM G s x)).all (eF s.heap)=true):
 dS P G o s ({s with heap:=(s.next,.box t (c1 (aM G s x)))::s.heap,next:=s.next+1}.put o.dst (.ptr s.next 0)):=(Q5 t x ao ad ec).op
def zeroCells(P:Program)(t:TypeId):Option (List Value):=
 match P.info? t with
 |some i=>match i.zero with
  |some z=>some z.cells.toList
  |none=>none
 |none=>none
theorem zl{t:TypeId}{zs:List Value}(h:zeroCells P t=some zs)(w:World): ∃z:Value,(zeroValue t).run P w= .ok z w∧z.cells=zs.toArray∧∃i,P.info? t=some i∧i.zero=some z:=by
 unfold zeroCells at h
 cases hi:P.info? t with
 |none=>simp[hi]at h
 |some i=>
  cases aS:i.zero with
  |none=>simp[hi,aS]at h
  |some z=>
   simp[hi,aS]at h;exact⟨z,by simp[zeroValue,typeInfo,hi,aS],by rw[←h],i,rfl,aS⟩
theorem Q7(t:TypeId)(ao:o.op= .alloc t)(ad:s.base≤s.next){zs:List Value}(aS:zeroCells P t=some zs)(ec:zs.all Value.oneCell'=true):
 l1 P G o s ({s with heap:=(s.next,.box t (zs.map fun z=>.aw (.v z)))::s.heap,next:=s.next+1}.put o.dst (.ptr s.next 0)):=
 .Q4 (fun _ a w β ro ag=>by
  obtain⟨z,cy,oF,_⟩:=zl aS w;refine⟨z.cells,by simp[execOp,ao,Instr.alloc,cy,Q3],by simp[oF],fun j x af=>?_⟩
  rw[List.getElem?_map]at af
  cases qS:zs[j]? with
  |none=>simp[qS]at af
  |some y=>
   simp[qS]at af;subst af
   have:y.oneCell'=true:=by
    rw[List.all_eq_true]at ec;exact ec y (List.mem_of_getElem? qS)
   rw[oF]
   simpa[qS]using bF.aw (w:=w) (ro:=ro) (σ:=s.heap) (β:=β) (N:=s.next) _ _ (.v y this)) ad
theorem Q8(t:TypeId)(ao:o.op= .alloc t)(ad:s.base≤s.next){zs:List Value}(aS:zeroCells P t=some zs)(ec:zs.all Value.oneCell'=true):
 dS P G o s ({s with heap:=(s.next,.box t (zs.map fun z=>.aw (.v z)))::s.heap,next:=s.next+1}.put o.dst (.ptr s.next 0)):=(Q7 t ao ad aS ec).op
end
end Go.aO
namespace Go.aO
open Go
section
variable {P:Program} {G:bd} {o:Oper} {s:aU}
theorem Kd{w w':World}{ro:Nat→Prop}{σ:Heap}{β:Nat→Value}{N id:Nat}{t:TypeId}{cs cs':List aF}(bh:aG σ id=some (.box t cs)){x:aF}{c:Value}
 (h:bF w ro σ β N x c)(cl: ∀b,ro b→w'.heap[b]? =w.heap[b]?):bF w' ro (eQ σ id (.box t cs')) β N x c:=by
 refine h.keep cl (fun _ h=>h) (Nat.le_refl _) (fun k t1 aY aj=>?_) (fun k z t1 n es aj=>?_) (fun k bU aj=>?_)
 ·rw[wg]at aj
  by_cases bH:id=k
  ·subst bH;exact⟨rfl,t,cs,bh⟩
  ·rw[if_neg bH]at aj;exact⟨rfl,t1,aY,aj⟩
 ·rw[wg]at aj
  by_cases bH:id=k
  ·subst bH;rw[if_pos rfl]at aj;cases aj
  ·rw[if_neg bH]at aj;exact⟨rfl,z,t1,es,aj⟩
 ·rw[wg]at aj
  by_cases bH:id=k
  ·subst bH;rw[if_pos rfl]at aj;cases aj
  ·rw[if_neg bH]at aj;exact⟨rfl,bU,aj⟩
def ej{α:Type}(cs:List α)(off:Nat)(vs:List α):List α:=cs.take off++(vs++cs.drop (off+vs.length))
theorem pQ{α:Type}(cs:List α)(off:Nat)(vs:List α)(h:off+vs.length≤cs.length):(ej cs off vs).length=cs.length:=by
 simp[ej];omega
theorem Ke{α β:Type}(R:α→β→Prop)(d:β){cs vs:List α}{xs ys:List β}{off:Nat}(ar:cs.length≤xs.length)(ax:vs.length=ys.length)(zm:off+vs.length≤cs.length)
 (aa: ∀j x,cs[j]? =some x→R x (xs.getD j d))(ae: ∀j x,vs[j]? =some x→R x (ys.getD j d)): ∀j x,(ej cs off vs)[j]? =some x→R x ((ej xs off ys).getD j d):=by
 intro j x af
 unfold ej at*
 by_cases ba:j<off
 ·rw[List.getElem?_append_left (by simp;omega),List.getElem?_take,if_pos ba]at af
  have:=aa j x af
  rw[List.getD,List.getElem?_append_left (by simp;omega),List.getElem?_take,if_pos ba]
  exact this
 ·have aE:(cs.take off).length=off:=by simp;omega
  have bo:(xs.take off).length=off:=by simp;omega
  rw[List.getElem?_append_right (by omega),aE]at af
  rw[List.getD,List.getElem?_append_right (by omega),bo]
  by_cases ad:j-off<vs.length
  ·rw[List.getElem?_append_left ad]at af
   rw[List.getElem?_append_left (by omega)]
   exact ae _ _ af
  ·rw[List.getElem?_append_right (by omega),List.getElem?_drop]at af
   rw[List.getElem?_append_right (by omega),List.getElem?_drop]
   have cv:off+vs.length+(j-off-vs.length)=j:=by omega
   have eC:off+ys.length+(j-off-ys.length)=j:=by omega
   rw[cv]at af;rw[eC];exact aa j x af
theorem Q9(t:TypeId)(b off:Nat)(c:Value)(w:World)(bt:TypeId)(arr:Array Value)(ah:w.heap[b]? =some (.cells arr bt (0,0)))(bY:(P.info? t).map (·.size)=some c.cells.size)
 (pR:off+c.cells.size≤arr.size)(aa: ∀u∈c.cells.toList,u.oneCell'=true):
 (Instr.storeAt t (.pointer (some ⟨b,off,none⟩)) c).run P w= .ok () (w.setRow b (ej arr.toList off c.cells.toList).toArray):=by
 have dH:=run_storeCells_at P b off bt c.cells.toList 0 arr w ah (by simpa using pR) aa
 cases hi:P.info? t with
 |none=>simp[hi]at bY
 |some i=>
  have ai:i.size=c.cells.size:=by simpa[hi]using bY
  simp only[Nat.add_zero,List.append_assoc]at dH;simp only[Instr.storeAt,Instr.sureAddr,storeVar,sizeOf,typeInfo,Sem.run_bind,Sem.run_pure,Result.andThen_ok,ej];simp[hi,ai,dH]
theorem Ra(t:TypeId)(p x:Operand)(ao:o.op= .store t p x){id off:Nat}(ak:aM G s p= .ptr id off){bt:TypeId}{cs:List aF}(bh:aG s.heap id=some (.box bt cs))
 {vs:List aF}(ax:c1 (aM G s x)=vs)(ec:vs.all (eF s.heap)=true)(bY:(P.info? t).map (·.size)=some vs.length)(pR:off+vs.length≤cs.length):
 dS P G o s ({s with heap:=eQ s.heap id (.box bt (ej cs off vs))}.put o.dst .top):=by
 intro E a w ⟨β,ro,ag⟩ K Q hK
 subst ax
 obtain⟨aa,ae,au⟩:=(ag.eval x).c1 ec ag.heap
 have qT:=ag.eval p
 rw[ak]at qT
 have dr:=ag.heap.dh id _ bh
 cases dr with
 |box _ _ b arr ad ah zc2 e1=>
  generalize Kf:a.eval p=gq at qT
  cases qT with
  |ptr _ _ c ar hc=>
   obtain⟨b',ga,rfl⟩:=hc _ _ bh;rw[ad]at ga;simp only[Value.pointer.injEq,Option.some.injEq,Addr.mk.injEq,and_true]at ga;subst ga
   have cy:=Q9 (P:=P) t b off (a.eval x) w bt arr ah (by rw[bY,aa]) (by omega) au
   unfold Oper.wp;simp only[execOp,ao,Kf,Sem.run_bind,cy,Result.andThen_ok,Sem.run_pure]
   have jm: ∀k,k<w.heap.size→b9 (β id)≠some k→(w.setRow b (ej arr.toList off (a.eval x).cells.toList).toArray).heap[k]? =w.heap[k]? :=fun k _ aj=>
    setRow_other w b k _ (fun e=>aj (by rw[ad,e];rfl))
   have cl: ∀k,ro k→(w.setRow b (ej arr.toList off (a.eval x).cells.toList).toArray).heap[k]? =w.heap[k]? :=fun k aj=>
    jm k (ag.heap.lt k aj) fun bm=>ag.heap.fk k aj ⟨id,_,bh,rfl,bm⟩
   refine hK _ _ ⟨β,ro,(ag.write (w':=w.setRow b (ej arr.toList off (a.eval x).cells.toList).toArray) id _ (.box bt (ej cs off (c1 (aM G s x)))) bh rfl rfl (.inl ⟨_,_,_,rfl,rfl⟩) rfl rfl rfl (by simp) jm ?_).put o.dst _ _ (.top _)⟩
   refine .box bt _ b _ ad (setRow_heap w b arr _ bt (0,0) ah) ?_ fun j y af=>?_
   ·rw[List.size_toArray,pQ _ _ _ (by simp only[Array.length_toList];omega),pQ _ _ _ pR,Array.length_toList,zc2]
   ·have ai:=Ke (bF w ro s.heap β s.next) undef (cs:=cs) (vs:=c1 (aM G s x)) (xs:=arr.toList) (ys:=(a.eval x).cells.toList) (off:=off) (by simp only[Array.length_toList];omega) (by simp only[Array.length_toList];omega) pR
     (fun j x af=>by have:=e1 j x af;simpa[Array.getD_eq_getD_getElem?,List.getD]using this)
     (fun j x af=>by have:=ae j x af;simpa[Array.getD_eq_getD_getElem?,List.getD]using this) j y af
    have e2:=Kd (cs':=ej cs off (c1 (aM G s x))) bh ai cl
    simpa[Array.getD_eq_getD_getElem?,List.getD]using e2
def iR:List aF→Option (List bb)
 |[]=>some []
 | .aw x::r=>match iR r with
  |some l=>some (x::l)
  |none=>none
 |_::_=>none
theorem C5: ∀{vs:List aF} {l:List bb},iR vs=some l→vs=l.map .aw
 |[],l,h=>by simp[iR]at h;subst h;rfl
 | .aw x::r,l,h=>by
  simp only[iR]at h
  cases ag:iR r with
  |none=>simp[ag]at h
  |some gz=>
   simp[ag]at h;subst h;simp[C5 ag]
 | .agg _::_,_,h=>by simp[iR]at h
 | .tuple _::_,_,h=>by simp[iR]at h
 | .ptr _ _::_,_,h=>by simp[iR]at h
 | .dC _ _::_,_,h=>by simp[iR]at h
 | .c6 _ _ _::_,_,h=>by simp[iR]at h
 | .aR _::_,_,h=>by simp[iR]at h
 | .fn _ _ _::_,_,h=>by simp[iR]at h
 | .ref _::_,_,h=>by simp[iR]at h
 | .top::_,_,h=>by simp[iR]at h
theorem Rb{α:Type}{n:Nat}: ∀{es:List (List α)},(∀e∈es,e.length=n)→∀{i:Nat} {e aB:List α},es[i]? =some e→aB.length=n→(es.set i aB).flatten=es.flatten.take (i*n)++(aB++es.flatten.drop (i*n+n))
 |[],_,i,e,aB,h,_=>by simp at h
 |x::r,hn,i,e,aB,h,he=>by
  have hx:x.length=n:=hn x (by simp)
  cases i with
  |zero=>simp[hx]
  |succ i=>
   simp at h
   have a7:=Rb (es:=r) (fun e he=>hn e (by simp[he])) h he
   simp only[List.set_cons_succ,List.flatten_cons,a7]
   have aE:(i+1)*n=x.length+i*n:=by rw[Nat.succ_mul];omega
   have bo:(i+1)*n+n=x.length+(i*n+n):=by rw[Nat.succ_mul];omega
   have cv:x.length+(i*n+n)-x.length=i*n+n:=by omega
   have eC:x.length+i*n-x.length=i*n:=by omega
   rw[bo,aE,List.take_append,List.drop_append,cv,eC,List.take_of_length_le (l:=x) (by omega),List.drop_of_length_le (l:=x) (by omega)]
   simp
theorem zc3{α:Type}(l:List α)(p n k:Nat)(vs:List α)(e:List α)(he:e.length=n)(ar: ∀j,j<n→l[p+j]? =e[j]?)(aj:k+vs.length≤n)(ak:p+n≤l.length):
 ej l (p+k) vs=l.take p++(ej e k vs++l.drop (p+n)):=by
 apply List.ext_getElem?
 intro j
 have ai:(ej e k vs).length=n:=by rw[pQ _ _ _ (by omega),he]
 unfold ej at*
 by_cases aa:j<p
 ·rw[List.getElem?_append_left (by simp;omega),List.getElem?_take,if_pos (by omega),List.getElem?_append_left (by simp;omega),List.getElem?_take,if_pos aa]
 ·have aE:(l.take p).length=p:=by simp;omega
  have bo:(l.take (p+k)).length=p+k:=by simp;omega
  rw[List.getElem?_append_right (l₁:=l.take p) (by omega),aE]
  by_cases ae:j<p+k
  ·rw[List.getElem?_append_left (by omega),List.getElem?_take,if_pos ae,List.getElem?_append_left (by omega),List.getElem?_append_left (by simp;omega),List.getElem?_take,if_pos (by omega),←ar _ (by omega)]
   congr 1;omega
  ·rw[List.getElem?_append_right (by omega),bo]
   have cv:(e.take k).length=k:=by simp;omega
   by_cases au:j<p+k+vs.length
   ·rw[List.getElem?_append_left (by omega),List.getElem?_append_left (by omega),List.getElem?_append_right (by omega),cv,List.getElem?_append_left (by omega)]
    congr 1;omega
   ·rw[List.getElem?_append_right (by omega),List.getElem?_drop]
    by_cases aW:j<p+n
    ·rw[List.getElem?_append_left (by omega),List.getElem?_append_right (by omega),cv,List.getElem?_append_right (by omega),List.getElem?_drop,←ar _ (by omega)]
     congr 1;omega
    ·rw[List.getElem?_append_right (by omega),ai,List.getElem?_drop]
     congr 1;omega
theorem zc4{α:Type}(l:List α)(off m:Nat)(ys:List α)(h:off+ys.length≤m)(hm:m≤l.length):(ej l off ys).take m=ej (l.take m) off ys:=by
 have aE:min m off=off:=by omega
 have bo:min off m=off:=by omega
 have cv:min off l.length=off:=by omega
 have eC:List.take (m-off) ys=ys:=List.take_of_length_le (by omega)
 have oa:m-off-ys.length=m-(off+ys.length):=by omega
 simp only[ej,List.take_append,List.take_take,List.length_take,List.drop_take,aE,bo,cv,eC,oa]
theorem Rc(t:TypeId)(p x:Operand)(ao:o.op= .store t p x){id i off:Nat}(ak:aM G s p= .c6 id i off){bt:TypeId}{n:Nat}{es:List (List bb)}(bh:aG s.heap id=some (.row false bt n es))
 {e:List bb}(mK:es[i]? =some e){vs:List bb}(ax:iR (c1 (aM G s x))=some vs)(bY:(P.info? t).map (·.size)=some vs.length)(pR:off+vs.length≤n):
 dS P G o s ({s with heap:=eQ s.heap id (.row false bt n (es.set i (ej e off vs)))}.put o.dst .top):=by
 intro E a w ⟨β,ro,ag⟩ K Q hK
 have Re:=C5 ax
 have ec:(c1 (aM G s x)).all (eF s.heap)=true:=by rw[Re];simp[List.all_eq_true,eF]
 obtain⟨aa,ae,au⟩:=(ag.eval x).c1 ec ag.heap
 rw[Re]at aa ae
 rw[List.length_map]at aa
 have qT:=ag.eval p
 rw[ak]at qT
 have dr:=ag.heap.dh id _ bh
 cases dr with
 |row _ _ _ xs hv hn e1=>
  generalize Kf:a.eval p=gq at qT
  cases qT with
  |c6 _ _ _ c ar hc=>
   obtain⟨b,l,hW,ad,rfl⟩:=hc _ _ _ _ bh
   have zjz:=hv
   rw[ad]at hv;obtain⟨C2,oB⟩:=hv
   rcases oB with⟨⟨_,h,_⟩,aS⟩|⟨g,cap,cur,Rf,Rg,ah,hle,h9,dL,lp⟩
   ·have:=(List.getElem?_eq_some_iff.1 mK).1;omega
   ·simp only[Value.slice.injEq,Option.some.injEq,Addr.mk.injEq,and_true]at Rf
    obtain⟨rfl,rfl,rfl⟩:=Rf
    have ny:e.length=n:=hn e (List.mem_of_getElem? mK)
    have zc5:i<es.length:=(List.getElem?_eq_some_iff.1 mK).1
    have kH:i*n+n≤es.length*n:=by rw[←Nat.succ_mul];exact Nat.mul_le_mul_right n zc5
    have zjA:es.length*n≤hW*n:=Nat.mul_le_mul_right n hle
    have cy:=Q9 (P:=P) t b (i*n+off) (a.eval x) w bt cur ah (by rw[bY,aa]) (by omega) au
    unfold Oper.wp;simp only[execOp,ao,Kf,Sem.run_bind,cy,Result.andThen_ok,Sem.run_pure]
    have jm: ∀k,k<w.heap.size→b9 (β id)≠some k→(w.setRow b (ej cur.toList (i*n+off) (a.eval x).cells.toList).toArray).heap[k]? =w.heap[k]? :=fun k _ aj=>
     setRow_other w b k _ (fun e=>aj (by rw[ad,e];simp[b9,Nat.ne_of_gt Rg]))
    have cl: ∀k,ro k→(w.setRow b (ej cur.toList (i*n+off) (a.eval x).cells.toList).toArray).heap[k]? =w.heap[k]? :=fun k aj=>
     jm k (ag.heap.lt k aj) fun bm=>ag.heap.fk k aj ⟨id,_,bh,rfl,bm⟩
    have pS:(ej e off vs).length=n:=by rw[pQ _ _ _ (by omega),ny]
    refine hK _ _ ⟨β,ro,(ag.write (w':=w.setRow b (ej cur.toList (i*n+off) (a.eval x).cells.toList).toArray) id _ (.row false bt n (es.set i (ej e off vs))) bh rfl rfl (.inr (.inl ⟨_,_,_,_,rfl,rfl⟩)) rfl rfl rfl (by simp) jm ?_).put o.dst _ _ (.top _)⟩
    have jn:(a.eval x).cells.toList.length=vs.length:=by simpa using aa
    refine .row bt n _ (ej xs (i*n+off) (a.eval x).cells.toList) ?_ (fun aB iM=>?_) (fun j y af=>?_)
    ·rw[ad,List.length_set]
     refine⟨by rw[pQ _ _ _ (by omega)];exact C2,.inr ⟨b,hW,_,rfl,Rg,setRow_heap w b cur _ bt (0,0) ah,hle,h9,?_,?_⟩⟩
     ·rw[List.size_toArray,pQ _ _ _ (by simp;omega)];simpa using dL
     ·show List.take (es.length*n) (ej cur.toList (i*n+off) (a.eval x).cells.toList)=_
      rw[zc4 _ _ _ _ (by omega) (by simp;omega),lp]
    ·rcases List.mem_or_eq_of_mem_set iM with h|h
     ·exact hn aB h
     ·rw[h];exact pS
    ·rw[Rb hn mK pS,←zc3 es.flatten (i*n) n off vs e ny (fun j af=>qP hn mK j af) pR (by rw[j0 hn];exact kH)]at af
     have ai:=Ke (cZ w ro) undef (cs:=es.flatten) (vs:=vs) (xs:=xs) (ys:=(a.eval x).cells.toList) (off:=i*n+off) (by rw[j0 hn];omega) (by omega) (by rw[j0 hn];omega)
      (fun j x af=>e1 j x af)
      (fun j y af=>by
       have:=ae j (.aw y) (by simp[af])
       cases this with
       |aw _ _ h=>simpa[Array.getD_eq_getD_getElem?,List.getD]using h) j y af
     exact ai.keep cl fun _ h=>h
end
end Go.aO
namespace Go.aO
open Go
def cW(a b:ByteArray):Bool:=a.data.toList==b.data.toList
theorem tk(a b:ByteArray):cW a b=decide (a=b):=by
 unfold cW
 obtain⟨⟨x⟩⟩:=a
 obtain⟨⟨y⟩⟩:=b
 rw[Bool.eq_iff_iff]
 simp
theorem Rh(a b:ByteArray):(a.toList==b.toList)=cW a b:=by rw[ByteArray.toList_eq,ByteArray.toList_eq];rfl
@[simp] theorem zjB{a b:ByteArray}:cW a b=true↔a=b:=by rw[tk];simp
@[simp] theorem zjC{a b:ByteArray}:cW a b=false↔a≠b:=by rw[tk];simp
@[simp] theorem zjD(a:ByteArray):cW a a=true:=by simp
def qU(a b:ByteArray):Bool:=Op.bytesLess a.data.toList b.data.toList
theorem zc6(a b:ByteArray):Op.bytesLess a.toList b.toList=qU a b:=by rw[ByteArray.toList_eq,ByteArray.toList_eq];rfl
def C6(op:BinOp)(a b:Int):Option Value:=
 match op with
 | .eql=>some (.bool (a==b))
 | .neq=>some (.bool (a != b))
 | .lss=>some (.bool (decide (a<b)))
 | .leq=>some (.bool (decide (a≤b)))
 | .gtr=>some (.bool (decide (a>b)))
 | .geq=>some (.bool (decide (a≥b)))
 |_=>none
def j1(op:BinOp):Value→Value→Option Value
 | .int k a,.int bu b=>
  match op with
  | .shl=>if b<0 then none else some (.int k (k.wrap (a*2^(min b.toNat k.bits))))
  | .shr=>if b<0 then none else some (.int k (a.fdiv (2^(min b.toNat k.bits))))
  |op=>if k=bu then match op with
   | .add=>some (.int k (k.wrap (a+b)))
   | .sub=>some (.int k (k.wrap (a-b)))
   | .mul=>some (.int k (k.wrap (a*b)))
   | .quo=>if b=0 then none else some (.int k (k.wrap (a.tdiv b)))
   | .rem=>if b=0 then none else some (.int k (a.tmod b))
   |op=>C6 op a b
   else none
 | .string a,.string b=>
  match op with
  | .add=>if((a.size+b.size:Nat):Int)>IntKind.i64.max then none else some (.string (a++b))
  | .eql=>some (.bool (cW a b))
  | .neq=>some (.bool (!cW a b))
  | .lss=>some (.bool (qU a b))
  | .leq=>some (.bool (qU a b||cW a b))
  | .gtr=>some (.bool (!(qU a b||cW a b)))
  | .geq=>some (.bool (!qU a b))
  |_=>none
 |_,_=>none
theorem zc7 {P : Program} {op : BinOp} {x y c : Value} (h : j1 op x y = some c) (t : TypeId) (p q : Operand) (w : World) :
    (eqGuard op t p q x y).run P w = .ok () w ∧ (binOp op t x y).run P w = .ok c w ∧ c.oneCell' = true := by
  cases x with
  | int k a =>
    cases y with
    | int bu b =>
      simp only [j1] at h; refine ⟨by rw [eqGuard_at_int]; rfl, ?_⟩
      cases op
      all_goals first
        | (simp only at h
           split at h
           · cases h
           · rename_i hn
             simp only [Option.some.injEq] at h; subst h; refine ⟨?_, rfl⟩
             simp [binOp, Op.shift, hn]; done)
        | (simp only at h
           split at h
           · rename_i aj
             subst aj
             first
               | (simp only [Option.some.injEq, C6] at h; subst h; exact ⟨by simp [binOp, Op.intArith, Op.intCmp], rfl⟩)
               | (split at h
                  · cases h
                  · rename_i aS
                    simp only [Option.some.injEq] at h; subst h
                    exact ⟨by simp [binOp, Op.intDiv, aS], rfl⟩)
               | (simp [C6] at h; done)
           · cases h)
    | _ => simp [j1] at h
  | string a =>
    cases y with
    | string b =>
      simp only [j1] at h; refine ⟨by rw [eqGuard_at_string]; rfl, ?_⟩
      cases op <;> simp only at h
      all_goals first
        | cases h; done
        | (split at h
           · cases h
           · rename_i hn
             simp only [Option.some.injEq] at h; subst h
             exact ⟨by simp only [binOp_string_add, Op.stringOp, hn, if_false] <;> rfl, rfl⟩)
        | (simp only [Option.some.injEq] at h; subst h; exact ⟨by simp only [binOp, Op.stringOp, Rh, zc6] <;> rfl, rfl⟩)
    | _ => simp [j1] at h
  | _ => simp [j1] at h
section
variable {P:Program} {G:bd} {o:Oper} {s:aU}
theorem bF.val{w:World}{ro:Nat→Prop}{σ:Heap}{β:Nat→Value}{N:Nat}{x c:Value}(h:bF w ro σ β N (.aw (.v x)) c):c=x:=by
 cases h with
 |aw _ _ h=>cases h;rfl
theorem df.ee{E:Entry}{a:Act}{w:World}{β:Nat→Value}{ro:Nat→Prop}(h:df E G s a w β ro){x:Operand}{v:Value}(hx:aM G s x= .aw (.v v)):a.eval x=v:=
 bF.val (hx ▸ h.eval x)
theorem bF.fG{w:World}{ro:Nat→Prop}{σ:Heap}{β:Nat→Value}{N:Nat}{c:Value}(h:c.oneCell'=true):bF w ro σ β N (.aw (.v c)) c:=.aw _ _ (.v _ h)
theorem oG(op:BinOp)(cF ty:TypeId)(x y:Operand)(ao:o.op= .binOp op cF x y ty){u v c:Value}(hx:aM G s x= .aw (.v u))(ay:aM G s y= .aw (.v v))(hc:j1 op u v=some c):
 cX P G o s (.aw (.v c)):=
 fun _ a w β ro ag=>by
  obtain⟨aa,ae,au⟩:=zc7 (P:=P) hc cF x y w;exact⟨c,by simp[execOp,ao,ag.ee hx,ag.ee ay,aa,ae],.fG au⟩
theorem Ri(cF ty:TypeId)(x y:Operand)(ao:o.op= .binOp .eql cF x y ty)(aK:P.underlying cF=some .bool){u v:Bool}(hx:aM G s x= .aw (.v (.bool u)))(ay:aM G s y= .aw (.v (.bool v))):
 cX P G o s (.aw (.v (.bool (u==v)))):=
 fun _ a w β ro ag=>⟨.bool (u==v),by simp[execOp,ao,ag.ee hx,ag.ee ay,eqGuard_at_bool,run_eql_bool w cF u v aK],.fG rfl⟩
theorem Rj(cF ty:TypeId)(x y:Operand)(ao:o.op= .binOp .neq cF x y ty)(aK:P.underlying cF=some .bool){u v:Bool}(hx:aM G s x= .aw (.v (.bool u)))(ay:aM G s y= .aw (.v (.bool v))):
 cX P G o s (.aw (.v (.bool (!(u==v))))):=
 fun _ a w β ro ag=>⟨.bool (!(u==v)),by simp[execOp,ao,ag.ee hx,ag.ee ay,eqGuard_at_bool,run_neq_bool w cF u v aK],.fG rfl⟩
def mL:Value→Value→Option Bool
 | .int k a,.int bu b=>if k=bu then some (a==b)else none
 | .bool a,.bool b=>some (a==b)
 | .string a,.string b=>some (cW a b)
 |_,_=>none
def qV(P:Program)(t:TypeId):Value→Bool
 | .int k _=>match P.underlying t with
  |some (.int bu)=>decide (k=bu)
  |_=>false
 | .bool _=>match P.underlying t with
  |some .bool=>true
  |_=>false
 | .string _=>match P.underlying t with
  |some .string=>true
  |_=>false
 |_=>false
def Rk(e:TypeId)(c i:Nat):Field:={(default:Field)with name:= "e",type:=e,offset:=i*c}
theorem Kg(d:Nat)(e:TypeId)(c:Nat)(X Y:Array Value): ∀(is:List Nat),Op.eqFields d X Y (is.map (Rk e c))=Op.eqItems d e c X Y is
 |[]=>rfl
 |i::is=>by
  simp only[List.map_cons,Op.eqFields,Op.eqItems,Kg d e c X Y is];rfl
def mM(P:Program)(t:TypeId):Option (List Field):=
 match P.underlying t with
 |some (.struct fs)=>if P.stoodInHeld t||P.eqGuardType P.depth t then none else some fs.toList
 |some (.array n e)=>match P.info? e with
  |some _=>if P.eqGuardType P.depth t then none else some ((List.range n).map (Rk e (P.cellsOf e)))
  |none=>none
 |_=>none
theorem zc8{P:Program}{t:TypeId}{gs:List Field}(h:mM P t=some gs)(D:Nat)(p q:Array Value)(w:World):
 (Op.equalIn (D+1) t (.agg p) (.agg q)).run P w=(Op.eqFields D p q gs).run P w∧(isAgg t).run P w= .ok true w:=by
 unfold mM at h
 split at h
 ·rename_i C7 hu
  split at h
  ·cases h
  ·rename_i hc
   simp only[Bool.or_eq_true,not_or,Bool.not_eq_true]at hc;simp only[Option.some.injEq]at h;subst h
   have pT:P.fieldsOf t=C7:=by simp[Program.fieldsOf,hu]
   exact⟨by rw[run_equalIn_struct w D t p q (by rw[pT];exact hu) hc.1,pT],by simp[isAgg,run_underlying hu]⟩
 ·rename_i n e hu
  split at h
  ·rename_i inf wj
   split at h
   ·cases h
   ·simp only[Option.some.injEq]at h
    subst h;exact⟨by rw[run_equalIn_array w D p q hu wj,←Kg],by simp[isAgg,run_underlying hu]⟩
  ·cases h
 ·cases h
def pU(P:Program):Nat→Nat→List Field→List Value→List Value→Option Bool
 |0,_,_,_,_=>none
 |_+1,_,[],_,_=>some true
 |d+1,k,f::fs,xs,ys=>
  if f.name= "_" ||f.offset != k then none
  else match mM P f.type with
   |some gs=>match P.info? f.type with
    |some inf=>match pU P d 0 gs (xs.take inf.size) (ys.take inf.size),pU P d (k+inf.size) fs (xs.drop inf.size) (ys.drop inf.size)with
     |some a,some b=>some (a&&b)
     |_,_=>none
    |none=>none
   |none=>match xs,ys with
    |x::xs,y::ys=>if qV P f.type x then match mL x y,pU P d (k+1) fs xs ys with
     |some a,some b=>some (a&&b)
     |_,_=>none
     else none
    |_,_=>none
def zn(P:Program)(k:Nat)(fs:List Field)(xs ys:List Value):Option Bool:=pU P 64 k fs xs ys
theorem zc9{t:TypeId}{x y:Value}{b:Bool}(h:mL x y=some b)(hf:qV P t x=true)(d:Nat)(w:World):(Op.equalIn (d+1) t x y).run P w= .ok b w∧x.oneCell'=true∧y.oneCell'=true∧(isAgg t).run P w= .ok false w:=by
 cases x with
 |int k a=>
  cases y with
  |int bu b'=>
   simp only[mL]at h
   split at h
   ·rename_i aj
    subst aj;simp only[Option.some.injEq]at h;subst h;simp only[qV]at hf
    split at hf
    ·rename_i fx hu
     exact⟨run_equalIn_int w d t k fx a b' hu,rfl,rfl,by simp[isAgg,run_underlying hu]⟩
    ·cases hf
   ·cases h
  |_=>simp[mL]at h
 |bool a=>
  cases y with
  |bool b'=>
   simp only[mL,Option.some.injEq]at h;subst h;simp only[qV]at hf
   split at hf
   ·rename_i hu
    exact⟨run_equalIn_bool w d t a b' hu,rfl,rfl,by simp[isAgg,run_underlying hu]⟩
   ·cases hf
  |_=>simp[mL]at h
 |string a=>
  cases y with
  |string b'=>
   simp only[mL,Option.some.injEq]at h;subst h;simp only[qV]at hf
   split at hf
   ·rename_i hu
    refine⟨?_,rfl,rfl,by simp[isAgg,run_underlying hu]⟩
    rw[run_equalIn_string w d t a b' hu,Rh]
   ·cases hf
  |_=>simp[mL]at h
 |_=>simp[mL]at h
theorem Rl{xs:List Value}{X:Array Value}{k n:Nat}(hI: ∀j x,xs[j]? =some x→X[k+j]? =some x): ∀j x,(xs.take n)[j]? =some x→(X.extract k (k+n))[0+j]? =some x:=by
 intro j x af
 rw[List.getElem?_take]at af
 split at af
 ·rename_i mC
  have:=hI j x af
  rw[Nat.zero_add,Array.getElem?_extract]
  have bR:k+j<X.size:=(Array.getElem?_eq_some_iff.1 this).1
  rw[if_pos (by omega)]
  exact this
 ·cases af
theorem C8: ∀(d:Nat) (fs:List Field) (k:Nat) (xs ys:List Value) (X Y:Array Value) (b:Bool) (D:Nat) (w:World),pU P d k fs xs ys=some b→d≤D→(∀j x,xs[j]? =some x→X[k+j]? =some x)→(∀j y,ys[j]? =some y→Y[k+j]? =some y)→
 (Op.eqFields D X Y fs).run P w= .ok b w
 |0,_,k,xs,ys,X,Y,b,D,w,h,_,_,_=>by simp[pU]at h
 |d+1,[],k,xs,ys,X,Y,b,D,w,h,_,hI,oH=>by
  simp[pU]at h;subst h;simp[Op.eqFields]
 |d+1,f::fs,k,xs,ys,X,Y,b,0,w,h,jC,_,_=>by omega
 |d+1,f::fs,k,xs,ys,X,Y,b,D+1,w,h,jC,hI,oH=>by
  unfold pU at h
  split at h
  ·cases h
  ·rename_i hc
   simp only[Bool.or_eq_true,decide_eq_true_eq,bne_iff_ne,ne_eq,not_or,Decidable.not_not]at hc;obtain⟨wk,zm⟩:=hc
   split at h
   ·rename_i gs ah
    split at h
    ·rename_i inf wj
     split at h
     ·rename_i fY hr aa ae
      simp only[Option.some.injEq]at h;subst h
      have dK:=C8 d gs 0 _ _ (X.extract k (k+inf.size)) (Y.extract k (k+inf.size)) fY D w aa (by omega) (Rl hI) (Rl oH)
      have eX:=C8 d fs (k+inf.size) _ _ X Y hr (D+1) w ae (by omega) (fun j x af=>by rw[List.getElem?_drop]at af;have:=hI _ x af;rwa[show k+(inf.size+j)=k+inf.size+j from by omega]at this) (fun j x af=>by rw[List.getElem?_drop]at af;have:=oH _ x af;rwa[show k+(inf.size+j)=k+inf.size+j from by omega]at this)
      obtain⟨aE,bo⟩:=zc8 ah D (X.extract k (k+inf.size)) (Y.extract k (k+inf.size)) w
      have dL:P.cellsOf f.type=inf.size:=by simp[Program.cellsOf,wj]
      simp only[Op.eqFields,Sem.run_bind,wk,ne_eq,not_false_eq_true,if_true,part,bo,Result.andThen_ok,run_sizeOf w wj,dL,zm,Sem.run_pure,aE,dK]
      cases fY
      ·simp
      ·simpa using eX
     ·cases h
    ·cases h
   ·split at h
    ·rename_i x Kh y zda
     split at h
     ·rename_i pR
      split at h
      ·rename_i fY hr he ag
       simp only[Option.some.injEq]at h;subst h;obtain⟨aa,_,_,aW⟩:=zc9 he pR D w
       have Rm:=hI 0 x rfl
       have wm:=oH 0 y rfl
       have a7:=C8 d fs (k+1) Kh zda X Y hr (D+1) w ag (by omega) (fun j x af=>by have:=hI (j+1) x af;rwa[show k+(j+1)=k+1+j from by omega]at this) (fun j x af=>by have:=oH (j+1) x af;rwa[show k+(j+1)=k+1+j from by omega]at this)
       simp only[Nat.add_zero]at Rm wm;simp only[Op.eqFields,Sem.run_bind,wk,ne_eq,not_false_eq_true,if_true,part,aW,Result.andThen_ok,Bool.false_eq_true,if_false,zm,Rm,wm,Sem.run_pure,aa]
       cases fY
       ·simp
       ·simpa using a7
      ·cases h
     ·cases h
    ·cases h
theorem Rn(fs:List Field)(k:Nat)(xs ys:List Value)(X Y:Array Value)(b:Bool)(d:Nat)(w:World)(h:zn P k fs xs ys=some b)(hd:64≤d+1)(hI: ∀j x,xs[j]? =some x→X[k+j]? =some x)(oH: ∀j y,ys[j]? =some y→Y[k+j]? =some y):
 (Op.eqFields (d+1) X Y fs).run P w= .ok b w:=C8 64 fs k xs ys X Y b (d+1) w h hd hI oH
def hy:List aF→Option (List Value)
 |[]=>some []
 | .aw (.v x)::r=>match hy r with
  |some l=>some (x::l)
  |none=>none
 |_::_=>none
theorem zo{w:World}{ro:Nat→Prop}{σ:Heap}{β:Nat→Value}{N:Nat}: ∀{cs:List aF} {l:List Value} {c:Nat→Value},hy cs=some l→(∀j x,cs[j]? =some x→bF w ro σ β N x (c j))→l.length=cs.length∧∀j x,l[j]? =some x→c j=x
 |[],l,c,h,_=>by simp[hy]at h;subst h;simp
 | .aw (.v x)::r,l,c,h,hc=>by
  simp only[hy]at h
  cases ag:hy r with
  |none=>simp[ag]at h
  |some gz=>
   simp[ag]at h;subst h;obtain⟨aa,ae⟩:=zo (c:=fun j=>c (j+1)) ag fun j x af=>hc (j+1) x af;refine⟨by simp[aa],fun j y af=>?_⟩
   cases j with
   |zero=>simp at af;subst af;exact bF.val (hc 0 _ rfl)
   |succ j=>exact ae j y af
 | .aw (.ptr _)::_,_,_,h,_=>by simp[hy]at h
 | .aw (.aR _ _)::_,_,_,h,_=>by simp[hy]at h
 | .agg _::_,_,_,h,_=>by simp[hy]at h
 | .tuple _::_,_,_,h,_=>by simp[hy]at h
 | .ptr _ _::_,_,_,h,_=>by simp[hy]at h
 | .dC _ _::_,_,_,h,_=>by simp[hy]at h
 | .c6 _ _ _::_,_,_,h,_=>by simp[hy]at h
 | .aR _::_,_,_,h,_=>by simp[hy]at h
 | .fn _ _ _::_,_,_,h,_=>by simp[hy]at h
 | .ref _::_,_,_,h,_=>by simp[hy]at h
 | .top::_,_,_,h,_=>by simp[hy]at h
theorem Ro{t:TypeId}{fs:List Field}(h:mM P t=some fs){cs ds:List aF}{xs ys:List Value}{b:Bool}(nA:hy cs=some xs)(l5:hy ds=some ys)(ad:zn P 0 fs xs ys=some b)
 {w:World}{ro:Nat→Prop}{σ:Heap}{β:Nat→Value}{N:Nat}{X Y:Value}(hI:bF w ro σ β N (.agg cs) X)(oH:bF w ro σ β N (.agg ds) Y):
 ∃p q,X= .agg p∧Y= .agg q∧P.eqGuardType P.depth t=false∧(Op.equalIn 10000 t (.agg p) (.agg q)).run P w= .ok b w:=by
 unfold mM at h
 split at h
 ·rename_i C7 hu
  split at h
  ·cases h
  ·rename_i hc
   simp only[Bool.or_eq_true,not_or,Bool.not_eq_true]at hc;simp only[Option.some.injEq]at h;subst h
   cases hI with
   |agg _ p ak Ki=>
    cases oH with
    |agg _ q aN Kj=>
     refine⟨p,q,rfl,rfl,hc.2,?_⟩
     have pT:P.fieldsOf t=C7:=by simp[Program.fieldsOf,hu]
     rw[run_equalIn_struct w 9999 t p q (by rw[pT];exact hu) hc.1,pT]
     obtain⟨aa,ae⟩:=zo (c:=fun j=>p.getD j undef) nA Ki;obtain⟨au,aW⟩:=zo (c:=fun j=>q.getD j undef) l5 Kj;refine Rn C7.toList 0 xs ys p q b 9998 w ad (by omega) (fun j x af=>?_) (fun j x af=>?_)
     ·have bR:j<p.size:=by
       rcases Nat.lt_or_ge j xs.length with h|h
       ·omega
       ·rw[List.getElem?_eq_none h]at af;cases af
      have:=ae j x af
      simp[bR]at this;simp[bR,this]
     ·have bR:j<q.size:=by
       rcases Nat.lt_or_ge j ys.length with h|h
       ·omega
       ·rw[List.getElem?_eq_none h]at af;cases af
      have:=aW j x af
      simp[bR]at this;simp[bR,this]
 ·rename_i n e hu
  split at h
  ·rename_i inf wj
   split at h
   ·cases h
   ·rename_i hc
    simp only[Bool.not_eq_true]at hc;simp only[Option.some.injEq]at h;subst h
    cases hI with
    |agg _ p ak Ki=>
     cases oH with
     |agg _ q aN Kj=>
      refine⟨p,q,rfl,rfl,hc,?_⟩
      rw[run_equalIn_array w 9999 p q hu wj,←Kg];obtain⟨aa,ae⟩:=zo (c:=fun j=>p.getD j undef) nA Ki;obtain⟨au,aW⟩:=zo (c:=fun j=>q.getD j undef) l5 Kj;refine Rn _ 0 xs ys p q b 9998 w ad (by omega) (fun j x af=>?_) (fun j x af=>?_)
      ·have bR:j<p.size:=by
        rcases Nat.lt_or_ge j xs.length with h|h
        ·omega
        ·rw[List.getElem?_eq_none h]at af;cases af
       have:=ae j x af
       simp[bR]at this;simp[bR,this]
      ·have bR:j<q.size:=by
        rcases Nat.lt_or_ge j ys.length with h|h
        ·omega
        ·rw[List.getElem?_eq_none h]at af;cases af
       have:=aW j x af
       simp[bR]at this;simp[bR,this]
  ·cases h
 ·cases h
theorem Rp(cF ty:TypeId)(x y:Operand)(ao:o.op= .binOp .eql cF x y ty){fs:List Field}(h:mM P cF=some fs){cs ds:List aF}(hx:aM G s x= .agg cs)(ay:aM G s y= .agg ds)
 {xs ys:List Value}{b:Bool}(nA:hy cs=some xs)(l5:hy ds=some ys)(ad:zn P 0 fs xs ys=some b):cX P G o s (.aw (.v (.bool b))):=
 fun _ a w β ro ag=>by
  obtain⟨p,q,aa,ae,au,aW⟩:=Ro h nA l5 ad (hx ▸ ag.eval x) (ay ▸ ag.eval y);exact⟨.bool b,by simp only[execOp,ao,aa,ae,Sem.run_bind,run_eqGuard_agg w .eql cF x y p q au,Result.andThen_ok,run_eql_struct,aW,Sem.run_pure],.fG rfl⟩
theorem Rq(cF ty:TypeId)(x y:Operand)(ao:o.op= .binOp .neq cF x y ty){fs:List Field}(h:mM P cF=some fs){cs ds:List aF}(hx:aM G s x= .agg cs)(ay:aM G s y= .agg ds)
 {xs ys:List Value}{b:Bool}(nA:hy cs=some xs)(l5:hy ds=some ys)(ad:zn P 0 fs xs ys=some b):cX P G o s (.aw (.v (.bool (!b)))):=
 fun _ a w β ro ag=>by
  obtain⟨p,q,aa,ae,au,aW⟩:=Ro h nA l5 ad (hx ▸ ag.eval x) (ay ▸ ag.eval y);exact⟨.bool (!b),by simp only[execOp,ao,aa,ae,Sem.run_bind,run_eqGuard_agg w .neq cF x y p q au,Result.andThen_ok,run_neq_struct,aW,Sem.run_pure],.fG rfl⟩
theorem Rr(t:TypeId)(x:Operand)(ao:o.op= .unOp .not t x){b:Bool}(hx:aM G s x= .aw (.v (.bool b))):cX P G o s (.aw (.v (.bool (!b)))):=
 fun _ a w β ro ag=>⟨.bool (!b),by simp[execOp,ao,ag.ee hx,Op.unary],.fG rfl⟩
theorem Rs(t:TypeId)(x:Operand)(ao:o.op= .unOp .neg t x){k:IntKind}{n:Int}(hx:aM G s x= .aw (.v (.int k n))):cX P G o s (.aw (.v (.int k (k.wrap (0-n))))):=
 fun _ a w β ro ag=>⟨.int k (k.wrap (0-n)),by simp[execOp,ao,ag.ee hx,Op.unary,Op.intArith],.fG rfl⟩
theorem zp(c x y:Operand)(ao:o.op= .pick c x y){b:Bool}(hc:aM G s c= .aw (.v (.bool b))){v:aF}(ax:(if b then aM G s x else aM G s y)=v):cX P G o s v:=
 fun _ a w β ro ag=>⟨if b then a.eval x else a.eval y,by simp[execOp,ao,ag.ee hc,asBool],by
  subst ax
  cases b
  ·simpa using ag.eval y
  ·simpa using ag.eval x⟩
theorem Rt(x:Operand)(i:Nat)(ao:o.op= .extract x i){cs:List aF}(hx:aM G s x= .tuple cs){v:aF}(ax:cs[i]? =some v):cX P G o s v:=
 fun _ a w β ro ag=>by
  have h:=ag.eval x
  rw[hx]at h;generalize he:a.eval x=c at h
  cases h with
  |tuple _ c ai hc=>
   have bR:i<c.size:=by have:=(List.getElem?_eq_some_iff.1 ax).1;omega
   refine⟨c[i],?_,?_⟩
   ·simp[execOp,ao,Instr.extract,he,bR]
   ·simpa[bR]using hc i v ax
end
end Go.aO
