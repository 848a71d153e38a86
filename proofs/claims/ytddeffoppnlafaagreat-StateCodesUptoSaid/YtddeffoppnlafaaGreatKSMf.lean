/- The AV calculus, part A: values as trees, the relation between a symbolic state and a world, and how it is kept. Conditions: none; nothing here speaks of a particular program. -/
import Derived.Test.YtddeffoppnlafaaGreatKST0
import Derived.Laws.StructEq
import Derived.ChangeKeysEq
namespace Go.aK
open Go
theorem uN(a:Addr)(n:Nat):(a.add n).block=a.block:=by unfold Addr.add;split<;>rfl
theorem yH(a:Addr)(i j:Nat):(a.add i).add j=a.add (i+j):=by
 unfold Addr.add
 by_cases hi:i=0<;>by_cases aj:j=0<;>simp[hi,aj,Nat.add_assoc]
theorem addLit(b o n:Nat):(⟨b,o,none⟩:Addr).add n=⟨b,o+n,none⟩:=by
 unfold Addr.add;split
 ·rename_i h;subst h;rfl
 ·rfl
inductive aC where
 |ad (x:aU)
 |agg (cs:List aC)
 |tuple (cs:List aC)
 |ptr (id off:Nat)
 |dg (id i off:Nat)
 |aq (id:Nat)
 |fn (f:Fn) (first captured:List aC)
 |ref (id:Nat)
 |dN (id n:Nat)
 |top
def Sn(agg:Bool)(n:Nat)(v:Value)(p:Nat→Value):Prop:=
 match agg with
 |true=>∃c:Array Value,v= .agg c∧c.size=n∧∀i,i<n→c.getD i undef=p i
 |false=>n=1∧v=p 0
inductive de (w:World) (ro:Nat→Prop):aU→Value→Prop where
 |v (x:Value):x.oneCell'=true→de w ro (.v x) x
 |ptr (cs:List aU) (a:Addr) (c:Nat→Value):(∀j x,cs[j]? =some x→ro a.block∧w.cell? (a.add j)=some (c j))→
  (∀j x,cs[j]? =some x→de w ro x (c j))→de w ro (.ptr cs) (.pointer (some a))
 |aq (n:Nat) (es:List (List aU)) (b:Option Addr) (cap:Nat) (c:Nat→Value):es.length≤cap→cap≤maxLen→(∀e∈es,e.length=n)→
  (0<es.length→∃a,b=some a∧∀j,j<es.length*n→ro a.block∧w.cell? (a.add j)=some (c j))→
  (∀j x,es.flatten[j]? =some x→de w ro x (c j))→de w ro (.aq n es) (.slice b es.length cap)
 |mp (agg:Bool) (ks:List Value) (vs:List (List aU)) (r:Nat) (es:Array MapEntry) (clock:Nat) (p:Nat→Nat→Value):ro r→w.heap[r]? =some (.map es clock)→es.size=ks.length→vs.length=ks.length→ks.Nodup→
  (∀j k cs,ks[j]? =some k→vs[j]? =some cs→∃e:MapEntry,es[j]? =some e∧e.key=k∧Sn agg cs.length e.val (p j))→
  (∀j cs i x,vs[j]? =some cs→cs[i]? =some x→de w ro x (p j i))→de w ro (.mp agg ks vs) (.map (some r))
 |li (i:bX) (l:List (hg i)) (c:Value):de w ro (.aq (du i) (l.map (df i))) c→de w ro (.li i l) c
 |ei (t:TypeId) (agg:Bool) (cs:List aU) (v:Value) (p:Nat→Value):Sn agg cs.length v p→(∀i x,cs[i]? =some x→de w ro x (p i))→de w ro (.ei t agg cs) (.iface t v)
theorem de.one{w:World}{ro:Nat→Prop}{x:aU}{c:Value}(h:de w ro x c):c.oneCell'=true:=by
 induction h with
 |v x hx=>exact hx
 |ptr=>rfl
 |aq=>rfl
 |mp=>rfl
 |li i l c h aY=>exact aY
 |ei=>rfl
theorem de.keep{w w':World}{ro ro':Nat→Prop}{x:aU}{c:Value}(h:de w ro x c)
 (hw: ∀b,ro b→w'.heap[b]? =w.heap[b]?)(cr: ∀b,ro b→ro' b):de w' ro' x c:=by
 induction h with
 |v x hx=>exact .v x hx
 |ptr cs a c ab _ aY=>
  exact .ptr cs a c (fun j x aj=>⟨cr _ (ab j x aj).1,by
   rw[World.cell?_of_block (w:=w) (by rw[uN];exact hw _ (ab j x aj).1)];exact(ab j x aj).2⟩) aY
 |aq n es b cap c ab ae aw aM _ aY=>
  refine .aq n es b cap c ab ae aw (fun ar=>?_) aY
  obtain⟨a,ag,hc⟩:=aM ar
  exact⟨a,ag,fun j aj=>⟨cr _ (hc j aj).1,by
   rw[World.cell?_of_block (w:=w) (by rw[uN];exact hw _ (hc j aj).1)];exact(hc j aj).2⟩⟩
 |mp agg ks vs r es clock p ab ae aw aM bn cl _ aY=>exact .mp agg ks vs r es clock p (cr _ ab) ((hw _ ab).trans ae) aw aM bn cl aY
 |li i l c _ aY=>exact .li i l c aY
 |ei t agg cs v p ab _ aY=>exact .ei t agg cs v p ab aY
def cz:Value→Option Nat
 | .pointer (some a)=>some a.block
 | .slice (some a) _ cap=>if cap=0 then none else some a.block
 | .map (some r)=>some r
 |_=>none
structure yI where
 holds:(aU→Value→Prop)→Value→Obj→Prop
 mono: ∀(R pj:aU→Value→Prop) v o,(∀x c,R x c→pj x c)→holds R v o→holds pj v o
 view:Option aU
 So: ∀ad,view=some ad→∀(w:World) (ro ro':Nat→Prop) (v:Value) (o:Obj) (b:Nat),holds (de w ro) v o→cz v=some b→w.heap[b]? =some o→(∀x,ro x→ro' x)→ro' b→de w ro' ad v
inductive ec where
 |box (t:TypeId) (cs:List aC)
 |row (AL:Bool) (t:TypeId) (n:Nat) (es:List (List aU))
 |bI (bH:yI)
def ec.live:ec→Bool
 | .box _ _=>true
 | .row AL _ _ _=>!AL
 | .bI _=>true
abbrev Heap:=List (Nat × ec)
def aE:Heap→Nat→Option ec
 |[],_=>none
 |(k,o)::r,id=>if k=id then some o else aE r id
def eA:Heap→Nat→ec→Heap
 |[],id,o=>[(id,o)]
 |(k,x)::r,id,o=>if k=id then(k,o)::r else(k,x)::eA r id o
def gS:Heap→Nat→Heap
 |[],_=>[]
 |(k,x)::r,id=>if k=id then gS r id else(k,x)::gS r id
theorem ur(h:Heap)(id:Nat)(o:ec)(k:Nat):aE (eA h id o) k=if id=k then some o else aE h k:=by
 induction h with
 |nil=>simp[eA,aE]
 |cons p r aY=>
  obtain⟨j,x⟩:=p
  by_cases aj:j=id
  ·subst aj
   by_cases an:j=k<;>simp[eA,aE,an]
  ·by_cases an:j=k
   ·subst an
    simp[eA,aE,aj,Ne.symm aj]
   ·simp[eA,aE,aj,an,aY]
theorem BV(h:Heap)(id k:Nat):aE (gS h id) k=if id=k then none else aE h k:=by
 induction h with
 |nil=>simp[gS,aE]
 |cons p r aY=>
  obtain⟨j,x⟩:=p
  by_cases aj:j=id
  ·subst aj
   by_cases an:j=k
   ·subst an;simp[gS,aY]
   ·simp[gS,aE,an,aY]
  ·by_cases an:j=k
   ·subst an
    simp[gS,aE,aj,Ne.symm aj]
   ·simp[gS,aE,aj,an,aY]
def kV(w:World)(t:TypeId)(n:Nat)(v:Value)(len:Nat)(xs:List Value):Prop:=
 xs.length=len*n∧(((∃b,v= .slice b 0 0∧∀a,b=some a→a.block<w.heap.size)∧len=0)∨
  ∃g cap cur,v= .slice (some ⟨g,0,none⟩) len cap∧0<cap∧w.heap[g]? =some (.cells cur t (0,0))∧len≤cap∧cap≤maxLen∧cur.size=cap*n∧cur.toList.take (len*n)=xs)
inductive bA (w:World) (ro:Nat→Prop) (σ:Heap) (β:Nat→Value) (N:Nat):aC→Value→Prop where
 |ad (x:aU) (c:Value):de w ro x c→bA w ro σ β N (.ad x) c
 |agg (cs:List aC) (c:Array Value):c.size=cs.length→(∀j x,cs[j]? =some x→bA w ro σ β N x (c.getD j undef))→bA w ro σ β N (.agg cs) (.agg c)
 |tuple (cs:List aC) (c:Array Value):c.size=cs.length→(∀j x,cs[j]? =some x→bA w ro σ β N x (c.getD j undef))→bA w ro σ β N (.tuple cs) (.tuple c)
 |ptr (id off:Nat) (c:Value):id<N→(∀t cs,aE σ id=some (.box t cs)→∃b,β id= .pointer (some ⟨b,0,none⟩)∧c= .pointer (some ⟨b,off,none⟩))→bA w ro σ β N (.ptr id off) c
 |dN (id n:Nat) (c:Value):id<N→(∀t cs,aE σ id=some (.box t cs)→∃b,β id= .pointer (some ⟨b,0,none⟩)∧c= .slice (some ⟨b,0,none⟩) n n)→bA w ro σ β N (.dN id n) c
 |dg (id i off:Nat) (c:Value):id<N→(∀z t n es,aE σ id=some (.row z t n es)→∃b l ht,β id= .slice (some ⟨b,0,none⟩) l ht∧c= .pointer (some ⟨b,i*n+off,none⟩))→bA w ro σ β N (.dg id i off) c
 |aq (id:Nat) (c:Value):id<N→(∀z t n es,aE σ id=some (.row z t n es)→c=β id)→bA w ro σ β N (.aq id) c
 |fn (f:Fn) (p q:List aC) (c d:Array Value):c.size=p.length→d.size=q.length→(∀j x,p[j]? =some x→bA w ro σ β N x (c.getD j undef))→
  (∀j x,q[j]? =some x→bA w ro σ β N x (d.getD j undef))→bA w ro σ β N (.fn f p q) (.func f c d)
 |ref (id:Nat) (c:Value):id<N→(∀bH,aE σ id=some (.bI bH)→c=β id)→bA w ro σ β N (.ref id) c
 |top (c:Value):bA w ro σ β N .top c
inductive m4 (w:World) (ro:Nat→Prop) (σ:Heap) (β:Nat→Value) (N:Nat) (id:Nat):ec→Prop where
 |box (t:TypeId) (cs:List aC) (b:Nat) (arr:Array Value):β id= .pointer (some ⟨b,0,none⟩)→w.heap[b]? =some (.cells arr t (0,0))→arr.size=cs.length→
  (∀j x,cs[j]? =some x→bA w ro σ β N x (arr.getD j undef))→m4 w ro σ β N id (.box t cs)
 |row (t:TypeId) (n:Nat) (es:List (List aU)) (xs:List Value):kV w t n (β id) es.length xs→(∀e∈es,e.length=n)→
  (∀j x,es.flatten[j]? =some x→de w ro x (xs.getD j undef))→m4 w ro σ β N id (.row false t n es)
 |fW (t:TypeId) (n:Nat) (es:List (List aU)):de w ro (.aq n es) (β id)→m4 w ro σ β N id (.row true t n es)
 |bI (bH:yI) (b:Nat) (o:Obj):cz (β id)=some b→w.heap[b]? =some o→bH.holds (de w ro) (β id) o→m4 w ro σ β N id (.bI bH)
theorem kV.iG{w:World}{t:TypeId}{n:Nat}{v:Value}{len:Nat}{xs:List Value}(h:kV w t n v len xs){b:Nat}(ag:cz v=some b):
 b<w.heap.size∧∃cap cur,v= .slice (some ⟨b,0,none⟩) len cap∧w.heap[b]? =some (.cells cur t (0,0)):=by
 rcases h.2 with⟨⟨c,rfl,_⟩,_⟩|⟨g,cap,cur,rfl,hc,ai,_⟩
 ·cases c<;>simp[cz]at ag
 ·have:cap≠0:=by omega
  simp[cz,this]at ag;subst ag;exact⟨(Array.getElem?_eq_some_iff.1 ai).1,cap,cur,rfl,ai⟩
theorem kV.keep{w w':World}{t:TypeId}{n:Nat}{v:Value}{len:Nat}{xs:List Value}(h:kV w t n v len xs)(hw: ∀b,cz v=some b→w'.heap[b]? =w.heap[b]?)(bT:w.heap.size≤w'.heap.size):kV w' t n v len xs:=by
 refine⟨h.1,?_⟩
 rcases h.2 with⟨⟨b,az,ag⟩,av⟩|⟨g,cap,cur,az,hc,ai,rest⟩
 ·exact .inl ⟨⟨b,az,fun a a6=>Nat.lt_of_lt_of_le (ag a a6) bT⟩,av⟩
 ·have:cap≠0:=by omega
  exact .inr ⟨g,cap,cur,az,hc,(hw g (by rw[az];simp[cz,this])).trans ai,rest⟩
theorem m4.iG{w:World}{ro:Nat→Prop}{σ:Heap}{β:Nat→Value}{N id:Nat}{o:ec}(h:m4 w ro σ β N id o)(av:o.live=true){b:Nat}(ag:cz (β id)=some b):b<w.heap.size:=by
 cases h with
 |box t cs gR arr ab ae=>rw[ab]at ag;simp[cz]at ag;subst ag;exact(Array.getElem?_eq_some_iff.1 ae).1
 |row t n es xs ab=>exact(ab.iG ag).1
 |fW=>simp[ec.live]at av
 |bI bH gR o ab ae=>rw[ab]at ag;simp only[Option.some.injEq]at ag;subst ag;exact(Array.getElem?_eq_some_iff.1 ae).1
def Own(σ:Heap)(β:Nat→Value)(b:Nat):Prop:=∃id o,aE σ id=some o∧o.live=true∧cz (β id)=some b
structure gI (w:World) (ro:Nat→Prop) (σ:Heap) (β:Nat→Value) (N:Nat):Prop where
 dq: ∀id o,aE σ id=some o→m4 w ro σ β N id o
 inj: ∀id iw o cb b,aE σ id=some o→aE σ iw=some cb→o.live=true→cb.live=true→cz (β id)=some b→cz (β iw)=some b→id=iw
 e8: ∀b,ro b→¬Own σ β b
 lt: ∀b,ro b→b<w.heap.size
abbrev aR:=Nat→Option (List aU)
def o4(w:World)(ro:Nat→Prop)(G:aR):Prop:=∀g cs,G g=some cs→de w ro (.ptr cs) (.pointer (some ⟨g,0,none⟩))∧ro g∧∃arr t FQ,w.heap[g]? =some (.cells arr t FQ)∧arr.size=cs.length
structure Entry where
 w:World
 ro:Nat→Prop
 σ:Heap
 β:Nat→Value
 n:Nat
 d:List Deferred
structure Trans (E:Entry) (w:World) (ro:Nat→Prop) (σ:Heap) (β:Nat→Value) (n:Nat):Prop where
 os:w.os=E.w.os
 tape:w.tape=E.w.tape
 output:w.output=E.w.output
 size:E.w.heap.size≤w.heap.size
 frame: ∀b,b<E.w.heap.size→¬Own E.σ E.β b→w.heap[b]? =E.w.heap[b]?
 hz: ∀b,ro b→E.ro b∨Own E.σ E.β b∨E.w.heap.size≤b
 gA: ∀b,E.ro b→ro b
 fU: ∀b,Own σ β b→Own E.σ E.β b∨E.w.heap.size≤b
 ea: ∀id,id<E.n→∀o,aE σ id=some o→aE E.σ id≠none∧β id=E.β id
 new: ∀id o,aE σ id=some o→id<n
 le:E.n≤n
structure aQ where
 db:List aC
 heap:Heap
 next:Nat
 base:Nat
structure dn (E:Entry) (G:aR) (s:aQ) (a:Act) (w:World) (β:Nat→Value) (ro:Nat→Prop):Prop where
 defers:a.defers=E.d
 size:a.tmps.size=s.db.length
 slot: ∀i x,s.db[i]? =some x→bA w ro s.heap β s.next x (a.tmps.getD i undef)
 heap:gI w ro s.heap β s.next
 hL:o4 w ro G
 trans:Trans E w ro s.heap β s.next
 base:E.n≤s.base
def Rel(E:Entry)(G:aR)(s:aQ)(a:Act)(w:World):Prop:=∃β ro,dn E G s a w β ro
theorem bA.keep{w w':World}{ro ro':Nat→Prop}{σ cU:Heap}{β cK:Nat→Value}{N mN:Nat}{x:aC}{c:Value}(h:bA w ro σ β N x c)
 (hw: ∀b,ro b→w'.heap[b]? =w.heap[b]?)(cr: ∀b,ro b→ro' b)(me:N≤mN)
 (mO: ∀id t cs,aE cU id=some (.box t cs)→cK id=β id∧∃t cs,aE σ id=some (.box t cs))
 (dM: ∀id z t n es,aE cU id=some (.row z t n es)→cK id=β id∧∃z t es,aE σ id=some (.row z t n es))
 (nq: ∀id bH,aE cU id=some (.bI bH)→cK id=β id∧∃bH,aE σ id=some (.bI bH)):bA w' ro' cU cK mN x c:=by
 induction h with
 |ad x c hx=>exact .ad x c (hx.keep hw cr)
 |agg cs c ao _ aY=>exact .agg cs c ao aY
 |tuple cs c ao _ aY=>exact .tuple cs c ao aY
 |ptr id off c av ar=>
  refine .ptr id off c (by omega) fun t cs ai=>?_
  obtain⟨ag,bh,cs',dQ⟩:=mO id t cs ai;obtain⟨b,ab,ae⟩:=ar bh cs' dQ;exact⟨b,ag.trans ab,ae⟩
 |dN id off c av ar=>
  refine .dN id off c (by omega) fun t cs ai=>?_
  obtain⟨ag,bh,cs',dQ⟩:=mO id t cs ai;obtain⟨b,ab,ae⟩:=ar bh cs' dQ;exact⟨b,ag.trans ab,ae⟩
 |dg id i off c av ar=>
  refine .dg id i off c (by omega) fun z t n es ai=>?_
  obtain⟨ag,hs,bh,eD,dQ⟩:=dM id z t n es ai;obtain⟨b,l,ht,ab,ae⟩:=ar hs bh n eD dQ;exact⟨b,l,ht,ag.trans ab,ae⟩
 |aq id c av ar=>
  refine .aq id c (by omega) fun z t n es ai=>?_
  obtain⟨ag,hs,bh,eD,dQ⟩:=dM id z t n es ai;rw[ag];exact ar hs bh n eD dQ
 |fn f p q c d ab ae _ _ hv hy=>exact .fn f p q c d ab ae hv hy
 |ref id c av ar=>
  refine .ref id c (by omega) fun bH ai=>?_
  obtain⟨ag,km,dQ⟩:=nq id bH ai;rw[ag];exact ar km dQ
 |top c=>exact .top c
theorem o4.keep{w w':World}{ro ro':Nat→Prop}{G:aR}(h:o4 w ro G)
 (hw: ∀b,ro b→w'.heap[b]? =w.heap[b]?)(cr: ∀b,ro b→ro' b):o4 w' ro' G:=fun g cs ai=>by
 obtain⟨ab,ae,arr,t,FQ,aw,aM⟩:=h g cs ai
 exact⟨ab.keep hw cr,cr g ae,arr,t,FQ,(hw g ae).trans aw,aM⟩
def aQ.put(s:aQ)(dst:Option Nat)(v:aC):aQ:=
 match dst with
 |some d=>{s with db:=s.db.set d v}
 |none=>s
theorem dn.put{E:Entry}{G:aR}{s:aQ}{a:Act}{w:World}{β:Nat→Value}{ro:Nat→Prop}(h:dn E G s a w β ro)(dst:Option Nat)(v:aC)(c:Value)
 (az:bA w ro s.heap β s.next v c):dn E G (s.put dst v) (a.put dst c) w β ro:=by
 cases dst with
 |none=>exact h
 |some d=>
  refine⟨h.defers,by simpa[Act.put,aQ.put]using h.size,fun i x hx=>?_,h.heap,h.hL,h.trans,h.base⟩
  simp only[aQ.put,Act.put]at hx⊢;rw[List.getElem?_set]at hx
  have bT:=h.size
  by_cases Lq:d=i
  ·subst Lq
   simp only[if_true]at hx
   split at hx
   ·rename_i bE
    simp only[Option.some.injEq]at hx;subst hx
    have:d<a.tmps.size:=by omega
    simpa[this]using az
   ·cases hx
  ·simp only[Lq,if_false]at hx
   have:=h.slot i x hx
   simpa[Array.getElem?_setIfInBounds_ne Lq]using this
end Go.aK
namespace Go.aK
open Go
def aP(G:aR)(s:aQ):Operand→aC
 | .tmp t=>s.db.getD t .top
 | .const v=>if v.oneCell' then .ad (.v v)else .top
 | .global g=>match G g with
  |some cs=>.ad (.ptr cs)
  |none=>.top
 | .func f=>.fn (.func f) [] []
theorem dn.eval{E:Entry}{G:aR}{s:aQ}{a:Act}{w:World}{β:Nat→Value}{ro:Nat→Prop}(h:dn E G s a w β ro)(x:Operand):
 bA w ro s.heap β s.next (aP G s x) (a.eval x):=by
 cases x with
 |tmp t=>
  simp only[aP,Act.eval]
  cases aJ:s.db[t]? with
  |none=>simp only[List.getD,aJ];exact .top _
  |some v=>simp only[List.getD,aJ];exact h.slot t v aJ
 |const v=>
  simp only[aP,Act.eval]
  split
  ·exact .ad _ _ (.v _ (by assumption))
  ·exact .top _
 |global g=>
  simp only[aP,Act.eval]
  split
  ·exact .ad _ _ (h.hL g _ (by assumption)).1
  ·exact .top _
 |func f=>exact .fn _ _ _ _ _ rfl rfl (by simp) (by simp)
def ep(P:Program)(G:aR)(o:Oper)(s s':aQ):Prop:=
 ∀E a w,Rel E G s a w→∀(K:Act→World→Prop) (Q:Exit→Act→World→Prop),(∀bb w',Rel E G s' bb w'→K bb w')→o.wp P a w K Q
def gg(w w':World):Prop:=∀b,b<w.heap.size→w'.heap[b]? =w.heap[b]?
def nx(P:Program)(G:aR)(o:Oper)(s s':aQ):Prop:=
 ∀E a w,Rel E G s a w→∀(K:Act→World→Prop) (Q:Exit→Act→World→Prop),(∀bb w',Rel E G s' bb w'→gg w w'→K bb w')→o.wp P a w K Q
theorem nx.op{P:Program}{G:aR}{o:Oper}{s s':aQ}(h:nx P G o s s'):ep P G o s s':=fun E a w ah K Q hK=>h E a w ah K Q fun bb w' dF _=>hK bb w' dF
section
variable {P:Program} {G:aR} {o:Oper} {s:aQ}
theorem ep.value{v:aC}(h: ∀E a w β ro,dn E G s a w β ro→∃c,(execOp a.eval o).run P w= .ok (.value c) w∧bA w ro s.heap β s.next v c):
 ep P G o s (s.put o.dst v):=by
 intro E a w ⟨β,ro,ah⟩ K Q hK
 obtain⟨c,cy,az⟩:=h E a w β ro ah
 unfold Oper.wp
 rw[cy]
 exact hK _ _ ⟨β,ro,ah.put o.dst v c az⟩
abbrev cY(P:Program)(G:aR)(o:Oper)(s:aQ)(v:aC):Prop:=
 ∀E a w β ro,dn E G s a w β ro→∃c,(execOp a.eval o).run P w= .ok (.value c) w∧bA w ro s.heap β s.next v c
theorem cY.step{v:aC}(h:cY P G o s v):ep P G o s (s.put o.dst v):=.value h
theorem cY.Jl{v:aC}(h:cY P G o s v):nx P G o s (s.put o.dst v):=by
 intro E a w ⟨β,ro,ah⟩ K Q hK
 obtain⟨c,cy,az⟩:=h E a w β ro ah
 unfold Oper.wp
 rw[cy]
 exact hK _ _ ⟨β,ro,ah.put o.dst v c az⟩ fun _ _=>rfl
theorem Sp(x:Operand)(au:o.op= .move x):cY P G o s (aP G s x):=
 fun _ a w _ _ ah=>⟨a.eval x,by simp[execOp,au],ah.eval x⟩
theorem Sq(x:Operand)(au:o.op= .assign x):cY P G o s (aP G s x):=
 fun _ a w _ _ ah=>⟨a.eval x,by simp[execOp,au],ah.eval x⟩
def fG(σ:Heap):aC→Option (List aC)
 | .ad (.ptr cs)=>some (cs.map .ad)
 | .ptr id off=>match aE σ id with
  |some (.box _ cs)=>some (cs.drop off)
  |_=>none
 | .dg id i off=>match aE σ id with
  |some (.row false _ _ es)=>match es[i]? with
   |some e=>some ((e.drop off).map .ad)
   |none=>none
  |_=>none
 |_=>none
theorem pk{α:Type}{n:Nat}: ∀{es:List (List α)},(∀e∈es,e.length=n)→∀{i:Nat} {e:List α},es[i]? =some e→∀j,j<n→es.flatten[i*n+j]? =e[j]?
 |[],_,i,e,h,_,_=>by simp at h
 |x::r,hn,i,e,h,j,aj=>by
  have hx:x.length=n:=hn x (by simp)
  cases i with
  |zero=>
   simp at h;subst h;simp only[List.flatten_cons,Nat.zero_mul,Nat.zero_add];rw[List.getElem?_append_left (by omega)]
  |succ i=>
   simp at h
   have aY:=pk (es:=r) (fun e he=>hn e (by simp[he])) h j aj
   simp only[List.flatten_cons];rw[List.getElem?_append_right (by rw[Nat.succ_mul];omega),←aY]
   congr 1
   rw[Nat.succ_mul];omega
theorem jh{α:Type}{n:Nat}: ∀{es:List (List α)},(∀e∈es,e.length=n)→es.flatten.length=es.length*n
 |[],_=>by simp
 |x::r,hn=>by
  simp only[List.flatten_cons,List.length_append,List.length_cons,Nat.succ_mul];rw[jh (es:=r) (fun e he=>hn e (by simp[he])),hn x (by simp)]
  omega
theorem bA.one{w:World}{ro:Nat→Prop}{σ:Heap}{β:Nat→Value}{N:Nat}{x:aU}{c:Value}(h:bA w ro σ β N (.ad x) c):c.oneCell'=true:=by
 cases h with
 |ad _ _ h=>exact h.one
theorem yJ{w:World}{ro:Nat→Prop}{σ:Heap}{β:Nat→Value}{N:Nat}(aV:gI w ro σ β N){p:aC}{c:Value}{cs:List aC}(ar:fG σ p=some cs)(hc:bA w ro σ β N p c)
 (bW:cs≠[]): ∃a,c= .pointer (some a)∧∃f:Nat→Value,∀j x,cs[j]? =some x→w.cell? (a.add j)=some (f j)∧bA w ro σ β N x (f j):=by
 cases hc with
 |ad x c hx=>
  cases hx with
  |v x=>simp[fG]at ar
  |ptr cs' a f ab ae=>
   simp only[fG,Option.some.injEq]at ar;subst ar;refine⟨a,rfl,f,fun j x aj=>?_⟩
   rw[List.getElem?_map]at aj
   cases qq:cs'[j]? with
   |none=>simp[qq]at aj
   |some y=>
    simp[qq]at aj;subst aj;exact⟨(ab j y qq).2,.ad _ _ (ae j y qq)⟩
  |aq=>simp[fG]at ar
  |mp=>simp[fG]at ar
  |ei=>simp[fG]at ar
  |li=>simp[fG]at ar
 |ptr id off c bE h2=>
  simp only[fG]at ar
  cases au:aE σ id with
  |none=>simp[au]at ar
  |some jy=>
   cases jy with
   |row=>simp[au]at ar
   |bI=>simp[au]at ar
   |box t cs'=>
    simp only[au,Option.some.injEq]at ar;subst ar;obtain⟨b,ag,rfl⟩:=h2 t cs' au
    have dS:=aV.dq id _ au
    cases dS with
    |box _ _ gR arr gJ ai bT fx=>
     rw[ag]at gJ;simp only[Value.pointer.injEq,Option.some.injEq,Addr.mk.injEq,and_true]at gJ;subst gJ;refine⟨_,rfl,fun j=>arr.getD (off+j) undef,fun j x aj=>?_⟩
     rw[List.getElem?_drop]at aj
     have bE:off+j<cs'.length:=by
      rcases Nat.lt_or_ge (off+j) cs'.length with h|h
      ·exact h
      ·rw[List.getElem?_eq_none h]at aj;cases aj
     refine⟨?_,fx _ _ aj⟩
     rw[addLit,cell_of_row w b (off+j) arr t (0,0) ai]
     have:off+j<arr.size:=by omega
     simp[this]
 |dg id i off c bE h2=>
  simp only[fG]at ar
  cases au:aE σ id with
  |none=>simp[au]at ar
  |some jy=>
   cases jy with
   |box=>simp[au]at ar
   |bI=>simp[au]at ar
   |row z t n es=>
    cases z with
    |true=>simp[au]at ar
    |false=>
     simp only[au]at ar
     cases oB:es[i]? with
     |none=>simp[oB]at ar
     |some e=>
      simp only[oB,Option.some.injEq]at ar;subst ar;obtain⟨b,l,ht,ag,rfl⟩:=h2 false t n es au
      have dS:=aV.dq id _ au
      cases dS with
      |row _ _ _ xs h6 hn fx=>
       rw[ag]at h6;obtain⟨yK,m5⟩:=h6
       rcases m5 with⟨⟨_,h,_⟩,aT⟩|⟨g,cap,cur,az,_,ai,hle,jN,fj,lU⟩
       ·have:=(List.getElem?_eq_some_iff.1 oB).1;omega
       ·simp only[Value.slice.injEq,Option.some.injEq,Addr.mk.injEq,and_true]at az
        obtain⟨rfl,_,_⟩:=az;refine⟨_,rfl,fun j=>xs.getD (i*n+(off+j)) undef,fun j x aj=>?_⟩
        rw[List.getElem?_map]at aj
        cases qq:(e.drop off)[j]? with
        |none=>simp[qq]at aj
        |some y=>
         simp[qq]at aj;subst aj;rw[List.getElem?_drop]at qq
         have pn:e.length=n:=hn e (List.mem_of_getElem? oB)
         have qt:off+j<n:=by
          rcases Nat.lt_or_ge (off+j) e.length with h|h
          ·omega
          ·rw[List.getElem?_eq_none h]at qq;cases qq
         have qu:es.flatten[i*n+(off+j)]? =some y:=by rw[pk hn oB _ qt];exact qq
         refine⟨?_,.ad _ _ (fx _ _ qu)⟩
         have m6:i*n+(off+j)<xs.length:=by
          have ab:i*n+(off+j)<es.flatten.length:=by
           rcases Nat.lt_or_ge (i*n+(off+j)) es.flatten.length with h|h
           ·exact h
           ·rw[List.getElem?_eq_none h]at qu;cases qu
          rw[jh hn]at ab
          have ae:=yK
          omega
         rw[addLit,Nat.add_assoc,cell_of_row w b _ cur t (0,0) ai]
         have hx:xs[i*n+(off+j)]? =cur[i*n+(off+j)]? :=by
          rw[←lU,List.getElem?_take]
          have ae:=yK
          rw[if_pos (by omega)]
          simp
         rw[←hx];simp[List.getD,List.getElem?_eq_getElem m6]
 |agg=>simp[fG]at ar
 |tuple=>simp[fG]at ar
 |aq=>simp[fG]at ar
 |fn=>simp[fG]at ar
 |ref=>simp[fG]at ar
 |dN=>simp[fG]at ar
 |top=>simp[fG]at ar
def mb(P:Program)(t:TypeId):Option Nat:=
 match P.underlying t with
 |some (.struct _)|some (.array _ _)=>(P.info? t).map (·.size)
 |_=>none
def scalar(P:Program)(t:TypeId):Bool:=
 match P.underlying t with
 |some (.struct _)|some (.array _ _)|none=>false
 |_=>true
theorem FR{t:TypeId}{n:Nat}(h:mb P t=some n)(w:World):(isAgg t).run P w= .ok true w∧(sizeOf t).run P w= .ok n w:=by
 unfold mb at h
 cases hu:P.underlying t with
 |none=>simp[hu]at h
 |some d=>
  cases hi:P.info? t with
  |none=>cases d<;>simp[hu,hi]at h
  |some i=>
   cases d<;>simp[hu,hi]at h
   all_goals
    subst h;exact⟨by simp[isAgg,run_underlying hu],by simp[sizeOf,typeInfo,hi]⟩
theorem xT{t:TypeId}(h:scalar P t=true)(w:World):(isAgg t).run P w= .ok false w:=by
 unfold scalar at h
 cases hu:P.underlying t with
 |none=>simp[hu]at h
 |some d=>cases d<;>simp[hu]at h<;>simp[isAgg,run_underlying hu]
theorem Sr(t:TypeId)(x:Operand)(au:o.op= .load t x){n:Nat}(aJ:mb P t=some n){cs:List aC}(ar:fG s.heap (aP G s x)=some cs)(hn:n≤cs.length)(aS:0<n):
 cY P G o s (.agg (cs.take n)):=
 fun _ a w β ro ah=>by
  obtain⟨c7,hc,f,hf⟩:=yJ ah.heap ar (ah.eval x) (by intro h;subst h;simp at hn;omega)
  obtain⟨ab,ae⟩:=FR aJ w
  have av:=run_loadCells (P:=P) w c7 n f (fun j aj=>(hf j (cs[j]'(by omega)) (by simp)).1)
  refine⟨.agg ((List.range n).map f).toArray,?_,.agg _ _ (by simp;omega) fun j y aj=>?_⟩
  ·simp[execOp,au,hc,Instr.loadAt,Instr.sureAddr,loadVar,ab,ae,av]
  ·rw[List.getElem?_take]at aj
   split at aj
   ·have:=(hf j y aj).2
    rename_i qt;simpa[qt]using this
   ·cases aj
theorem Lr(t:TypeId)(x:Operand)(au:o.op= .load t x)(aJ:scalar P t=true){y:aC}{cs:List aC}(ar:fG s.heap (aP G s x)=some (y::cs)):
 cY P G o s y:=
 fun _ a w β ro ah=>by
  obtain⟨c7,hc,f,hf⟩:=yJ ah.heap ar (ah.eval x) (by simp)
  have ab:=xT aJ w
  obtain⟨jO,dE⟩:=hf 0 y rfl;rw[show c7.add 0=c7 from by simp[Addr.add]]at jO
  exact⟨f 0,by simp[execOp,au,hc,Instr.loadAt,Instr.sureAddr,loadVar,ab,run_load,jO],dE⟩
def sA(P:Program)(t:TypeId)(f:Nat):Option Nat:=
 match P.underlying t with
 |some (.struct fs)=>match fs[f]? with
  |some fd=>match P.info? fd.type with
   |some i=>if i.size=0 then none else some fd.offset
   |none=>none
  |none=>none
 |_=>none
def jF(k:Nat):aC→Option aC
 | .ad (.ptr cs)=>some (.ad (.ptr (cs.drop k)))
 | .ptr id off=>some (.ptr id (off+k))
 | .dg id i off=>some (.dg id i (off+k))
 |_=>none
theorem Ss{w:World}{ro:Nat→Prop}{σ:Heap}{β:Nat→Value}{N:Nat}{p q:aC}{c:Value}{cs:List aC}{k:Nat}(ao:jF k p=some q)(ar:fG σ p=some cs)(hc:bA w ro σ β N p c):
 ∃a,c= .pointer (some a)∧bA w ro σ β N q (.pointer (some (a.add k))):=by
 cases hc with
 |ad x c hx=>
  cases hx with
  |v x=>simp[jF]at ao
  |ptr cs' a f ab ae=>
   simp only[jF,Option.some.injEq]at ao;subst ao;refine⟨a,rfl,.ad _ _ (.ptr _ _ (fun j=>f (k+j)) (fun j x aj=>?_) (fun j x aj=>?_))⟩
   ·rw[List.getElem?_drop]at aj
    rw[uN,yH];exact ab _ _ aj
   ·rw[List.getElem?_drop]at aj
    exact ae _ _ aj
  |aq=>simp[jF]at ao
  |mp=>simp[jF]at ao
  |ei=>simp[jF]at ao
  |li=>simp[jF]at ao
 |ptr id off c bE h2=>
  simp only[jF,Option.some.injEq]at ao;subst ao;simp only[fG]at ar
  split at ar
  ·rename_i t cs' au
   obtain⟨b,ag,rfl⟩:=h2 t cs' au;refine⟨_,rfl,.ptr _ _ _ bE fun bh zjY lS=>⟨b,ag,by rw[addLit]⟩⟩
  ·cases ar
 |dg id i off c bE h2=>
  simp only[jF,Option.some.injEq]at ao;subst ao;simp only[fG]at ar
  split at ar
  ·rename_i t n es au
   obtain⟨b,l,ht,ag,rfl⟩:=h2 false t n es au;refine⟨_,rfl,.dg _ _ _ _ bE fun hs bh bL eD lS=>⟨b,l,ht,ag,?_⟩⟩
   rw[au]at lS;simp only[Option.some.injEq,ec.row.injEq]at lS;obtain⟨_,_,rfl,_⟩:=lS;rw[addLit,Nat.add_assoc]
  ·cases ar
 |agg=>simp[jF]at ao
 |tuple=>simp[jF]at ao
 |aq=>simp[jF]at ao
 |fn=>simp[jF]at ao
 |ref=>simp[jF]at ao
 |dN=>simp[jF]at ao
 |top=>simp[jF]at ao
theorem St{t f k:Nat}(h:sA P t f=some k)(a:Addr)(w:World):(Instr.fieldAt t (.pointer (some a)) f).run P w= .ok (.pointer (some (a.add k))) w:=by
 unfold sA at h
 split at h
 ·rename_i fs hu
  split at h
  ·rename_i fd hf
   split at h
   ·rename_i i hi
    split at h
    ·cases h
    ·rename_i aT
     simp only[Option.some.injEq]at h;subst h;simp[Instr.fieldAt,run_underlying hu,hf,Instr.sureAddr,fieldPlace,sizeOf,typeInfo,hi,aT]
   ·cases h
  ·cases h
 ·cases h
def jt(σ:Heap):aC→Bool
 | .ad (.ptr _)=>true
 | .ptr id _=>match aE σ id with
  |some (.box _ _)=>true
  |_=>false
 | .dg id _ _=>match aE σ id with
  |some (.row _ _ _ _)=>true
  |_=>false
 |_=>false
def p1(k:Nat):aC→aC
 | .ad (.ptr cs)=>.ad (.ptr (cs.drop k))
 | .ptr id off=>.ptr id (off+k)
 | .dg id i off=>.dg id i (off+k)
 |x=>x
theorem BW{w:World}{ro:Nat→Prop}{σ:Heap}{β:Nat→Value}{N:Nat}{x:aC}{c:Value}(hx:jt σ x=true)(h:bA w ro σ β N x c): ∃a,c= .pointer (some a)∧∀k,bA w ro σ β N (p1 k x) (.pointer (some (a.add k))):=by
 cases h with
 |ad x c ah=>
  cases ah with
  |ptr cs a f ab ae=>
   refine⟨a,rfl,fun k=>.ad _ _ (.ptr _ _ (fun j=>f (k+j)) (fun j x aj=>?_) (fun j x aj=>?_))⟩
   ·rw[List.getElem?_drop]at aj
    rw[uN,yH];exact ab _ _ aj
   ·rw[List.getElem?_drop]at aj
    exact ae _ _ aj
  |v=>simp[jt]at hx
  |aq=>simp[jt]at hx
  |mp=>simp[jt]at hx
  |ei=>simp[jt]at hx
  |li=>simp[jt]at hx
 |ptr id off c av ar=>
  simp only[jt]at hx
  split at hx
  ·rename_i t cs ai
   obtain⟨b,ag,rfl⟩:=ar t cs ai;refine⟨_,rfl,fun k=>.ptr id (off+k) _ av fun bh cs' dQ=>?_⟩
   obtain⟨gR,gJ,BX⟩:=ar bh cs' dQ;rw[ag]at gJ;simp only[Value.pointer.injEq,Option.some.injEq,Addr.mk.injEq,and_true]at gJ;subst gJ;exact⟨b,ag,by rw[addLit]⟩
  ·cases hx
 |dg id i off c av ar=>
  simp only[jt]at hx
  split at hx
  ·rename_i z t n es ai
   obtain⟨b,l,ht,ag,rfl⟩:=ar z t n es ai;refine⟨_,rfl,fun k=>.dg id i (off+k) _ av fun hs bh bL eD dQ=>?_⟩
   rw[ai]at dQ;simp only[Option.some.injEq,ec.row.injEq]at dQ;obtain⟨_,_,rfl,_⟩:=dQ;exact⟨b,l,ht,ag,by rw[addLit,Nat.add_assoc]⟩
  ·cases hx
 |_=>simp[jt]at hx
theorem Su(t:TypeId)(x:Operand)(f:Nat)(au:o.op= .fieldAddr t x f){k:Nat}(an:sA P t f=some k)(ar:jt s.heap (aP G s x)=true):cY P G o s (p1 k (aP G s x)):=
 fun _ a w β ro ah=>by
  obtain⟨c7,hc,dE⟩:=BW ar (ah.eval x);exact⟨_,by simp[execOp,au,hc,St an],dE k⟩
theorem Sv(x:Operand)(au:o.op= .nilCheck x)(ar:jt s.heap (aP G s x)=true):cY P G o s (aP G s x):=
 fun _ a w β ro ah=>by
  obtain⟨c7,hc,_⟩:=BW ar (ah.eval x);exact⟨_,by simp[execOp,au,hc],hc ▸ ah.eval x⟩
end
end Go.aK
namespace Go.aK
open Go
def iH(β:Nat→Value)(id:Nat)(v:Value):Nat→Value:=fun k=>if k=id then v else β k
theorem eT(β:Nat→Value)(id:Nat)(v:Value):iH β id v id=v:=by simp[iH]
theorem dB(β:Nat→Value){id k:Nat}(v:Value)(h:k≠id):iH β id v k=β k:=by simp[iH,h]
section
variable {E:Entry} {G:aR} {s:aQ} {a:Act} {w w':World} {β:Nat→Value} {ro:Nat→Prop}
theorem m4.keep{w w':World}{ro ro':Nat→Prop}{σ cU:Heap}{β cK:Nat→Value}{N mN:Nat}{id:Nat}{o:ec}(h:m4 w ro σ β N id o)
 (hw: ∀b,ro b→w'.heap[b]? =w.heap[b]?)(cr: ∀b,ro b→ro' b)(me:N≤mN)(bT:w.heap.size≤w'.heap.size)(bf:cK id=β id)(ix:o.live=true→∀b,cz (β id)=some b→w'.heap[b]? =w.heap[b]?)
 (mO: ∀id t cs,aE cU id=some (.box t cs)→cK id=β id∧∃t cs,aE σ id=some (.box t cs))
 (dM: ∀id z t n es,aE cU id=some (.row z t n es)→cK id=β id∧∃z t es,aE σ id=some (.row z t n es))
 (nq: ∀id bH,aE cU id=some (.bI bH)→cK id=β id∧∃bH,aE σ id=some (.bI bH)):m4 w' ro' cU cK mN id o:=by
 cases h with
 |box t cs b arr ab ae aw aM=>
  exact .box t cs b arr (bf.trans ab) ((ix rfl b (by rw[ab];rfl)).trans ae) aw fun j x aj=>(aM j x aj).keep hw cr me mO dM nq
 |row t n es xs ab ae aw=>
  exact .row t n es xs (by rw[bf];exact ab.keep (fun b ag=>ix rfl b ag) bT) ae fun j x aj=>(aw j x aj).keep hw cr
 |fW t n es ab=>exact .fW t n es (by rw[bf];exact ab.keep hw cr)
 |bI bH b o ab ae aw=>exact .bI bH b o (by rw[bf];exact ab) ((ix rfl b ab).trans ae) (by rw[bf];exact bH.mono _ _ _ _ (fun x c h=>h.keep hw cr) aw)
theorem dn.new(h:dn E G s a w β ro)(id:Nat)(bf:aE s.heap id=none)(ag:s.base≤id)(bE:s.next≤id)(o:ec)(val:Value)
 (qv:w'.os=w.os)(qw:w'.tape=w.tape)(iI:w'.output=w.output)(bT:w.heap.size≤w'.heap.size)(hw: ∀b,b<w.heap.size→w'.heap[b]? =w.heap[b]?)
 (ix: ∀b,cz val=some b→w.heap.size≤b)(_hlive:o.live=true)
 (dS:m4 w' ro ((id,o)::s.heap) (iH β id val) (id+1) id o):dn E G {s with heap:=(id,o)::s.heap,next:=id+1} a w' (iH β id val) ro:=by
 have cr: ∀b,ro b→w'.heap[b]? =w.heap[b]? :=fun b ah=>hw b (h.heap.lt b ah)
 have ai: ∀k,k≠id→aE ((id,o)::s.heap) k=aE s.heap k:=fun k an=>by simp[aE,Ne.symm an]
 have wJ:aE ((id,o)::s.heap) id=some o:=by simp[aE]
 have BY: ∀k p b,aE s.heap k=some p→p.live=true→cz (β k)=some b→b<w.heap.size:=fun k p b an ar bc=>(h.heap.dq k p an).iG ar bc
 have key: ∀x c,bA w ro s.heap β s.next x c→bA w' ro ((id,o)::s.heap) (iH β id val) (id+1) x c:=by
  intro x c hx
  induction hx with
  |ad x c hx=>exact .ad x c (hx.keep cr fun _ h=>h)
  |agg cs c ao _ aY=>exact .agg cs c ao aY
  |tuple cs c ao _ aY=>exact .tuple cs c ao aY
  |ptr k off c av ar=>
   have an:k≠id:=by omega
   exact .ptr k off c (by omega) fun t cs bz=>by rw[dB _ _ an];rw[ai k an]at bz;exact ar t cs bz
  |dN k off c av ar=>
   have an:k≠id:=by omega
   exact .dN k off c (by omega) fun t cs bz=>by rw[dB _ _ an];rw[ai k an]at bz;exact ar t cs bz
  |dg k i off c av ar=>
   have an:k≠id:=by omega
   exact .dg k i off c (by omega) fun z t n es bz=>by rw[dB _ _ an];rw[ai k an]at bz;exact ar z t n es bz
  |aq k c av ar=>
   have an:k≠id:=by omega
   exact .aq k c (by omega) fun z t n es bz=>by rw[dB _ _ an];rw[ai k an]at bz;exact ar z t n es bz
  |fn f p q c d ab ae _ _ hv hy=>exact .fn f p q c d ab ae hv hy
  |ref k c av ar=>
   have an:k≠id:=by omega
   exact .ref k c (by omega) fun bH bz=>by rw[dB _ _ an];rw[ai k an]at bz;exact ar bH bz
  |top c=>exact .top c
 refine⟨h.defers,h.size,fun i x hx=>key _ _ (h.slot i x hx),⟨fun k p an=>?_,fun k a8 p gW b an fk ar hU bc eH=>?_,fun b ah=>?_,fun b ah=>Nat.lt_of_lt_of_le (h.heap.lt b ah) bT⟩,
  h.hL.keep cr fun _ h=>h,?_,h.base⟩
 ·by_cases bF:k=id
  ·subst bF
   rw[wJ]at an;simp only[Option.some.injEq]at an;subst an;exact dS
  ·rw[ai k bF]at an
   have fM:=h.heap.dq k p an
   cases fM with
   |box t cs b arr ab ae aw aM=>
    have j8:=BY k _ b an rfl (by rw[ab];rfl)
    exact .box t cs b arr (by rw[dB _ _ bF];exact ab) ((hw b j8).trans ae) aw fun j x aj=>key _ _ (aM j x aj)
   |row t n es xs ab ae aw=>
    exact .row t n es xs (by rw[dB _ _ bF];exact ab.keep (fun b ag=>hw b (ab.iG ag).1) bT) ae fun j x aj=>(aw j x aj).keep cr fun _ h=>h
   |fW t n es ab=>exact .fW t n es (by rw[dB _ _ bF];exact ab.keep cr fun _ h=>h)
   |bI bH b o ab ae aw=>exact .bI bH b o (by rw[dB _ _ bF];exact ab) ((hw b (Array.getElem?_eq_some_iff.1 ae).1).trans ae) (by rw[dB _ _ bF];exact bH.mono _ _ _ _ (fun x c h=>h.keep cr fun _ h=>h) aw)
 ·by_cases bF:k=id
  ·by_cases hV:a8=id
   ·rw[bF,hV]
   ·subst bF
    rw[eT]at bc;rw[dB _ _ hV]at eH;rw[ai a8 hV]at fk
    have ab:=ix b bc
    have ae:=BY a8 gW b fk hU eH
    omega
  ·by_cases hV:a8=id
   ·subst hV
    rw[eT]at eH;rw[dB _ _ bF]at bc;rw[ai k bF]at an
    have ab:=ix b eH
    have ae:=BY k p b an ar bc
    omega
   ·rw[dB _ _ bF]at bc
    rw[dB _ _ hV]at eH;rw[ai k bF]at an;rw[ai a8 hV]at fk;exact h.heap.inj k a8 p gW b an fk ar hU bc eH
 ·rintro⟨k,p,an,ar,bc⟩
  by_cases bF:k=id
  ·subst bF
   rw[eT]at bc
   have ab:=ix b bc
   have ae:=h.heap.lt b ah
   omega
  ·rw[dB _ _ bF]at bc
   rw[ai k bF]at an;exact h.heap.e8 b ah ⟨k,p,an,ar,bc⟩
 ·have t:=h.trans
  refine⟨qv.trans t.os,qw.trans t.tape,iI.trans t.output,Nat.le_trans t.size bT,fun b j8 gQ=>?_,t.hz,t.gA,?_,fun k an p bz=>?_,fun k p bz=>?_,Nat.le_trans h.base (Nat.le_trans ag (Nat.le_succ _))⟩
  ·rw[hw b (Nat.lt_of_lt_of_le j8 t.size)]
   exact t.frame b j8 gQ
  ·rintro b ⟨k,p,an,ar,bc⟩
   by_cases bF:k=id
   ·subst bF
    rw[eT]at bc;exact .inr (Nat.le_trans t.size (ix b bc))
   ·rw[dB _ _ bF]at bc
    rw[ai k bF]at an;exact t.fU b ⟨k,p,an,ar,bc⟩
  ·have bF:k≠id:=by have:=h.base;omega
   rw[ai k bF]at bz;rw[dB _ _ bF];exact t.ea k an p bz
  ·by_cases bF:k=id
   ·subst bF;exact Nat.lt_succ_self _
   ·rw[ai k bF]at bz
    have:=t.new k p bz
    show k<id+1;omega
theorem dn.write(h:dn E G s a w β ro)(id:Nat)(o cb:ec)(bf:aE s.heap id=some o)(yL:o.live=true)(zjZ:cb.live=true)
 (BZ:(∃t cs cs',o= .box t cs∧cb= .box t cs')∨(∃t n es eD,o= .row false t n es∧cb= .row false t n eD)∨(∃bH km,o= .bI bH∧cb= .bI km))
 (qv:w'.os=w.os)(qw:w'.tape=w.tape)(iI:w'.output=w.output)(bT:w.heap.size≤w'.heap.size)(hw: ∀b,b<w.heap.size→cz (β id)≠some b→w'.heap[b]? =w.heap[b]?)
 (dS:m4 w' ro (eA s.heap id cb) β s.next id cb):dn E G {s with heap:=eA s.heap id cb} a w' β ro:=by
 have cr: ∀b,ro b→w'.heap[b]? =w.heap[b]? :=fun b ah=>hw b (h.heap.lt b ah) fun ag=>h.heap.e8 b ah ⟨id,o,bf,yL,ag⟩
 have ai:=ur s.heap id cb
 have own: ∀b,Own (eA s.heap id cb) β b→Own s.heap β b:=by
  rintro b ⟨k,p,an,ar,bc⟩
  rw[ai k]at an
  by_cases bF:id=k
  ·subst bF;exact⟨id,o,bf,yL,bc⟩
  ·rw[if_neg bF]at an;exact⟨k,p,an,ar,bc⟩
 have rJ: ∀k p b,aE s.heap k=some p→p.live=true→cz (β k)=some b→b<w.heap.size:=fun k p b an ar bc=>(h.heap.dq k p an).iG ar bc
 have mO: ∀k t cs,aE (eA s.heap id cb) k=some (.box t cs)→β k=β k∧∃t cs,aE s.heap k=some (.box t cs):=by
  intro k t cs an;rw[ai k]at an
  by_cases bF:id=k
  ·subst bF
   rw[if_pos rfl]at an;simp only[Option.some.injEq]at an
   rcases BZ with⟨t1,aB,bU,rfl,rfl⟩|⟨t1,n,aD,bg,rfl,rfl⟩|⟨_,_,rfl,rfl⟩
   ·exact⟨rfl,t1,aB,bf⟩
   ·cases an
   ·cases an
  ·rw[if_neg bF]at an;exact⟨rfl,t,cs,an⟩
 have dM: ∀k z t n es,aE (eA s.heap id cb) k=some (.row z t n es)→β k=β k∧∃z t es,aE s.heap k=some (.row z t n es):=by
  intro k z t n es an;rw[ai k]at an
  by_cases bF:id=k
  ·subst bF
   rw[if_pos rfl]at an;simp only[Option.some.injEq]at an
   rcases BZ with⟨t1,aB,bU,rfl,rfl⟩|⟨t1,hM,aD,bg,rfl,rfl⟩|⟨_,_,rfl,rfl⟩
   ·cases an
   ·simp only[ec.row.injEq]at an
    obtain⟨_,_,rfl,_⟩:=an;exact⟨rfl,_,_,_,bf⟩
   ·cases an
  ·rw[if_neg bF]at an;exact⟨rfl,z,t,es,an⟩
 have nq: ∀k bH,aE (eA s.heap id cb) k=some (.bI bH)→β k=β k∧∃bH,aE s.heap k=some (.bI bH):=by
  intro k bH an;rw[ai k]at an
  by_cases bF:id=k
  ·subst bF
   rw[if_pos rfl]at an;simp only[Option.some.injEq]at an
   rcases BZ with⟨t1,aB,bU,rfl,rfl⟩|⟨t1,hM,aD,bg,rfl,rfl⟩|⟨zcE,_,rfl,rfl⟩
   ·cases an
   ·cases an
   ·exact⟨rfl,zcE,bf⟩
  ·rw[if_neg bF]at an;exact⟨rfl,bH,an⟩
 refine⟨h.defers,h.size,fun i x hx=>(h.slot i x hx).keep cr (fun _ h=>h) (Nat.le_refl _) mO dM nq,⟨fun k p an=>?_,fun k a8 p gW b an fk ar hU bc eH=>?_,fun b ah ag=>h.heap.e8 b ah (own b ag),
  fun b ah=>Nat.lt_of_lt_of_le (h.heap.lt b ah) bT⟩,h.hL.keep cr fun _ h=>h,?_,h.base⟩
 ·rw[ai k]at an
  by_cases bF:id=k
  ·subst bF
   rw[if_pos rfl]at an;simp only[Option.some.injEq]at an;subst an;exact dS
  ·rw[if_neg bF]at an
   refine(h.heap.dq k p an).keep cr (fun _ h=>h) (Nat.le_refl _) bT rfl (fun av b ag=>hw b (rJ k p b an av ag) fun k2=>bF (h.heap.inj id k o p b bf an yL av k2 ag)) mO dM nq
 ·have ab: ∃q,aE s.heap k=some q∧q.live=true:=by
   rw[ai k]at an
   by_cases bF:id=k
   ·subst bF;exact⟨o,bf,yL⟩
   ·rw[if_neg bF]at an;exact⟨p,an,ar⟩
  have ae: ∃q,aE s.heap a8=some q∧q.live=true:=by
   rw[ai a8]at fk
   by_cases bF:id=a8
   ·subst bF;exact⟨o,bf,yL⟩
   ·rw[if_neg bF]at fk;exact⟨gW,fk,hU⟩
  obtain⟨q,aG,sY⟩:=ab;obtain⟨iF,wK,B0⟩:=ae;exact h.heap.inj k a8 q iF b aG wK sY B0 bc eH
 ·have t:=h.trans
  refine⟨qv.trans t.os,qw.trans t.tape,iI.trans t.output,Nat.le_trans t.size bT,fun b j8 gQ=>?_,t.hz,t.gA,fun b ag=>t.fU b (own b ag),fun k an p bz=>?_,fun k p bz=>?_,t.le⟩
  ·by_cases k2:cz (β id)=some b
   ·rcases t.fU b ⟨id,o,bf,yL,k2⟩with hc|hc
    ·exact absurd hc gQ
    ·omega
   ·rw[hw b (Nat.lt_of_lt_of_le j8 t.size) k2]
    exact t.frame b j8 gQ
  ·rw[ai k]at bz
   by_cases bF:id=k
   ·subst bF;exact t.ea id an o bf
   ·rw[if_neg bF]at bz;exact t.ea k an p bz
  ·rw[ai k]at bz
   by_cases bF:id=k
   ·subst bF;exact t.new id o bf
   ·rw[if_neg bF]at bz;exact t.new k p bz
end
end Go.aK
namespace Go.aK
open Go
def c1:aC→List aC
 | .agg cs=>cs
 |x=>[x]
section
variable {w:World} {ro:Nat→Prop} {σ:Heap} {β:Nat→Value} {N:Nat}
def eZ(σ:Heap):aC→Bool
 | .ad _| .fn _ _ _=>true
 | .ptr id _=>match aE σ id with
  |some (.box _ _)=>true
  |_=>false
 | .aq id=>match aE σ id with
  |some (.row _ _ _ _)=>true
  |_=>false
 | .dg id _ _=>match aE σ id with
  |some (.row _ _ _ _)=>true
  |_=>false
 |_=>false
theorem FT(aV:gI w ro σ β N){x:aC}{c:Value}(hx:eZ σ x=true)(h:bA w ro σ β N x c):c.oneCell'=true:=by
 cases h with
 |ad x c h=>exact h.one
 |agg=>simp[eZ]at hx
 |tuple=>simp[eZ]at hx
 |ptr id off c av ar=>
  simp only[eZ]at hx
  split at hx
  ·rename_i t cs ai
   obtain⟨b,_,rfl⟩:=ar t cs ai;rfl
  ·cases hx
 |dg id i off c av ar=>
  simp only[eZ]at hx
  split at hx
  ·rename_i z t n es ai
   obtain⟨b,l,ht,_,rfl⟩:=ar z t n es ai;rfl
  ·cases hx
 |aq id c av ar=>
  simp only[eZ]at hx
  split at hx
  ·rename_i z t n es ai
   rw[ar z t n es ai]
   have:=aV.dq id _ ai
   cases this with
   |row _ _ _ xs ab=>
    rcases ab.2 with⟨⟨_,az,_⟩,_⟩|⟨g,cap,cur,az,_⟩<;>rw[az]<;>rfl
   |fW _ _ _ ab=>exact ab.one
  ·cases hx
 |fn=>rfl
 |ref=>simp[eZ]at hx
 |dN=>simp[eZ]at hx
 |top=>simp[eZ]at hx
theorem bA.c1{x:aC}{c:Value}(h:bA w ro σ β N x c)(fi:(c1 x).all (eZ σ)=true)(aV:gI w ro σ β N):
 c.cells.size=(c1 x).length∧(∀j y,(Go.aK.c1 x)[j]? =some y→bA w ro σ β N y (c.cells.getD j undef))∧∀u∈c.cells.toList,u.oneCell'=true:=by
 cases h with
 |agg cs c ao hc=>
  refine⟨ao,hc,fun u hu=>?_⟩
  obtain⟨j,aj,rfl⟩:=List.mem_iff_getElem.1 hu
  have Sw:j<cs.length:=by simpa[Value.cells,ao]using aj
  have ab:=hc j cs[j] (List.getElem?_eq_getElem Sw)
  have ae:eZ σ cs[j]=true:=by
   simp only[Go.aK.c1,List.all_eq_true]at fi;exact fi _ (List.getElem_mem Sw)
  have aw:=FT aV ae ab
  have B1:j<c.size:=by omega
  simpa[Value.cells,B1]using aw
 |ad x c hx=>
  have ab:c.cells= #[c]:=by have:=hx.one;cases c<;>simp_all[Value.cells,Value.oneCell']
  refine⟨by simp[ab,Go.aK.c1],fun j y aj=>?_,fun u hu=>?_⟩
  ·cases j with
   |zero=>simp[Go.aK.c1]at aj;subst aj;simpa[ab]using bA.ad x c hx
   |succ j=>simp[Go.aK.c1]at aj
  ·simp[ab]at hu;subst hu;exact hx.one
 |tuple cs c ao hc=>simp[Go.aK.c1,eZ]at fi
 |top c=>simp[Go.aK.c1,eZ]at fi
 |ref id c=>simp[Go.aK.c1,eZ]at fi
 |dN id n c=>simp[Go.aK.c1,eZ]at fi
 |ptr id off c av ar=>
  have hx:eZ σ (.ptr id off)=true:=by simpa[Go.aK.c1]using fi
  have sZ:=FT aV hx (bA.ptr (w:=w) (ro:=ro) id off c av ar)
  have ab:c.cells= #[c]:=by cases c<;>simp_all[Value.cells,Value.oneCell']
  refine⟨by simp[ab,Go.aK.c1],fun j y aj=>?_,fun u hu=>?_⟩
  ·cases j with
   |zero=>simp[Go.aK.c1]at aj;subst aj;simpa[ab]using bA.ptr id off c av ar
   |succ j=>simp[Go.aK.c1]at aj
  ·simp[ab]at hu;subst hu;exact sZ
 |dg id i off c av ar=>
  have hx:eZ σ (.dg id i off)=true:=by simpa[Go.aK.c1]using fi
  have sZ:=FT aV hx (bA.dg (w:=w) (ro:=ro) id i off c av ar)
  have ab:c.cells= #[c]:=by cases c<;>simp_all[Value.cells,Value.oneCell']
  refine⟨by simp[ab,Go.aK.c1],fun j y aj=>?_,fun u hu=>?_⟩
  ·cases j with
   |zero=>simp[Go.aK.c1]at aj;subst aj;simpa[ab]using bA.dg id i off c av ar
   |succ j=>simp[Go.aK.c1]at aj
  ·simp[ab]at hu;subst hu;exact sZ
 |aq id c av ar=>
  have hx:eZ σ (.aq id)=true:=by simpa[Go.aK.c1]using fi
  have sZ:=FT aV hx (bA.aq (w:=w) (ro:=ro) id c av ar)
  have ab:c.cells= #[c]:=by cases c<;>simp_all[Value.cells,Value.oneCell']
  refine⟨by simp[ab,Go.aK.c1],fun j y aj=>?_,fun u hu=>?_⟩
  ·cases j with
   |zero=>simp[Go.aK.c1]at aj;subst aj;simpa[ab]using bA.aq id c av ar
   |succ j=>simp[Go.aK.c1]at aj
  ·simp[ab]at hu;subst hu;exact sZ
 |fn f p q c d ab ae aw aM=>
  refine⟨by simp[Value.cells,Go.aK.c1],fun j y aj=>?_,fun u hu=>?_⟩
  ·cases j with
   |zero=>simp[Go.aK.c1]at aj;subst aj;simpa[Value.cells]using bA.fn f p q c d ab ae aw aM
   |succ j=>simp[Go.aK.c1]at aj
  ·simp[Value.cells]at hu;subst hu;rfl
end
section
variable {P:Program} {G:aR} {o:Oper} {s:aQ}
theorem Sx(t:TypeId)(c:Value)(w:World):(newVar t c).run P w= .ok ⟨w.heap.size,0,none⟩ (w.alloc (.cells c.cells t)):=by
 simp[newVar,newRow]
theorem nx.Sy{t:TypeId}{cs:List aC}(h: ∀E a w β ro,dn E G s a w β ro→∃arr:Array Value,(execOp a.eval o).run P w= .ok (.value (.pointer (some ⟨w.heap.size,0,none⟩))) (w.alloc (.cells arr t))∧
      arr.size=cs.length∧∀j x,cs[j]? =some x→bA w ro s.heap β s.next x (arr.getD j undef))(ag:s.base≤s.next):
    nx P G o s ({s with heap:=(s.next,.box t cs)::s.heap,next:=s.next+1}.put o.dst (.ptr s.next 0)):=by
  intro E a w ⟨β,ro,ah⟩ K Q hK;obtain⟨arr,cy,bT,fx⟩:=h E a w β ro ah;unfold Oper.wp;rw[cy]
  have kr:aE s.heap s.next=none:=by
    cases ai:aE s.heap s.next with
    |none=>rfl
    |some p=>have:=ah.trans.new _ _ ai;omega
  have gh:dn E G {s with heap:=(s.next,.box t cs)::s.heap,next:=s.next+1} a (w.alloc (.cells arr t)) (iH β s.next (.pointer (some ⟨w.heap.size,0,none⟩))) ro:=by
    refine ah.new s.next kr ag (Nat.le_refl _) _ _ rfl rfl rfl (by simp) (fun b ag=>Go.RowKit.Below.heap_alloc w _ b ag) (fun b ag=>by simp[cz]at ag;omega) rfl ?_
    refine .box t cs w.heap.size arr (eT _ _ _) (heap_alloc_new w _) bT fun j x aj=>?_
    have hx:=fx j x aj
    have cr: ∀b,ro b→(w.alloc (.cells arr t)).heap[b]? =w.heap[b]? :=fun b ag=>Go.RowKit.Below.heap_alloc w _ b (ah.heap.lt b ag)
    clear aj fx;generalize arr.getD j undef=c at hx
    induction hx with
    |ad x c hx=>exact .ad x c (hx.keep cr fun _ h=>h)
    |agg cs c ao _ aY=>exact .agg cs c ao aY
    |tuple cs c ao _ aY=>exact .tuple cs c ao aY
    |ptr k off c av ar=>
      have an:k≠s.next:=by omega
      exact .ptr k off c (by omega) fun t cs bz=>by rw[dB _ _ an];simp only[aE,if_neg (Ne.symm an)]at bz;exact ar t cs bz
    |dN k off c av ar=>
      have an:k≠s.next:=by omega
      exact .dN k off c (by omega) fun t cs bz=>by rw[dB _ _ an];simp only[aE,if_neg (Ne.symm an)]at bz;exact ar t cs bz
    |dg k i off c av ar=>
      have an:k≠s.next:=by omega
      exact .dg k i off c (by omega) fun z t n es bz=>by rw[dB _ _ an];simp only[aE,if_neg (Ne.symm an)]at bz;exact ar z t n es bz
    |aq k c av ar=>
      have an:k≠s.next:=by omega
      exact .aq k c (by omega) fun z t n es bz=>by rw[dB _ _ an];simp only[aE,if_neg (Ne.symm an)]at bz;exact ar z t n es bz
    |fn f p q c d ab ae _ _ hv hy=>exact .fn f p q c d ab ae hv hy
    |ref k c av ar=>
      have an:k≠s.next:=by omega
      exact .ref k c (by omega) fun bH bz=>by rw[dB _ _ an];simp only[aE,if_neg (Ne.symm an)]at bz;exact ar bH bz
    |top c=>exact .top c
  refine hK _ _ ⟨_,ro,gh.put o.dst _ _ ?_⟩ fun b ag=>Go.RowKit.Below.heap_alloc w _ b ag
  refine .ptr _ _ _ (Nat.lt_succ_self _) fun bh cs' ai=>⟨w.heap.size,eT _ _ _,rfl⟩
theorem Sz(t:TypeId)(x:Operand)(au:o.op= .box t x)(ag:s.base≤s.next)(fi:(c1 (aP G s x)).all (eZ s.heap)=true):
 nx P G o s ({s with heap:=(s.next,.box t (c1 (aP G s x)))::s.heap,next:=s.next+1}.put o.dst (.ptr s.next 0)):=
 .Sy (fun _ a w β ro ah=>by
  obtain⟨ab,ae,_⟩:=(ah.eval x).c1 fi ah.heap
  exact⟨(a.eval x).cells,by simp[execOp,au,Instr.box,Sx],ab,ae⟩) ag
theorem Jk(t:TypeId)(x:Operand)(au:o.op= .box t x)(ag:s.base≤s.next)(fi:(c1 (aP G s x)).all (eZ s.heap)=true):
 ep P G o s ({s with heap:=(s.next,.box t (c1 (aP G s x)))::s.heap,next:=s.next+1}.put o.dst (.ptr s.next 0)):=(Sz t x au ag fi).op
def zeroCells(P:Program)(t:TypeId):Option (List Value):=
 match P.info? t with
 |some i=>match i.zero with
  |some z=>some z.cells.toList
  |none=>none
 |none=>none
theorem yM{t:TypeId}{zs:List Value}(h:zeroCells P t=some zs)(w:World): ∃z:Value,(zeroValue t).run P w= .ok z w∧z.cells=zs.toArray∧∃i,P.info? t=some i∧i.zero=some z:=by
 unfold zeroCells at h
 cases hi:P.info? t with
 |none=>simp[hi]at h
 |some i=>
  cases aT:i.zero with
  |none=>simp[hi,aT]at h
  |some z=>
   simp[hi,aT]at h;exact⟨z,by simp[zeroValue,typeInfo,hi,aT],by rw[←h],i,rfl,aT⟩
theorem SA(t:TypeId)(au:o.op= .alloc t)(ag:s.base≤s.next){zs:List Value}(aT:zeroCells P t=some zs)(fi:zs.all Value.oneCell'=true):
 nx P G o s ({s with heap:=(s.next,.box t (zs.map fun z=>.ad (.v z)))::s.heap,next:=s.next+1}.put o.dst (.ptr s.next 0)):=
 .Sy (fun _ a w β ro ah=>by
  obtain⟨z,cy,oC,_⟩:=yM aT w;refine⟨z.cells,by simp[execOp,au,Instr.alloc,cy,Sx],by simp[oC],fun j x aj=>?_⟩
  rw[List.getElem?_map]at aj
  cases s0:zs[j]? with
  |none=>simp[s0]at aj
  |some y=>
   simp[s0]at aj;subst aj
   have:y.oneCell'=true:=by
    rw[List.all_eq_true]at fi;exact fi y (List.mem_of_getElem? s0)
   rw[oC]
   simpa[s0]using bA.ad (w:=w) (ro:=ro) (σ:=s.heap) (β:=β) (N:=s.next) _ _ (.v y this)) ag
theorem Jj(t:TypeId)(au:o.op= .alloc t)(ag:s.base≤s.next){zs:List Value}(aT:zeroCells P t=some zs)(fi:zs.all Value.oneCell'=true):
 ep P G o s ({s with heap:=(s.next,.box t (zs.map fun z=>.ad (.v z)))::s.heap,next:=s.next+1}.put o.dst (.ptr s.next 0)):=(SA t au ag aT fi).op
end
end Go.aK
namespace Go.aK
open Go
section
variable {P:Program} {G:aR} {o:Oper} {s:aQ}
theorem Ls{w w':World}{ro:Nat→Prop}{σ:Heap}{β:Nat→Value}{N id:Nat}{t:TypeId}{cs cs':List aC}(bf:aE σ id=some (.box t cs)){x:aC}{c:Value}
 (h:bA w ro σ β N x c)(cr: ∀b,ro b→w'.heap[b]? =w.heap[b]?):bA w' ro (eA σ id (.box t cs')) β N x c:=by
 refine h.keep cr (fun _ h=>h) (Nat.le_refl _) (fun k t1 aB an=>?_) (fun k z t1 n es an=>?_) (fun k bH an=>?_)
 ·rw[ur]at an
  by_cases bF:id=k
  ·subst bF;exact⟨rfl,t,cs,bf⟩
  ·rw[if_neg bF]at an;exact⟨rfl,t1,aB,an⟩
 ·rw[ur]at an
  by_cases bF:id=k
  ·subst bF;rw[if_pos rfl]at an;cases an
  ·rw[if_neg bF]at an;exact⟨rfl,z,t1,es,an⟩
 ·rw[ur]at an
  by_cases bF:id=k
  ·subst bF;rw[if_pos rfl]at an;cases an
  ·rw[if_neg bF]at an;exact⟨rfl,bH,an⟩
def en{α:Type}(cs:List α)(off:Nat)(vs:List α):List α:=cs.take off++(vs++cs.drop (off+vs.length))
theorem po{α:Type}(cs:List α)(off:Nat)(vs:List α)(h:off+vs.length≤cs.length):(en cs off vs).length=cs.length:=by
 simp[en];omega
theorem FU{α β:Type}(R:α→β→Prop)(d:β){cs vs:List α}{xs ys:List β}{off:Nat}(av:cs.length≤xs.length)(az:vs.length=ys.length)(B2:off+vs.length≤cs.length)
 (ab: ∀j x,cs[j]? =some x→R x (xs.getD j d))(ae: ∀j x,vs[j]? =some x→R x (ys.getD j d)): ∀j x,(en cs off vs)[j]? =some x→R x ((en xs off ys).getD j d):=by
 intro j x aj
 unfold en at*
 by_cases a6:j<off
 ·rw[List.getElem?_append_left (by simp;omega),List.getElem?_take,if_pos a6]at aj
  have:=ab j x aj
  rw[List.getD,List.getElem?_append_left (by simp;omega),List.getElem?_take,if_pos a6]
  exact this
 ·have aD:(cs.take off).length=off:=by simp;omega
  have bg:(xs.take off).length=off:=by simp;omega
  rw[List.getElem?_append_right (by omega),aD]at aj
  rw[List.getD,List.getElem?_append_right (by omega),bg]
  by_cases ag:j-off<vs.length
  ·rw[List.getElem?_append_left ag]at aj
   rw[List.getElem?_append_left (by omega)]
   exact ae _ _ aj
  ·rw[List.getElem?_append_right (by omega),List.getElem?_drop]at aj
   rw[List.getElem?_append_right (by omega),List.getElem?_drop]
   have cM:off+vs.length+(j-off-vs.length)=j:=by omega
   have dU:off+ys.length+(j-off-ys.length)=j:=by omega
   rw[cM]at aj;rw[dU];exact ab j x aj
theorem SB(t:TypeId)(b off:Nat)(c:Value)(w:World)(bt:TypeId)(arr:Array Value)(ai:w.heap[b]? =some (.cells arr bt (0,0)))(bT:(P.info? t).map (·.size)=some c.cells.size)
 (uO:off+c.cells.size≤arr.size)(ab: ∀u∈c.cells.toList,u.oneCell'=true):
 (Instr.storeAt t (.pointer (some ⟨b,off,none⟩)) c).run P w= .ok () (w.setRow b (en arr.toList off c.cells.toList).toArray):=by
 have eC:=run_storeCells_at P b off bt c.cells.toList 0 arr w ai (by simpa using uO) ab
 cases hi:P.info? t with
 |none=>simp[hi]at bT
 |some i=>
  have ao:i.size=c.cells.size:=by simpa[hi]using bT
  simp only[Nat.add_zero,List.append_assoc]at eC;simp only[Instr.storeAt,Instr.sureAddr,storeVar,sizeOf,typeInfo,Sem.run_bind,Sem.run_pure,Result.andThen_ok,en];simp[hi,ao,eC]
theorem Jg(t:TypeId)(p x:Operand)(au:o.op= .store t p x){id off:Nat}(ar:aP G s p= .ptr id off){bt:TypeId}{cs:List aC}(bf:aE s.heap id=some (.box bt cs))
 {vs:List aC}(az:c1 (aP G s x)=vs)(fi:vs.all (eZ s.heap)=true)(bT:(P.info? t).map (·.size)=some vs.length)(uO:off+vs.length≤cs.length):
 ep P G o s ({s with heap:=eA s.heap id (.box bt (en cs off vs))}.put o.dst .top):=by
 intro E a w ⟨β,ro,ah⟩ K Q hK
 subst az
 obtain⟨ab,ae,aw⟩:=(ah.eval x).c1 fi ah.heap
 have s3:=ah.eval p
 rw[ar]at s3
 have dS:=ah.heap.dq id _ bf
 cases dS with
 |box _ _ b arr ag ai zcF fx=>
  generalize Lt:a.eval p=ia at s3
  cases s3 with
  |ptr _ _ c av hc=>
   obtain⟨gR,gJ,rfl⟩:=hc _ _ bf;rw[ag]at gJ;simp only[Value.pointer.injEq,Option.some.injEq,Addr.mk.injEq,and_true]at gJ;subst gJ
   have cy:=SB (P:=P) t b off (a.eval x) w bt arr ai (by rw[bT,ab]) (by omega) aw
   unfold Oper.wp;simp only[execOp,au,Lt,Sem.run_bind,cy,Result.andThen_ok,Sem.run_pure]
   have kB: ∀k,k<w.heap.size→cz (β id)≠some k→(w.setRow b (en arr.toList off (a.eval x).cells.toList).toArray).heap[k]? =w.heap[k]? :=fun k _ an=>
    setRow_other w b k _ (fun e=>an (by rw[ag,e];rfl))
   have cr: ∀k,ro k→(w.setRow b (en arr.toList off (a.eval x).cells.toList).toArray).heap[k]? =w.heap[k]? :=fun k an=>
    kB k (ah.heap.lt k an) fun bc=>ah.heap.e8 k an ⟨id,_,bf,rfl,bc⟩
   refine hK _ _ ⟨β,ro,(ah.write (w':=w.setRow b (en arr.toList off (a.eval x).cells.toList).toArray) id _ (.box bt (en cs off (c1 (aP G s x)))) bf rfl rfl (.inl ⟨_,_,_,rfl,rfl⟩) rfl rfl rfl (by simp) kB ?_).put o.dst _ _ (.top _)⟩
   refine .box bt _ b _ ag (setRow_heap w b arr _ bt (0,0) ai) ?_ fun j y aj=>?_
   ·rw[List.size_toArray,po _ _ _ (by simp only[Array.length_toList];omega),po _ _ _ uO,Array.length_toList,zcF]
   ·have ao:=FU (bA w ro s.heap β s.next) undef (cs:=cs) (vs:=c1 (aP G s x)) (xs:=arr.toList) (ys:=(a.eval x).cells.toList) (off:=off) (by simp only[Array.length_toList];omega) (by simp only[Array.length_toList];omega) uO
     (fun j x aj=>by have:=fx j x aj;simpa[Array.getD_eq_getD_getElem?,List.getD]using this)
     (fun j x aj=>by have:=ae j x aj;simpa[Array.getD_eq_getD_getElem?,List.getD]using this) j y aj
    have fK:=Ls (cs':=en cs off (c1 (aP G s x))) bf ao cr
    simpa[Array.getD_eq_getD_getElem?,List.getD]using fK
def jb:List aC→Option (List aU)
 |[]=>some []
 | .ad x::r=>match jb r with
  |some l=>some (x::l)
  |none=>none
 |_::_=>none
theorem xS: ∀{vs:List aC} {l:List aU},jb vs=some l→vs=l.map .ad
 |[],l,h=>by simp[jb]at h;subst h;rfl
 | .ad x::r,l,h=>by
  simp only[jb]at h
  cases ah:jb r with
  |none=>simp[ah]at h
  |some er=>
   simp[ah]at h;subst h;simp[xS ah]
 | .agg _::_,_,h=>by simp[jb]at h
 | .tuple _::_,_,h=>by simp[jb]at h
 | .ptr _ _::_,_,h=>by simp[jb]at h
 | .dN _ _::_,_,h=>by simp[jb]at h
 | .dg _ _ _::_,_,h=>by simp[jb]at h
 | .aq _::_,_,h=>by simp[jb]at h
 | .fn _ _ _::_,_,h=>by simp[jb]at h
 | .ref _::_,_,h=>by simp[jb]at h
 | .top::_,_,h=>by simp[jb]at h
theorem SC{α:Type}{n:Nat}: ∀{es:List (List α)},(∀e∈es,e.length=n)→∀{i:Nat} {e aF:List α},es[i]? =some e→aF.length=n→(es.set i aF).flatten=es.flatten.take (i*n)++(aF++es.flatten.drop (i*n+n))
 |[],_,i,e,aF,h,_=>by simp at h
 |x::r,hn,i,e,aF,h,he=>by
  have hx:x.length=n:=hn x (by simp)
  cases i with
  |zero=>simp[hx]
  |succ i=>
   simp at h
   have aY:=SC (es:=r) (fun e he=>hn e (by simp[he])) h he
   simp only[List.set_cons_succ,List.flatten_cons,aY]
   have aD:(i+1)*n=x.length+i*n:=by rw[Nat.succ_mul];omega
   have bg:(i+1)*n+n=x.length+(i*n+n):=by rw[Nat.succ_mul];omega
   have cM:x.length+(i*n+n)-x.length=i*n+n:=by omega
   have dU:x.length+i*n-x.length=i*n:=by omega
   rw[bg,aD,List.take_append,List.drop_append,cM,dU,List.take_of_length_le (l:=x) (by omega),List.drop_of_length_le (l:=x) (by omega)]
   simp
theorem zcG{α:Type}(l:List α)(p n k:Nat)(vs:List α)(e:List α)(he:e.length=n)(av: ∀j,j<n→l[p+j]? =e[j]?)(an:k+vs.length≤n)(ar:p+n≤l.length):
 en l (p+k) vs=l.take p++(en e k vs++l.drop (p+n)):=by
 apply List.ext_getElem?
 intro j
 have ao:(en e k vs).length=n:=by rw[po _ _ _ (by omega),he]
 unfold en at*
 by_cases ab:j<p
 ·rw[List.getElem?_append_left (by simp;omega),List.getElem?_take,if_pos (by omega),List.getElem?_append_left (by simp;omega),List.getElem?_take,if_pos ab]
 ·have aD:(l.take p).length=p:=by simp;omega
  have bg:(l.take (p+k)).length=p+k:=by simp;omega
  rw[List.getElem?_append_right (l₁:=l.take p) (by omega),aD]
  by_cases ae:j<p+k
  ·rw[List.getElem?_append_left (by omega),List.getElem?_take,if_pos ae,List.getElem?_append_left (by omega),List.getElem?_append_left (by simp;omega),List.getElem?_take,if_pos (by omega),←av _ (by omega)]
   congr 1;omega
  ·rw[List.getElem?_append_right (by omega),bg]
   have cM:(e.take k).length=k:=by simp;omega
   by_cases aw:j<p+k+vs.length
   ·rw[List.getElem?_append_left (by omega),List.getElem?_append_left (by omega),List.getElem?_append_right (by omega),cM,List.getElem?_append_left (by omega)]
    congr 1;omega
   ·rw[List.getElem?_append_right (by omega),List.getElem?_drop]
    by_cases aM:j<p+n
    ·rw[List.getElem?_append_left (by omega),List.getElem?_append_right (by omega),cM,List.getElem?_append_right (by omega),List.getElem?_drop,←av _ (by omega)]
     congr 1;omega
    ·rw[List.getElem?_append_right (by omega),ao,List.getElem?_drop]
     congr 1;omega
theorem SD{α:Type}(l:List α)(off m:Nat)(ys:List α)(h:off+ys.length≤m)(hm:m≤l.length):(en l off ys).take m=en (l.take m) off ys:=by
 have aD:min m off=off:=by omega
 have bg:min off m=off:=by omega
 have cM:min off l.length=off:=by omega
 have dU:List.take (m-off) ys=ys:=List.take_of_length_le (by omega)
 have qx:m-off-ys.length=m-(off+ys.length):=by omega
 simp only[en,List.take_append,List.take_take,List.length_take,List.drop_take,aD,bg,cM,dU,qx]
theorem Jh(t:TypeId)(p x:Operand)(au:o.op= .store t p x){id i off:Nat}(ar:aP G s p= .dg id i off){bt:TypeId}{n:Nat}{es:List (List aU)}(bf:aE s.heap id=some (.row false bt n es))
 {e:List aU}(oB:es[i]? =some e){vs:List aU}(az:jb (c1 (aP G s x))=some vs)(bT:(P.info? t).map (·.size)=some vs.length)(uO:off+vs.length≤n):
 ep P G o s ({s with heap:=eA s.heap id (.row false bt n (es.set i (en e off vs)))}.put o.dst .top):=by
 intro E a w ⟨β,ro,ah⟩ K Q hK
 have SE:=xS az
 have fi:(c1 (aP G s x)).all (eZ s.heap)=true:=by rw[SE];simp[List.all_eq_true,eZ]
 obtain⟨ab,ae,aw⟩:=(ah.eval x).c1 fi ah.heap
 rw[SE]at ab ae
 rw[List.length_map]at ab
 have s3:=ah.eval p
 rw[ar]at s3
 have dS:=ah.heap.dq id _ bf
 cases dS with
 |row _ _ _ xs h6 hn fx=>
  generalize Lt:a.eval p=ia at s3
  cases s3 with
  |dg _ _ _ c av hc=>
   obtain⟨b,l,ht,ag,rfl⟩:=hc _ _ _ _ bf
   have zj0:=h6
   rw[ag]at h6;obtain⟨yK,m5⟩:=h6
   rcases m5 with⟨⟨_,h,_⟩,aT⟩|⟨g,cap,cur,yN,B3,ai,hle,jN,fj,lU⟩
   ·have:=(List.getElem?_eq_some_iff.1 oB).1;omega
   ·simp only[Value.slice.injEq,Option.some.injEq,Addr.mk.injEq,and_true]at yN
    obtain⟨rfl,rfl,rfl⟩:=yN
    have pn:e.length=n:=hn e (List.mem_of_getElem? oB)
    have zcH:i<es.length:=(List.getElem?_eq_some_iff.1 oB).1
    have FV:i*n+n≤es.length*n:=by rw[←Nat.succ_mul];exact Nat.mul_le_mul_right n zcH
    have zcI:es.length*n≤ht*n:=Nat.mul_le_mul_right n hle
    have cy:=SB (P:=P) t b (i*n+off) (a.eval x) w bt cur ai (by rw[bT,ab]) (by omega) aw
    unfold Oper.wp;simp only[execOp,au,Lt,Sem.run_bind,cy,Result.andThen_ok,Sem.run_pure]
    have kB: ∀k,k<w.heap.size→cz (β id)≠some k→(w.setRow b (en cur.toList (i*n+off) (a.eval x).cells.toList).toArray).heap[k]? =w.heap[k]? :=fun k _ an=>
     setRow_other w b k _ (fun e=>an (by rw[ag,e];simp[cz,Nat.ne_of_gt B3]))
    have cr: ∀k,ro k→(w.setRow b (en cur.toList (i*n+off) (a.eval x).cells.toList).toArray).heap[k]? =w.heap[k]? :=fun k an=>
     kB k (ah.heap.lt k an) fun bc=>ah.heap.e8 k an ⟨id,_,bf,rfl,bc⟩
    have uP:(en e off vs).length=n:=by rw[po _ _ _ (by omega),pn]
    refine hK _ _ ⟨β,ro,(ah.write (w':=w.setRow b (en cur.toList (i*n+off) (a.eval x).cells.toList).toArray) id _ (.row false bt n (es.set i (en e off vs))) bf rfl rfl (.inr (.inl ⟨_,_,_,_,rfl,rfl⟩)) rfl rfl rfl (by simp) kB ?_).put o.dst _ _ (.top _)⟩
    have e4:(a.eval x).cells.toList.length=vs.length:=by simpa using ab
    refine .row bt n _ (en xs (i*n+off) (a.eval x).cells.toList) ?_ (fun aF jz=>?_) (fun j y aj=>?_)
    ·rw[ag,List.length_set]
     refine⟨by rw[po _ _ _ (by omega)];exact yK,.inr ⟨b,ht,_,rfl,B3,setRow_heap w b cur _ bt (0,0) ai,hle,jN,?_,?_⟩⟩
     ·rw[List.size_toArray,po _ _ _ (by simp;omega)];simpa using fj
     ·show List.take (es.length*n) (en cur.toList (i*n+off) (a.eval x).cells.toList)=_
      rw[SD _ _ _ _ (by omega) (by simp;omega),lU]
    ·rcases List.mem_or_eq_of_mem_set jz with h|h
     ·exact hn aF h
     ·rw[h];exact uP
    ·rw[SC hn oB uP,←zcG es.flatten (i*n) n off vs e pn (fun j aj=>pk hn oB j aj) uO (by rw[jh hn];exact FV)]at aj
     have ao:=FU (de w ro) undef (cs:=es.flatten) (vs:=vs) (xs:=xs) (ys:=(a.eval x).cells.toList) (off:=i*n+off) (by rw[jh hn];omega) (by omega) (by rw[jh hn];omega)
      (fun j x aj=>fx j x aj)
      (fun j y aj=>by
       have:=ae j (.ad y) (by simp[aj])
       cases this with
       |ad _ _ h=>simpa[Array.getD_eq_getD_getElem?,List.getD]using h) j y aj
     exact ao.keep cr fun _ h=>h
end
end Go.aK
namespace Go.aK
open Go
def gB(a b:ByteArray):Bool:=a.data.toList==b.data.toList
theorem FW(a b:ByteArray):gB a b=decide (a=b):=by
 unfold gB
 obtain⟨⟨x⟩⟩:=a
 obtain⟨⟨y⟩⟩:=b
 rw[Bool.eq_iff_iff]
 simp
theorem SF(a b:ByteArray):(a.toList==b.toList)=gB a b:=by rw[ByteArray.toList_eq,ByteArray.toList_eq];rfl
@[simp] theorem IS{a b:ByteArray}:gB a b=true↔a=b:=by rw[FW];simp
@[simp] theorem zj1{a b:ByteArray}:gB a b=false↔a≠b:=by rw[FW];simp
@[simp] theorem zj2(a:ByteArray):gB a a=true:=by simp
def s4(a b:ByteArray):Bool:=Op.bytesLess a.data.toList b.data.toList
theorem zcJ(a b:ByteArray):Op.bytesLess a.toList b.toList=s4 a b:=by rw[ByteArray.toList_eq,ByteArray.toList_eq];rfl
def FX(op:BinOp)(a b:Int):Option Value:=
 match op with
 | .eql=>some (.bool (a==b))
 | .neq=>some (.bool (a != b))
 | .lss=>some (.bool (decide (a<b)))
 | .leq=>some (.bool (decide (a≤b)))
 | .gtr=>some (.bool (decide (a>b)))
 | .geq=>some (.bool (decide (a≥b)))
 |_=>none
def j0(op:BinOp):Value→Value→Option Value
 | .int k a,.int a8 b=>
  match op with
  | .shl=>if b<0 then none else some (.int k (k.wrap (a*2^(min b.toNat k.bits))))
  | .shr=>if b<0 then none else some (.int k (a.fdiv (2^(min b.toNat k.bits))))
  |op=>if k=a8 then match op with
   | .add=>some (.int k (k.wrap (a+b)))
   | .sub=>some (.int k (k.wrap (a-b)))
   | .mul=>some (.int k (k.wrap (a*b)))
   | .quo=>if b=0 then none else some (.int k (k.wrap (a.tdiv b)))
   | .rem=>if b=0 then none else some (.int k (a.tmod b))
   |op=>FX op a b
   else none
 | .string a,.string b=>
  match op with
  | .add=>if((a.size+b.size:Nat):Int)>IntKind.i64.max then none else some (.string (a++b))
  | .eql=>some (.bool (gB a b))
  | .neq=>some (.bool (!gB a b))
  | .lss=>some (.bool (s4 a b))
  | .leq=>some (.bool (s4 a b||gB a b))
  | .gtr=>some (.bool (!(s4 a b||gB a b)))
  | .geq=>some (.bool (!s4 a b))
  |_=>none
 |_,_=>none
theorem Lu {P : Program} {op : BinOp} {x y c : Value} (h : j0 op x y = some c) (t : TypeId) (p q : Operand) (w : World) :
    (eqGuard op t p q x y).run P w = .ok () w ∧ (binOp op t x y).run P w = .ok c w ∧ c.oneCell' = true := by
  cases x with
  | int k a =>
    cases y with
    | int a8 b =>
      simp only [j0] at h; refine ⟨by rw [eqGuard_at_int]; rfl, ?_⟩
      cases op
      all_goals first
        | (simp only at h
           split at h
           · cases h
           · rename_i hn
             simp only [Option.some.injEq] at h; subst h; refine ⟨?_, rfl⟩
             simp [binOp, Op.shift, hn]; done)
        | (simp only at h
           split at h
           · rename_i an
             subst an
             first
               | (simp only [Option.some.injEq, FX] at h; subst h; exact ⟨by simp [binOp, Op.intArith, Op.intCmp], rfl⟩)
               | (split at h
                  · cases h
                  · rename_i aT
                    simp only [Option.some.injEq] at h; subst h
                    exact ⟨by simp [binOp, Op.intDiv, aT], rfl⟩)
               | (simp [FX] at h; done)
           · cases h)
    | _ => simp [j0] at h
  | string a =>
    cases y with
    | string b =>
      simp only [j0] at h; refine ⟨by rw [eqGuard_at_string]; rfl, ?_⟩
      cases op <;> simp only at h
      all_goals first
        | cases h; done
        | (split at h
           · cases h
           · rename_i hn
             simp only [Option.some.injEq] at h; subst h
             exact ⟨by simp only [binOp_string_add, Op.stringOp, hn, if_false] <;> rfl, rfl⟩)
        | (simp only [Option.some.injEq] at h; subst h; exact ⟨by simp only [binOp, Op.stringOp, SF, zcJ] <;> rfl, rfl⟩)
    | _ => simp [j0] at h
  | _ => simp [j0] at h
section
variable {P:Program} {G:aR} {o:Oper} {s:aQ}
theorem bA.val{w:World}{ro:Nat→Prop}{σ:Heap}{β:Nat→Value}{N:Nat}{x c:Value}(h:bA w ro σ β N (.ad (.v x)) c):c=x:=by
 cases h with
 |ad _ _ h=>cases h;rfl
theorem dn.dR{E:Entry}{a:Act}{w:World}{β:Nat→Value}{ro:Nat→Prop}(h:dn E G s a w β ro){x:Operand}{v:Value}(hx:aP G s x= .ad (.v v)):a.eval x=v:=
 bA.val (hx ▸ h.eval x)
theorem bA.e3{w:World}{ro:Nat→Prop}{σ:Heap}{β:Nat→Value}{N:Nat}{c:Value}(h:c.oneCell'=true):bA w ro σ β N (.ad (.v c)) c:=.ad _ _ (.v _ h)
theorem qy(op:BinOp)(cJ ty:TypeId)(x y:Operand)(au:o.op= .binOp op cJ x y ty){u v c:Value}(hx:aP G s x= .ad (.v u))(aA:aP G s y= .ad (.v v))(hc:j0 op u v=some c):
 cY P G o s (.ad (.v c)):=
 fun _ a w β ro ah=>by
  obtain⟨ab,ae,aw⟩:=Lu (P:=P) hc cJ x y w;exact⟨c,by simp[execOp,au,ah.dR hx,ah.dR aA,ab,ae],.e3 aw⟩
theorem SG(cJ ty:TypeId)(x y:Operand)(au:o.op= .binOp .eql cJ x y ty)(aJ:P.underlying cJ=some .bool){u v:Bool}(hx:aP G s x= .ad (.v (.bool u)))(aA:aP G s y= .ad (.v (.bool v))):
 cY P G o s (.ad (.v (.bool (u==v)))):=
 fun _ a w β ro ah=>⟨.bool (u==v),by simp[execOp,au,ah.dR hx,ah.dR aA,eqGuard_at_bool,run_eql_bool w cJ u v aJ],.e3 rfl⟩
theorem SH(cJ ty:TypeId)(x y:Operand)(au:o.op= .binOp .neq cJ x y ty)(aJ:P.underlying cJ=some .bool){u v:Bool}(hx:aP G s x= .ad (.v (.bool u)))(aA:aP G s y= .ad (.v (.bool v))):
 cY P G o s (.ad (.v (.bool (!(u==v))))):=
 fun _ a w β ro ah=>⟨.bool (!(u==v)),by simp[execOp,au,ah.dR hx,ah.dR aA,eqGuard_at_bool,run_neq_bool w cJ u v aJ],.e3 rfl⟩
def oD:Value→Value→Option Bool
 | .int k a,.int a8 b=>if k=a8 then some (a==b)else none
 | .bool a,.bool b=>some (a==b)
 | .string a,.string b=>some (gB a b)
 |_,_=>none
def s5(P:Program)(t:TypeId):Value→Bool
 | .int k _=>match P.underlying t with
  |some (.int a8)=>decide (k=a8)
  |_=>false
 | .bool _=>match P.underlying t with
  |some .bool=>true
  |_=>false
 | .string _=>match P.underlying t with
  |some .string=>true
  |_=>false
 |_=>false
def SI(e:TypeId)(c i:Nat):Field:={(default:Field)with name:= "e",type:=e,offset:=i*c}
theorem Lv(d:Nat)(e:TypeId)(c:Nat)(X Y:Array Value): ∀(is:List Nat),Op.eqFields d X Y (is.map (SI e c))=Op.eqItems d e c X Y is
 |[]=>rfl
 |i::is=>by
  simp only[List.map_cons,Op.eqFields,Op.eqItems,Lv d e c X Y is];rfl
def np(P:Program)(t:TypeId):Option (List Field):=
 match P.underlying t with
 |some (.struct fs)=>if P.stoodInHeld t||P.eqGuardType P.depth t then none else some fs.toList
 |some (.array n e)=>match P.info? e with
  |some _=>if P.eqGuardType P.depth t then none else some ((List.range n).map (SI e (P.cellsOf e)))
  |none=>none
 |_=>none
theorem zcK{P:Program}{t:TypeId}{gs:List Field}(h:np P t=some gs)(D:Nat)(p q:Array Value)(w:World):
 (Op.equalIn (D+1) t (.agg p) (.agg q)).run P w=(Op.eqFields D p q gs).run P w∧(isAgg t).run P w= .ok true w:=by
 unfold np at h
 split at h
 ·rename_i FY hu
  split at h
  ·cases h
  ·rename_i hc
   simp only[Bool.or_eq_true,not_or,Bool.not_eq_true]at hc;simp only[Option.some.injEq]at h;subst h
   have rK:P.fieldsOf t=FY:=by simp[Program.fieldsOf,hu]
   exact⟨by rw[run_equalIn_struct w D t p q (by rw[rK];exact hu) hc.1,rK],by simp[isAgg,run_underlying hu]⟩
 ·rename_i n e hu
  split at h
  ·rename_i inf yO
   split at h
   ·cases h
   ·simp only[Option.some.injEq]at h
    subst h;exact⟨by rw[run_equalIn_array w D p q hu yO,←Lv],by simp[isAgg,run_underlying hu]⟩
  ·cases h
 ·cases h
def rL(P:Program):Nat→Nat→List Field→List Value→List Value→Option Bool
 |0,_,_,_,_=>none
 |_+1,_,[],_,_=>some true
 |d+1,k,f::fs,xs,ys=>
  if f.name= "_" ||f.offset != k then none
  else match np P f.type with
   |some gs=>match P.info? f.type with
    |some inf=>match rL P d 0 gs (xs.take inf.size) (ys.take inf.size),rL P d (k+inf.size) fs (xs.drop inf.size) (ys.drop inf.size)with
     |some a,some b=>some (a&&b)
     |_,_=>none
    |none=>none
   |none=>match xs,ys with
    |x::xs,y::ys=>if s5 P f.type x then match oD x y,rL P d (k+1) fs xs ys with
     |some a,some b=>some (a&&b)
     |_,_=>none
     else none
    |_,_=>none
def xN(P:Program)(k:Nat)(fs:List Field)(xs ys:List Value):Option Bool:=rL P 64 k fs xs ys
theorem zcL{t:TypeId}{x y:Value}{b:Bool}(h:oD x y=some b)(hf:s5 P t x=true)(d:Nat)(w:World):(Op.equalIn (d+1) t x y).run P w= .ok b w∧x.oneCell'=true∧y.oneCell'=true∧(isAgg t).run P w= .ok false w:=by
 cases x with
 |int k a=>
  cases y with
  |int a8 gR=>
   simp only[oD]at h
   split at h
   ·rename_i an
    subst an;simp only[Option.some.injEq]at h;subst h;simp only[s5]at hf
    split at hf
    ·rename_i ha hu
     exact⟨run_equalIn_int w d t k ha a gR hu,rfl,rfl,by simp[isAgg,run_underlying hu]⟩
    ·cases hf
   ·cases h
  |_=>simp[oD]at h
 |bool a=>
  cases y with
  |bool gR=>
   simp only[oD,Option.some.injEq]at h;subst h;simp only[s5]at hf
   split at hf
   ·rename_i hu
    exact⟨run_equalIn_bool w d t a gR hu,rfl,rfl,by simp[isAgg,run_underlying hu]⟩
   ·cases hf
  |_=>simp[oD]at h
 |string a=>
  cases y with
  |string gR=>
   simp only[oD,Option.some.injEq]at h;subst h;simp only[s5]at hf
   split at hf
   ·rename_i hu
    refine⟨?_,rfl,rfl,by simp[isAgg,run_underlying hu]⟩
    rw[run_equalIn_string w d t a gR hu,SF]
   ·cases hf
  |_=>simp[oD]at h
 |_=>simp[oD]at h
theorem SJ{xs:List Value}{X:Array Value}{k n:Nat}(hB: ∀j x,xs[j]? =some x→X[k+j]? =some x): ∀j x,(xs.take n)[j]? =some x→(X.extract k (k+n))[0+j]? =some x:=by
 intro j x aj
 rw[List.getElem?_take]at aj
 split at aj
 ·rename_i qt
  have:=hB j x aj
  rw[Nat.zero_add,Array.getElem?_extract]
  have bE:k+j<X.size:=(Array.getElem?_eq_some_iff.1 this).1
  rw[if_pos (by omega)]
  exact this
 ·cases aj
theorem FZ: ∀(d:Nat) (fs:List Field) (k:Nat) (xs ys:List Value) (X Y:Array Value) (b:Bool) (D:Nat) (w:World),rL P d k fs xs ys=some b→d≤D→(∀j x,xs[j]? =some x→X[k+j]? =some x)→(∀j y,ys[j]? =some y→Y[k+j]? =some y)→
 (Op.eqFields D X Y fs).run P w= .ok b w
 |0,_,k,xs,ys,X,Y,b,D,w,h,_,_,_=>by simp[rL]at h
 |d+1,[],k,xs,ys,X,Y,b,D,w,h,_,hB,qz=>by
  simp[rL]at h;subst h;simp[Op.eqFields]
 |d+1,f::fs,k,xs,ys,X,Y,b,0,w,h,ll,_,_=>by omega
 |d+1,f::fs,k,xs,ys,X,Y,b,D+1,w,h,ll,hB,qz=>by
  unfold rL at h
  split at h
  ·cases h
  ·rename_i hc
   simp only[Bool.or_eq_true,decide_eq_true_eq,bne_iff_ne,ne_eq,not_or,Decidable.not_not]at hc;obtain⟨rp,B2⟩:=hc
   split at h
   ·rename_i gs ai
    split at h
    ·rename_i inf yO
     split at h
     ·rename_i fV h3 ab ae
      simp only[Option.some.injEq]at h;subst h
      have iP:=FZ d gs 0 _ _ (X.extract k (k+inf.size)) (Y.extract k (k+inf.size)) fV D w ab (by omega) (SJ hB) (SJ qz)
      have lV:=FZ d fs (k+inf.size) _ _ X Y h3 (D+1) w ae (by omega) (fun j x aj=>by rw[List.getElem?_drop]at aj;have:=hB _ x aj;rwa[show k+(inf.size+j)=k+inf.size+j from by omega]at this) (fun j x aj=>by rw[List.getElem?_drop]at aj;have:=qz _ x aj;rwa[show k+(inf.size+j)=k+inf.size+j from by omega]at this)
      obtain⟨aD,bg⟩:=zcK ai D (X.extract k (k+inf.size)) (Y.extract k (k+inf.size)) w
      have fj:P.cellsOf f.type=inf.size:=by simp[Program.cellsOf,yO]
      simp only[Op.eqFields,Sem.run_bind,rp,ne_eq,not_false_eq_true,if_true,part,bg,Result.andThen_ok,run_sizeOf w yO,fj,B2,Sem.run_pure,aD,iP]
      cases fV
      ·simp
      ·simpa using lV
     ·cases h
    ·cases h
   ·split at h
    ·rename_i x AV y zcM
     split at h
     ·rename_i uO
      split at h
      ·rename_i fV h3 he ah
       simp only[Option.some.injEq]at h;subst h;obtain⟨ab,_,_,aM⟩:=zcL he uO D w
       have SK:=hB 0 x rfl
       have F0:=qz 0 y rfl
       have aY:=FZ d fs (k+1) AV zcM X Y h3 (D+1) w ah (by omega) (fun j x aj=>by have:=hB (j+1) x aj;rwa[show k+(j+1)=k+1+j from by omega]at this) (fun j x aj=>by have:=qz (j+1) x aj;rwa[show k+(j+1)=k+1+j from by omega]at this)
       simp only[Nat.add_zero]at SK F0;simp only[Op.eqFields,Sem.run_bind,rp,ne_eq,not_false_eq_true,if_true,part,aM,Result.andThen_ok,Bool.false_eq_true,if_false,B2,SK,F0,Sem.run_pure,ab]
       cases fV
       ·simp
       ·simpa using aY
      ·cases h
     ·cases h
    ·cases h
theorem SL(fs:List Field)(k:Nat)(xs ys:List Value)(X Y:Array Value)(b:Bool)(d:Nat)(w:World)(h:xN P k fs xs ys=some b)(hd:64≤d+1)(hB: ∀j x,xs[j]? =some x→X[k+j]? =some x)(qz: ∀j y,ys[j]? =some y→Y[k+j]? =some y):
 (Op.eqFields (d+1) X Y fs).run P w= .ok b w:=FZ 64 fs k xs ys X Y b (d+1) w h hd hB qz
def hZ:List aC→Option (List Value)
 |[]=>some []
 | .ad (.v x)::r=>match hZ r with
  |some l=>some (x::l)
  |none=>none
 |_::_=>none
theorem B4{w:World}{ro:Nat→Prop}{σ:Heap}{β:Nat→Value}{N:Nat}: ∀{cs:List aC} {l:List Value} {c:Nat→Value},hZ cs=some l→(∀j x,cs[j]? =some x→bA w ro σ β N x (c j))→l.length=cs.length∧∀j x,l[j]? =some x→c j=x
 |[],l,c,h,_=>by simp[hZ]at h;subst h;simp
 | .ad (.v x)::r,l,c,h,hc=>by
  simp only[hZ]at h
  cases ah:hZ r with
  |none=>simp[ah]at h
  |some er=>
   simp[ah]at h;subst h;obtain⟨ab,ae⟩:=B4 (c:=fun j=>c (j+1)) ah fun j x aj=>hc (j+1) x aj;refine⟨by simp[ab],fun j y aj=>?_⟩
   cases j with
   |zero=>simp at aj;subst aj;exact bA.val (hc 0 _ rfl)
   |succ j=>exact ae j y aj
 | .ad (.ptr _)::_,_,_,h,_=>by simp[hZ]at h
 | .ad (.aq _ _)::_,_,_,h,_=>by simp[hZ]at h
 | .agg _::_,_,_,h,_=>by simp[hZ]at h
 | .tuple _::_,_,_,h,_=>by simp[hZ]at h
 | .ptr _ _::_,_,_,h,_=>by simp[hZ]at h
 | .dN _ _::_,_,_,h,_=>by simp[hZ]at h
 | .dg _ _ _::_,_,_,h,_=>by simp[hZ]at h
 | .aq _::_,_,_,h,_=>by simp[hZ]at h
 | .fn _ _ _::_,_,_,h,_=>by simp[hZ]at h
 | .ref _::_,_,_,h,_=>by simp[hZ]at h
 | .top::_,_,_,h,_=>by simp[hZ]at h
theorem SM{t:TypeId}{fs:List Field}(h:np P t=some fs){cs ds:List aC}{xs ys:List Value}{b:Bool}(pq:hZ cs=some xs)(nI:hZ ds=some ys)(ag:xN P 0 fs xs ys=some b)
 {w:World}{ro:Nat→Prop}{σ:Heap}{β:Nat→Value}{N:Nat}{X Y:Value}(hB:bA w ro σ β N (.agg cs) X)(qz:bA w ro σ β N (.agg ds) Y):
 ∃p q,X= .agg p∧Y= .agg q∧P.eqGuardType P.depth t=false∧(Op.equalIn 10000 t (.agg p) (.agg q)).run P w= .ok b w:=by
 unfold np at h
 split at h
 ·rename_i FY hu
  split at h
  ·cases h
  ·rename_i hc
   simp only[Bool.or_eq_true,not_or,Bool.not_eq_true]at hc;simp only[Option.some.injEq]at h;subst h
   cases hB with
   |agg _ p ar Lx=>
    cases qz with
    |agg _ q aG Ly=>
     refine⟨p,q,rfl,rfl,hc.2,?_⟩
     have rK:P.fieldsOf t=FY:=by simp[Program.fieldsOf,hu]
     rw[run_equalIn_struct w 9999 t p q (by rw[rK];exact hu) hc.1,rK]
     obtain⟨ab,ae⟩:=B4 (c:=fun j=>p.getD j undef) pq Lx;obtain⟨aw,aM⟩:=B4 (c:=fun j=>q.getD j undef) nI Ly;refine SL FY.toList 0 xs ys p q b 9998 w ag (by omega) (fun j x aj=>?_) (fun j x aj=>?_)
     ·have bE:j<p.size:=by
       rcases Nat.lt_or_ge j xs.length with h|h
       ·omega
       ·rw[List.getElem?_eq_none h]at aj;cases aj
      have:=ae j x aj
      simp[bE]at this;simp[bE,this]
     ·have bE:j<q.size:=by
       rcases Nat.lt_or_ge j ys.length with h|h
       ·omega
       ·rw[List.getElem?_eq_none h]at aj;cases aj
      have:=aM j x aj
      simp[bE]at this;simp[bE,this]
 ·rename_i n e hu
  split at h
  ·rename_i inf yO
   split at h
   ·cases h
   ·rename_i hc
    simp only[Bool.not_eq_true]at hc;simp only[Option.some.injEq]at h;subst h
    cases hB with
    |agg _ p ar Lx=>
     cases qz with
     |agg _ q aG Ly=>
      refine⟨p,q,rfl,rfl,hc,?_⟩
      rw[run_equalIn_array w 9999 p q hu yO,←Lv];obtain⟨ab,ae⟩:=B4 (c:=fun j=>p.getD j undef) pq Lx;obtain⟨aw,aM⟩:=B4 (c:=fun j=>q.getD j undef) nI Ly;refine SL _ 0 xs ys p q b 9998 w ag (by omega) (fun j x aj=>?_) (fun j x aj=>?_)
      ·have bE:j<p.size:=by
        rcases Nat.lt_or_ge j xs.length with h|h
        ·omega
        ·rw[List.getElem?_eq_none h]at aj;cases aj
       have:=ae j x aj
       simp[bE]at this;simp[bE,this]
      ·have bE:j<q.size:=by
        rcases Nat.lt_or_ge j ys.length with h|h
        ·omega
        ·rw[List.getElem?_eq_none h]at aj;cases aj
       have:=aM j x aj
       simp[bE]at this;simp[bE,this]
  ·cases h
 ·cases h
theorem SN(cJ ty:TypeId)(x y:Operand)(au:o.op= .binOp .eql cJ x y ty){fs:List Field}(h:np P cJ=some fs){cs ds:List aC}(hx:aP G s x= .agg cs)(aA:aP G s y= .agg ds)
 {xs ys:List Value}{b:Bool}(pq:hZ cs=some xs)(nI:hZ ds=some ys)(ag:xN P 0 fs xs ys=some b):cY P G o s (.ad (.v (.bool b))):=
 fun _ a w β ro ah=>by
  obtain⟨p,q,ab,ae,aw,aM⟩:=SM h pq nI ag (hx ▸ ah.eval x) (aA ▸ ah.eval y);exact⟨.bool b,by simp only[execOp,au,ab,ae,Sem.run_bind,run_eqGuard_agg w .eql cJ x y p q aw,Result.andThen_ok,run_eql_struct,aM,Sem.run_pure],.e3 rfl⟩
theorem SO(cJ ty:TypeId)(x y:Operand)(au:o.op= .binOp .neq cJ x y ty){fs:List Field}(h:np P cJ=some fs){cs ds:List aC}(hx:aP G s x= .agg cs)(aA:aP G s y= .agg ds)
 {xs ys:List Value}{b:Bool}(pq:hZ cs=some xs)(nI:hZ ds=some ys)(ag:xN P 0 fs xs ys=some b):cY P G o s (.ad (.v (.bool (!b)))):=
 fun _ a w β ro ah=>by
  obtain⟨p,q,ab,ae,aw,aM⟩:=SM h pq nI ag (hx ▸ ah.eval x) (aA ▸ ah.eval y);exact⟨.bool (!b),by simp only[execOp,au,ab,ae,Sem.run_bind,run_eqGuard_agg w .neq cJ x y p q aw,Result.andThen_ok,run_neq_struct,aM,Sem.run_pure],.e3 rfl⟩
theorem SP(t:TypeId)(x:Operand)(au:o.op= .unOp .not t x){b:Bool}(hx:aP G s x= .ad (.v (.bool b))):cY P G o s (.ad (.v (.bool (!b)))):=
 fun _ a w β ro ah=>⟨.bool (!b),by simp[execOp,au,ah.dR hx,Op.unary],.e3 rfl⟩
theorem SQ(t:TypeId)(x:Operand)(au:o.op= .unOp .neg t x){k:IntKind}{n:Int}(hx:aP G s x= .ad (.v (.int k n))):cY P G o s (.ad (.v (.int k (k.wrap (0-n))))):=
 fun _ a w β ro ah=>⟨.int k (k.wrap (0-n)),by simp[execOp,au,ah.dR hx,Op.unary,Op.intArith],.e3 rfl⟩
theorem B5(c x y:Operand)(au:o.op= .pick c x y){b:Bool}(hc:aP G s c= .ad (.v (.bool b))){v:aC}(az:(if b then aP G s x else aP G s y)=v):cY P G o s v:=
 fun _ a w β ro ah=>⟨if b then a.eval x else a.eval y,by simp[execOp,au,ah.dR hc,asBool],by
  subst az
  cases b
  ·simpa using ah.eval y
  ·simpa using ah.eval x⟩
theorem SR(x:Operand)(i:Nat)(au:o.op= .extract x i){cs:List aC}(hx:aP G s x= .tuple cs){v:aC}(az:cs[i]? =some v):cY P G o s v:=
 fun _ a w β ro ah=>by
  have h:=ah.eval x
  rw[hx]at h;generalize he:a.eval x=c at h
  cases h with
  |tuple _ c ao hc=>
   have bE:i<c.size:=by have:=(List.getElem?_eq_some_iff.1 az).1;omega
   refine⟨c[i],?_,?_⟩
   ·simp[execOp,au,Instr.extract,he,bE]
   ·simpa[bE]using hc i v az
end
end Go.aK
