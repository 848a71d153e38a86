/- The AV calculus, part A: values as trees, the relation between a symbolic state and a world, and how it is kept. Conditions: none; nothing here speaks of a particular program. -/
import Derived.Test.YtmkpmgfieagphaaGreatDoorQST0
import Derived.Laws.StructEq
import Derived.ChangeKeysEq
namespace Go.aL
open Go
theorem tQ(a:Addr)(n:Nat):(a.add n).block=a.block:=by unfold Addr.add;split<;>rfl
theorem yc(a:Addr)(i j:Nat):(a.add i).add j=a.add (i+j):=by
 unfold Addr.add
 by_cases hi:i=0<;>by_cases ai:j=0<;>simp[hi,ai,Nat.add_assoc]
theorem addLit(b o n:Nat):(⟨b,o,none⟩:Addr).add n=⟨b,o+n,none⟩:=by
 unfold Addr.add;split
 ·rename_i h;subst h;rfl
 ·rfl
inductive aD where
 |au (x:bd)
 |agg (cs:List aD)
 |tuple (cs:List aD)
 |ptr (id off:Nat)
 |cE (id i off:Nat)
 |aN (id:Nat)
 |fn (f:Fn) (first captured:List aD)
 |ref (id:Nat)
 |dB (id n:Nat)
 |top
def WW(agg:Bool)(n:Nat)(v:Value)(p:Nat→Value):Prop:=
 match agg with
 |true=>∃c:Array Value,v= .agg c∧c.size=n∧∀i,i<n→c.getD i undef=p i
 |false=>n=1∧v=p 0
inductive dp (w:World) (ro:Nat→Prop):bd→Value→Prop where
 |v (x:Value):x.oneCell'=true→dp w ro (.v x) x
 |ptr (cs:List bd) (a:Addr) (c:Nat→Value):(∀j x,cs[j]? =some x→ro a.block∧w.cell? (a.add j)=some (c j))→
  (∀j x,cs[j]? =some x→dp w ro x (c j))→dp w ro (.ptr cs) (.pointer (some a))
 |aN (n:Nat) (es:List (List bd)) (b:Option Addr) (cap:Nat) (c:Nat→Value):es.length≤cap→cap≤maxLen→(∀e∈es,e.length=n)→
  (0<es.length→∃a,b=some a∧∀j,j<es.length*n→ro a.block∧w.cell? (a.add j)=some (c j))→
  (∀j x,es.flatten[j]? =some x→dp w ro x (c j))→dp w ro (.aN n es) (.slice b es.length cap)
 |mp (agg:Bool) (ks:List Value) (vs:List (List bd)) (r:Nat) (es:Array MapEntry) (clock:Nat) (p:Nat→Nat→Value):ro r→w.heap[r]? =some (.map es clock)→es.size=ks.length→vs.length=ks.length→ks.Nodup→
  (∀j k cs,ks[j]? =some k→vs[j]? =some cs→∃e:MapEntry,es[j]? =some e∧e.key=k∧WW agg cs.length e.val (p j))→
  (∀j cs i x,vs[j]? =some cs→cs[i]? =some x→dp w ro x (p j i))→dp w ro (.mp agg ks vs) (.map (some r))
 |li (i:bN) (l:List (fZ i)) (c:Value):dp w ro (.aN (c5 i) (l.map (cX i))) c→dp w ro (.li i l) c
theorem dp.one{w:World}{ro:Nat→Prop}{x:bd}{c:Value}(h:dp w ro x c):c.oneCell'=true:=by
 induction h with
 |v x hx=>exact hx
 |ptr=>rfl
 |aN=>rfl
 |mp=>rfl
 |li i l c h aQ=>exact aQ
theorem dp.keep{w w':World}{ro ro':Nat→Prop}{x:bd}{c:Value}(h:dp w ro x c)
 (hw: ∀b,ro b→w'.heap[b]? =w.heap[b]?)(b6: ∀b,ro b→ro' b):dp w' ro' x c:=by
 induction h with
 |v x hx=>exact .v x hx
 |ptr cs a c aa _ aQ=>
  exact .ptr cs a c (fun j x ai=>⟨b6 _ (aa j x ai).1,by
   rw[World.cell?_of_block (w:=w) (by rw[tQ];exact hw _ (aa j x ai).1)];exact(aa j x ai).2⟩) aQ
 |aN n es b cap c aa ae aq aT _ aQ=>
  refine .aN n es b cap c aa ae aq (fun ak=>?_) aQ
  obtain⟨a,ad,hc⟩:=aT ak
  exact⟨a,ad,fun j ai=>⟨b6 _ (hc j ai).1,by
   rw[World.cell?_of_block (w:=w) (by rw[tQ];exact hw _ (hc j ai).1)];exact(hc j ai).2⟩⟩
 |mp agg ks vs r es clock p aa ae aq aT bD cA _ aQ=>exact .mp agg ks vs r es clock p (b6 _ aa) ((hw _ aa).trans ae) aq aT bD cA aQ
 |li i l c _ aQ=>exact .li i l c aQ
def cb:Value→Option Nat
 | .pointer (some a)=>some a.block
 | .slice (some a) _ cap=>if cap=0 then none else some a.block
 | .map (some r)=>some r
 |_=>none
structure Bu where
 holds:(bd→Value→Prop)→Value→Obj→Prop
 mono: ∀(R rW:bd→Value→Prop) v o,(∀x c,R x c→rW x c)→holds R v o→holds rW v o
 view:Option bd
 WX: ∀au,view=some au→∀(w:World) (ro ro':Nat→Prop) (v:Value) (o:Obj) (b:Nat),holds (dp w ro) v o→cb v=some b→w.heap[b]? =some o→(∀x,ro x→ro' x)→ro' b→dp w ro' au v
inductive ej where
 |box (t:TypeId) (cs:List aD)
 |row (Ns:Bool) (t:TypeId) (n:Nat) (es:List (List bd))
 |bY (bE:Bu)
def ej.live:ej→Bool
 | .box _ _=>true
 | .row Ns _ _ _=>!Ns
 | .bY _=>true
abbrev bz:=List (Nat × ej)
def aE:bz→Nat→Option ej
 |[],_=>none
 |(k,o)::r,id=>if k=id then some o else aE r id
def eU:bz→Nat→ej→bz
 |[],id,o=>[(id,o)]
 |(k,x)::r,id,o=>if k=id then(k,o)::r else(k,x)::eU r id o
def fP:bz→Nat→bz
 |[],_=>[]
 |(k,x)::r,id=>if k=id then fP r id else(k,x)::fP r id
theorem vC(h:bz)(id:Nat)(o:ej)(k:Nat):aE (eU h id o) k=if id=k then some o else aE h k:=by
 induction h with
 |nil=>simp[eU,aE]
 |cons p r aQ=>
  obtain⟨j,x⟩:=p
  by_cases ai:j=id
  ·subst ai
   by_cases aj:j=k<;>simp[eU,aE,aj]
  ·by_cases aj:j=k
   ·subst aj
    simp[eU,aE,ai,Ne.symm ai]
   ·simp[eU,aE,ai,aj,aQ]
theorem Bv(h:bz)(id k:Nat):aE (fP h id) k=if id=k then none else aE h k:=by
 induction h with
 |nil=>simp[fP,aE]
 |cons p r aQ=>
  obtain⟨j,x⟩:=p
  by_cases ai:j=id
  ·subst ai
   by_cases aj:j=k
   ·subst aj;simp[fP,aQ]
   ·simp[fP,aE,aj,aQ]
  ·by_cases aj:j=k
   ·subst aj
    simp[fP,aE,ai,Ne.symm ai]
   ·simp[fP,aE,ai,aj,aQ]
def kt(w:World)(t:TypeId)(n:Nat)(v:Value)(len:Nat)(xs:List Value):Prop:=
 xs.length=len*n∧(((∃b,v= .slice b 0 0∧∀a,b=some a→a.block<w.heap.size)∧len=0)∨
  ∃g cap cur,v= .slice (some ⟨g,0,none⟩) len cap∧0<cap∧w.heap[g]? =some (.cells cur t (0,0))∧len≤cap∧cap≤maxLen∧cur.size=cap*n∧cur.toList.take (len*n)=xs)
inductive bp (w:World) (ro:Nat→Prop) (σ:bz) (β:Nat→Value) (N:Nat):aD→Value→Prop where
 |au (x:bd) (c:Value):dp w ro x c→bp w ro σ β N (.au x) c
 |agg (cs:List aD) (c:Array Value):c.size=cs.length→(∀j x,cs[j]? =some x→bp w ro σ β N x (c.getD j undef))→bp w ro σ β N (.agg cs) (.agg c)
 |tuple (cs:List aD) (c:Array Value):c.size=cs.length→(∀j x,cs[j]? =some x→bp w ro σ β N x (c.getD j undef))→bp w ro σ β N (.tuple cs) (.tuple c)
 |ptr (id off:Nat) (c:Value):id<N→(∀t cs,aE σ id=some (.box t cs)→∃b,β id= .pointer (some ⟨b,0,none⟩)∧c= .pointer (some ⟨b,off,none⟩))→bp w ro σ β N (.ptr id off) c
 |dB (id n:Nat) (c:Value):id<N→(∀t cs,aE σ id=some (.box t cs)→∃b,β id= .pointer (some ⟨b,0,none⟩)∧c= .slice (some ⟨b,0,none⟩) n n)→bp w ro σ β N (.dB id n) c
 |cE (id i off:Nat) (c:Value):id<N→(∀z t n es,aE σ id=some (.row z t n es)→∃b l iq,β id= .slice (some ⟨b,0,none⟩) l iq∧c= .pointer (some ⟨b,i*n+off,none⟩))→bp w ro σ β N (.cE id i off) c
 |aN (id:Nat) (c:Value):id<N→(∀z t n es,aE σ id=some (.row z t n es)→c=β id)→bp w ro σ β N (.aN id) c
 |fn (f:Fn) (p q:List aD) (c d:Array Value):c.size=p.length→d.size=q.length→(∀j x,p[j]? =some x→bp w ro σ β N x (c.getD j undef))→
  (∀j x,q[j]? =some x→bp w ro σ β N x (d.getD j undef))→bp w ro σ β N (.fn f p q) (.func f c d)
 |ref (id:Nat) (c:Value):id<N→(∀bE,aE σ id=some (.bY bE)→c=β id)→bp w ro σ β N (.ref id) c
 |top (c:Value):bp w ro σ β N .top c
inductive ly (w:World) (ro:Nat→Prop) (σ:bz) (β:Nat→Value) (N:Nat) (id:Nat):ej→Prop where
 |box (t:TypeId) (cs:List aD) (b:Nat) (arr:Array Value):β id= .pointer (some ⟨b,0,none⟩)→w.heap[b]? =some (.cells arr t (0,0))→arr.size=cs.length→
  (∀j x,cs[j]? =some x→bp w ro σ β N x (arr.getD j undef))→ly w ro σ β N id (.box t cs)
 |row (t:TypeId) (n:Nat) (es:List (List bd)) (xs:List Value):kt w t n (β id) es.length xs→(∀e∈es,e.length=n)→
  (∀j x,es.flatten[j]? =some x→dp w ro x (xs.getD j undef))→ly w ro σ β N id (.row false t n es)
 |fQ (t:TypeId) (n:Nat) (es:List (List bd)):dp w ro (.aN n es) (β id)→ly w ro σ β N id (.row true t n es)
 |bY (bE:Bu) (b:Nat) (o:Obj):cb (β id)=some b→w.heap[b]? =some o→bE.holds (dp w ro) (β id) o→ly w ro σ β N id (.bY bE)
theorem kt.hk{w:World}{t:TypeId}{n:Nat}{v:Value}{len:Nat}{xs:List Value}(h:kt w t n v len xs){b:Nat}(ad:cb v=some b):
 b<w.heap.size∧∃cap cur,v= .slice (some ⟨b,0,none⟩) len cap∧w.heap[b]? =some (.cells cur t (0,0)):=by
 rcases h.2 with⟨⟨c,rfl,_⟩,_⟩|⟨g,cap,cur,rfl,hc,ag,_⟩
 ·cases c<;>simp[cb]at ad
 ·have:cap≠0:=by omega
  simp[cb,this]at ad;subst ad;exact⟨(Array.getElem?_eq_some_iff.1 ag).1,cap,cur,rfl,ag⟩
theorem kt.keep{w w':World}{t:TypeId}{n:Nat}{v:Value}{len:Nat}{xs:List Value}(h:kt w t n v len xs)(hw: ∀b,cb v=some b→w'.heap[b]? =w.heap[b]?)(bJ:w.heap.size≤w'.heap.size):kt w' t n v len xs:=by
 refine⟨h.1,?_⟩
 rcases h.2 with⟨⟨b,av,ad⟩,ao⟩|⟨g,cap,cur,av,hc,ag,rest⟩
 ·exact .inl ⟨⟨b,av,fun a aK=>Nat.lt_of_lt_of_le (ad a aK) bJ⟩,ao⟩
 ·have:cap≠0:=by omega
  exact .inr ⟨g,cap,cur,av,hc,(hw g (by rw[av];simp[cb,this])).trans ag,rest⟩
theorem ly.hk{w:World}{ro:Nat→Prop}{σ:bz}{β:Nat→Value}{N id:Nat}{o:ej}(h:ly w ro σ β N id o)(ao:o.live=true){b:Nat}(ad:cb (β id)=some b):b<w.heap.size:=by
 cases h with
 |box t cs gm arr aa ae=>rw[aa]at ad;simp[cb]at ad;subst ad;exact(Array.getElem?_eq_some_iff.1 ae).1
 |row t n es xs aa=>exact(aa.hk ad).1
 |fQ=>simp[ej.live]at ao
 |bY bE gm o aa ae=>rw[aa]at ad;simp only[Option.some.injEq]at ad;subst ad;exact(Array.getElem?_eq_some_iff.1 ae).1
def Own(σ:bz)(β:Nat→Value)(b:Nat):Prop:=∃id o,aE σ id=some o∧o.live=true∧cb (β id)=some b
structure hl (w:World) (ro:Nat→Prop) (σ:bz) (β:Nat→Value) (N:Nat):Prop where
 c4: ∀id o,aE σ id=some o→ly w ro σ β N id o
 inj: ∀id gJ o cl b,aE σ id=some o→aE σ gJ=some cl→o.live=true→cl.live=true→cb (β id)=some b→cb (β gJ)=some b→id=gJ
 ft: ∀b,ro b→¬Own σ β b
 lt: ∀b,ro b→b<w.heap.size
abbrev aY:=Nat→Option (List bd)
def p2(w:World)(ro:Nat→Prop)(G:aY):Prop:=∀g cs,G g=some cs→dp w ro (.ptr cs) (.pointer (some ⟨g,0,none⟩))∧ro g∧∃arr t p3,w.heap[g]? =some (.cells arr t p3)∧arr.size=cs.length
structure Entry where
 w:World
 ro:Nat→Prop
 σ:bz
 β:Nat→Value
 n:Nat
structure Trans (E:Entry) (w:World) (ro:Nat→Prop) (σ:bz) (β:Nat→Value) (n:Nat):Prop where
 os:w.os=E.w.os
 tape:w.tape=E.w.tape
 output:w.output=E.w.output
 size:E.w.heap.size≤w.heap.size
 frame: ∀b,b<E.w.heap.size→¬Own E.σ E.β b→w.heap[b]? =E.w.heap[b]?
 iM: ∀b,ro b→E.ro b∨Own E.σ E.β b∨E.w.heap.size≤b
 jL: ∀b,E.ro b→ro b
 gK: ∀b,Own σ β b→Own E.σ E.β b∨E.w.heap.size≤b
 dE: ∀id,id<E.n→∀o,aE σ id=some o→aE E.σ id≠none∧β id=E.β id
 new: ∀id o,aE σ id=some o→id<n
 le:E.n≤n
structure aM where
 cC:List aD
 heap:bz
 next:Nat
 base:Nat
structure c6 (E:Entry) (G:aY) (s:aM) (a:Act) (w:World) (β:Nat→Value) (ro:Nat→Prop):Prop where
 defers:a.defers=[]
 size:a.tmps.size=s.cC.length
 slot: ∀i x,s.cC[i]? =some x→bp w ro s.heap β s.next x (a.tmps.getD i undef)
 heap:hl w ro s.heap β s.next
 hT:p2 w ro G
 trans:Trans E w ro s.heap β s.next
 base:E.n≤s.base
def Rel(E:Entry)(G:aY)(s:aM)(a:Act)(w:World):Prop:=∃β ro,c6 E G s a w β ro
theorem bp.keep{w w':World}{ro ro':Nat→Prop}{σ e8:bz}{β dR:Nat→Value}{N od:Nat}{x:aD}{c:Value}(h:bp w ro σ β N x c)
 (hw: ∀b,ro b→w'.heap[b]? =w.heap[b]?)(b6: ∀b,ro b→ro' b)(ha:N≤od)
 (nB: ∀id t cs,aE e8 id=some (.box t cs)→dR id=β id∧∃t cs,aE σ id=some (.box t cs))
 (dF: ∀id z t n es,aE e8 id=some (.row z t n es)→dR id=β id∧∃z t es,aE σ id=some (.row z t n es))
 (nC: ∀id bE,aE e8 id=some (.bY bE)→dR id=β id∧∃bE,aE σ id=some (.bY bE)):bp w' ro' e8 dR od x c:=by
 induction h with
 |au x c hx=>exact .au x c (hx.keep hw b6)
 |agg cs c ah _ aQ=>exact .agg cs c ah aQ
 |tuple cs c ah _ aQ=>exact .tuple cs c ah aQ
 |ptr id off c ao ak=>
  refine .ptr id off c (by omega) fun t cs ag=>?_
  obtain⟨ad,bs,cs',dN⟩:=nB id t cs ag;obtain⟨b,aa,ae⟩:=ak bs cs' dN;exact⟨b,ad.trans aa,ae⟩
 |dB id off c ao ak=>
  refine .dB id off c (by omega) fun t cs ag=>?_
  obtain⟨ad,bs,cs',dN⟩:=nB id t cs ag;obtain⟨b,aa,ae⟩:=ak bs cs' dN;exact⟨b,ad.trans aa,ae⟩
 |cE id i off c ao ak=>
  refine .cE id i off c (by omega) fun z t n es ag=>?_
  obtain⟨ad,h5,bs,eu,dN⟩:=dF id z t n es ag;obtain⟨b,l,iq,aa,ae⟩:=ak h5 bs n eu dN;exact⟨b,l,iq,ad.trans aa,ae⟩
 |aN id c ao ak=>
  refine .aN id c (by omega) fun z t n es ag=>?_
  obtain⟨ad,h5,bs,eu,dN⟩:=dF id z t n es ag;rw[ad];exact ak h5 bs n eu dN
 |fn f p q c d aa ae _ _ gL gM=>exact .fn f p q c d aa ae gL gM
 |ref id c ao ak=>
  refine .ref id c (by omega) fun bE ag=>?_
  obtain⟨ad,lz,dN⟩:=nC id bE ag;rw[ad];exact ak lz dN
 |top c=>exact .top c
theorem p2.keep{w w':World}{ro ro':Nat→Prop}{G:aY}(h:p2 w ro G)
 (hw: ∀b,ro b→w'.heap[b]? =w.heap[b]?)(b6: ∀b,ro b→ro' b):p2 w' ro' G:=fun g cs ag=>by
 obtain⟨aa,ae,arr,t,p3,aq,aT⟩:=h g cs ag
 exact⟨aa.keep hw b6,b6 g ae,arr,t,p3,(hw g ae).trans aq,aT⟩
def aM.put(s:aM)(dst:Option Nat)(v:aD):aM:=
 match dst with
 |some d=>{s with cC:=s.cC.set d v}
 |none=>s
theorem c6.put{E:Entry}{G:aY}{s:aM}{a:Act}{w:World}{β:Nat→Value}{ro:Nat→Prop}(h:c6 E G s a w β ro)(dst:Option Nat)(v:aD)(c:Value)
 (av:bp w ro s.heap β s.next v c):c6 E G (s.put dst v) (a.put dst c) w β ro:=by
 cases dst with
 |none=>exact h
 |some d=>
  refine⟨h.defers,by simpa[Act.put,aM.put]using h.size,fun i x hx=>?_,h.heap,h.hT,h.trans,h.base⟩
  simp only[aM.put,Act.put]at hx⊢;rw[List.getElem?_set]at hx
  have bJ:=h.size
  by_cases GN:d=i
  ·subst GN
   simp only[if_true]at hx
   split at hx
   ·rename_i bA
    simp only[Option.some.injEq]at hx;subst hx
    have:d<a.tmps.size:=by omega
    simpa[this]using av
   ·cases hx
  ·simp only[GN,if_false]at hx
   have:=h.slot i x hx
   simpa[Array.getElem?_setIfInBounds_ne GN]using this
end Go.aL
namespace Go.aL
open Go
def aI(G:aY)(s:aM):Operand→aD
 | .tmp t=>s.cC.getD t .top
 | .const v=>if v.oneCell' then .au (.v v)else .top
 | .global g=>match G g with
  |some cs=>.au (.ptr cs)
  |none=>.top
 | .func f=>.fn (.func f) [] []
theorem c6.eval{E:Entry}{G:aY}{s:aM}{a:Act}{w:World}{β:Nat→Value}{ro:Nat→Prop}(h:c6 E G s a w β ro)(x:Operand):
 bp w ro s.heap β s.next (aI G s x) (a.eval x):=by
 cases x with
 |tmp t=>
  simp only[aI,Act.eval]
  cases aG:s.cC[t]? with
  |none=>simp only[List.getD,aG];exact .top _
  |some v=>simp only[List.getD,aG];exact h.slot t v aG
 |const v=>
  simp only[aI,Act.eval]
  split
  ·exact .au _ _ (.v _ (by assumption))
  ·exact .top _
 |global g=>
  simp only[aI,Act.eval]
  split
  ·exact .au _ _ (h.hT g _ (by assumption)).1
  ·exact .top _
 |func f=>exact .fn _ _ _ _ _ rfl rfl (by simp) (by simp)
def ee(P:Program)(G:aY)(o:Oper)(s bh:aM):Prop:=
 ∀E a w,Rel E G s a w→∀(K:Act→World→Prop) (Q:Exit→Act→World→Prop),(∀a6 w',Rel E G bh a6 w'→K a6 w')→o.wp P a w K Q
def fL(w w':World):Prop:=∀b,b<w.heap.size→w'.heap[b]? =w.heap[b]?
def l1(P:Program)(G:aY)(o:Oper)(s bh:aM):Prop:=
 ∀E a w,Rel E G s a w→∀(K:Act→World→Prop) (Q:Exit→Act→World→Prop),(∀a6 w',Rel E G bh a6 w'→fL w w'→K a6 w')→o.wp P a w K Q
theorem l1.op{P:Program}{G:aY}{o:Oper}{s bh:aM}(h:l1 P G o s bh):ee P G o s bh:=fun E a w af K Q hK=>h E a w af K Q fun a6 w' dS _=>hK a6 w' dS
section
variable {P:Program} {G:aY} {o:Oper} {s:aM}
theorem ee.value{v:aD}(h: ∀E a w β ro,c6 E G s a w β ro→∃c,(execOp a.eval o).run P w= .ok (.value c) w∧bp w ro s.heap β s.next v c):
 ee P G o s (s.put o.dst v):=by
 intro E a w ⟨β,ro,af⟩ K Q hK
 obtain⟨c,cS,av⟩:=h E a w β ro af
 unfold Oper.wp
 rw[cS]
 exact hK _ _ ⟨β,ro,af.put o.dst v c av⟩
abbrev cT(P:Program)(G:aY)(o:Oper)(s:aM)(v:aD):Prop:=
 ∀E a w β ro,c6 E G s a w β ro→∃c,(execOp a.eval o).run P w= .ok (.value c) w∧bp w ro s.heap β s.next v c
theorem cT.step{v:aD}(h:cT P G o s v):ee P G o s (s.put o.dst v):=.value h
theorem cT.Nt{v:aD}(h:cT P G o s v):l1 P G o s (s.put o.dst v):=by
 intro E a w ⟨β,ro,af⟩ K Q hK
 obtain⟨c,cS,av⟩:=h E a w β ro af
 unfold Oper.wp
 rw[cS]
 exact hK _ _ ⟨β,ro,af.put o.dst v c av⟩ fun _ _=>rfl
theorem Nu(x:Operand)(an:o.op= .move x):cT P G o s (aI G s x):=
 fun _ a w _ _ af=>⟨a.eval x,by simp[execOp,an],af.eval x⟩
theorem Nv(x:Operand)(an:o.op= .assign x):cT P G o s (aI G s x):=
 fun _ a w _ _ af=>⟨a.eval x,by simp[execOp,an],af.eval x⟩
def fc(σ:bz):aD→Option (List aD)
 | .au (.ptr cs)=>some (cs.map .au)
 | .ptr id off=>match aE σ id with
  |some (.box _ cs)=>some (cs.drop off)
  |_=>none
 | .cE id i off=>match aE σ id with
  |some (.row false _ _ es)=>match es[i]? with
   |some e=>some ((e.drop off).map .au)
   |none=>none
  |_=>none
 |_=>none
theorem qA{α:Type}{n:Nat}: ∀{es:List (List α)},(∀e∈es,e.length=n)→∀{i:Nat} {e:List α},es[i]? =some e→∀j,j<n→es.flatten[i*n+j]? =e[j]?
 |[],_,i,e,h,_,_=>by simp at h
 |x::r,hn,i,e,h,j,ai=>by
  have hx:x.length=n:=hn x (by simp)
  cases i with
  |zero=>
   simp at h;subst h;simp only[List.flatten_cons,Nat.zero_mul,Nat.zero_add];rw[List.getElem?_append_left (by omega)]
  |succ i=>
   simp at h
   have aQ:=qA (es:=r) (fun e he=>hn e (by simp[he])) h j ai
   simp only[List.flatten_cons];rw[List.getElem?_append_right (by rw[Nat.succ_mul];omega),←aQ]
   congr 1
   rw[Nat.succ_mul];omega
theorem jM{α:Type}{n:Nat}: ∀{es:List (List α)},(∀e∈es,e.length=n)→es.flatten.length=es.length*n
 |[],_=>by simp
 |x::r,hn=>by
  simp only[List.flatten_cons,List.length_append,List.length_cons,Nat.succ_mul];rw[jM (es:=r) (fun e he=>hn e (by simp[he])),hn x (by simp)]
  omega
theorem bp.one{w:World}{ro:Nat→Prop}{σ:bz}{β:Nat→Value}{N:Nat}{x:bd}{c:Value}(h:bp w ro σ β N (.au x) c):c.oneCell'=true:=by
 cases h with
 |au _ _ h=>exact h.one
theorem vD{w:World}{ro:Nat→Prop}{σ:bz}{β:Nat→Value}{N:Nat}(a8:hl w ro σ β N){p:aD}{c:Value}{cs:List aD}(ak:fc σ p=some cs)(hc:bp w ro σ β N p c)
 (cf:cs≠[]): ∃a,c= .pointer (some a)∧∃f:Nat→Value,∀j x,cs[j]? =some x→w.cell? (a.add j)=some (f j)∧bp w ro σ β N x (f j):=by
 cases hc with
 |au x c hx=>
  cases hx with
  |v x=>simp[fc]at ak
  |ptr cs' a f aa ae=>
   simp only[fc,Option.some.injEq]at ak;subst ak;refine⟨a,rfl,f,fun j x ai=>?_⟩
   rw[List.getElem?_map]at ai
   cases oe:cs'[j]? with
   |none=>simp[oe]at ai
   |some y=>
    simp[oe]at ai;subst ai;exact⟨(aa j y oe).2,.au _ _ (ae j y oe)⟩
  |aN=>simp[fc]at ak
  |mp=>simp[fc]at ak
  |li=>simp[fc]at ak
 |ptr id off c bA tR=>
  simp only[fc]at ak
  cases an:aE σ id with
  |none=>simp[an]at ak
  |some h6=>
   cases h6 with
   |row=>simp[an]at ak
   |bY=>simp[an]at ak
   |box t cs'=>
    simp only[an,Option.some.injEq]at ak;subst ak;obtain⟨b,ad,rfl⟩:=tR t cs' an
    have dq:=a8.c4 id _ an
    cases dq with
    |box _ _ gm arr ho ag bJ fe=>
     rw[ad]at ho;simp only[Value.pointer.injEq,Option.some.injEq,Addr.mk.injEq,and_true]at ho;subst ho;refine⟨_,rfl,fun j=>arr.getD (off+j) undef,fun j x ai=>?_⟩
     rw[List.getElem?_drop]at ai
     have bA:off+j<cs'.length:=by
      rcases Nat.lt_or_ge (off+j) cs'.length with h|h
      ·exact h
      ·rw[List.getElem?_eq_none h]at ai;cases ai
     refine⟨?_,fe _ _ ai⟩
     rw[addLit,cell_of_row w b (off+j) arr t (0,0) ag]
     have:off+j<arr.size:=by omega
     simp[this]
 |cE id i off c bA tR=>
  simp only[fc]at ak
  cases an:aE σ id with
  |none=>simp[an]at ak
  |some h6=>
   cases h6 with
   |box=>simp[an]at ak
   |bY=>simp[an]at ak
   |row z t n es=>
    cases z with
    |true=>simp[an]at ak
    |false=>
     simp only[an]at ak
     cases og:es[i]? with
     |none=>simp[og]at ak
     |some e=>
      simp only[og,Option.some.injEq]at ak;subst ak;obtain⟨b,l,iq,ad,rfl⟩:=tR false t n es an
      have dq:=a8.c4 id _ an
      cases dq with
      |row _ _ _ xs jm hn fe=>
       rw[ad]at jm;obtain⟨Bw,mr⟩:=jm
       rcases mr with⟨⟨_,h,_⟩,br⟩|⟨g,cap,cur,av,_,ag,hle,iN,fu,lA⟩
       ·have:=(List.getElem?_eq_some_iff.1 og).1;omega
       ·simp only[Value.slice.injEq,Option.some.injEq,Addr.mk.injEq,and_true]at av
        obtain⟨rfl,_,_⟩:=av;refine⟨_,rfl,fun j=>xs.getD (i*n+(off+j)) undef,fun j x ai=>?_⟩
        rw[List.getElem?_map]at ai
        cases oe:(e.drop off)[j]? with
        |none=>simp[oe]at ai
        |some y=>
         simp[oe]at ai;subst ai;rw[List.getElem?_drop]at oe
         have nD:e.length=n:=hn e (List.mem_of_getElem? og)
         have oh:off+j<n:=by
          rcases Nat.lt_or_ge (off+j) e.length with h|h
          ·omega
          ·rw[List.getElem?_eq_none h]at oe;cases oe
         have oj:es.flatten[i*n+(off+j)]? =some y:=by rw[qA hn og _ oh];exact oe
         refine⟨?_,.au _ _ (fe _ _ oj)⟩
         have lB:i*n+(off+j)<xs.length:=by
          have aa:i*n+(off+j)<es.flatten.length:=by
           rcases Nat.lt_or_ge (i*n+(off+j)) es.flatten.length with h|h
           ·exact h
           ·rw[List.getElem?_eq_none h]at oj;cases oj
          rw[jM hn]at aa
          have ae:=Bw
          omega
         rw[addLit,Nat.add_assoc,cell_of_row w b _ cur t (0,0) ag]
         have hx:xs[i*n+(off+j)]? =cur[i*n+(off+j)]? :=by
          rw[←lA,List.getElem?_take]
          have ae:=Bw
          rw[if_pos (by omega)]
          simp
         rw[←hx];simp[List.getD,List.getElem?_eq_getElem lB]
 |agg=>simp[fc]at ak
 |tuple=>simp[fc]at ak
 |aN=>simp[fc]at ak
 |fn=>simp[fc]at ak
 |ref=>simp[fc]at ak
 |dB=>simp[fc]at ak
 |top=>simp[fc]at ak
def l2(P:Program)(t:TypeId):Option Nat:=
 match P.underlying t with
 |some (.struct _)|some (.array _ _)=>(P.info? t).map (·.size)
 |_=>none
def scalar(P:Program)(t:TypeId):Bool:=
 match P.underlying t with
 |some (.struct _)|some (.array _ _)|none=>false
 |_=>true
theorem Bx{t:TypeId}{n:Nat}(h:l2 P t=some n)(w:World):(isAgg t).run P w= .ok true w∧(sizeOf t).run P w= .ok n w:=by
 unfold l2 at h
 cases hu:P.underlying t with
 |none=>simp[hu]at h
 |some d=>
  cases hi:P.info? t with
  |none=>cases d<;>simp[hu,hi]at h
  |some i=>
   cases d<;>simp[hu,hi]at h
   all_goals
    subst h;exact⟨by simp[isAgg,run_underlying hu],by simp[sizeOf,typeInfo,hi]⟩
theorem yd{t:TypeId}(h:scalar P t=true)(w:World):(isAgg t).run P w= .ok false w:=by
 unfold scalar at h
 cases hu:P.underlying t with
 |none=>simp[hu]at h
 |some d=>cases d<;>simp[hu]at h<;>simp[isAgg,run_underlying hu]
theorem Nw(t:TypeId)(x:Operand)(an:o.op= .load t x){n:Nat}(aG:l2 P t=some n){cs:List aD}(ak:fc s.heap (aI G s x)=some cs)(hn:n≤cs.length)(aS:0<n):
 cT P G o s (.agg (cs.take n)):=
 fun _ a w β ro af=>by
  obtain⟨cP,hc,f,hf⟩:=vD af.heap ak (af.eval x) (by intro h;subst h;simp at hn;omega)
  obtain⟨aa,ae⟩:=Bx aG w
  have ao:=run_loadCells (P:=P) w cP n f (fun j ai=>(hf j (cs[j]'(by omega)) (by simp)).1)
  refine⟨.agg ((List.range n).map f).toArray,?_,.agg _ _ (by simp;omega) fun j y ai=>?_⟩
  ·simp[execOp,an,hc,Instr.loadAt,Instr.sureAddr,loadVar,aa,ae,ao]
  ·rw[List.getElem?_take]at ai
   split at ai
   ·have:=(hf j y ai).2
    rename_i oh;simpa[oh]using this
   ·cases ai
theorem GO(t:TypeId)(x:Operand)(an:o.op= .load t x)(aG:scalar P t=true){y:aD}{cs:List aD}(ak:fc s.heap (aI G s x)=some (y::cs)):
 cT P G o s y:=
 fun _ a w β ro af=>by
  obtain⟨cP,hc,f,hf⟩:=vD af.heap ak (af.eval x) (by simp)
  have aa:=yd aG w
  obtain⟨k2,dk⟩:=hf 0 y rfl;rw[show cP.add 0=cP from by simp[Addr.add]]at k2
  exact⟨f 0,by simp[execOp,an,hc,Instr.loadAt,Instr.sureAddr,loadVar,aa,run_load,k2],dk⟩
def rX(P:Program)(t:TypeId)(f:Nat):Option Nat:=
 match P.underlying t with
 |some (.struct fs)=>match fs[f]? with
  |some fd=>match P.info? fd.type with
   |some i=>if i.size=0 then none else some fd.offset
   |none=>none
  |none=>none
 |_=>none
def iO(k:Nat):aD→Option aD
 | .au (.ptr cs)=>some (.au (.ptr (cs.drop k)))
 | .ptr id off=>some (.ptr id (off+k))
 | .cE id i off=>some (.cE id i (off+k))
 |_=>none
theorem Nx{w:World}{ro:Nat→Prop}{σ:bz}{β:Nat→Value}{N:Nat}{p q:aD}{c:Value}{cs:List aD}{k:Nat}(ah:iO k p=some q)(ak:fc σ p=some cs)(hc:bp w ro σ β N p c):
 ∃a,c= .pointer (some a)∧bp w ro σ β N q (.pointer (some (a.add k))):=by
 cases hc with
 |au x c hx=>
  cases hx with
  |v x=>simp[iO]at ah
  |ptr cs' a f aa ae=>
   simp only[iO,Option.some.injEq]at ah;subst ah;refine⟨a,rfl,.au _ _ (.ptr _ _ (fun j=>f (k+j)) (fun j x ai=>?_) (fun j x ai=>?_))⟩
   ·rw[List.getElem?_drop]at ai
    rw[tQ,yc];exact aa _ _ ai
   ·rw[List.getElem?_drop]at ai
    exact ae _ _ ai
  |aN=>simp[iO]at ah
  |mp=>simp[iO]at ah
  |li=>simp[iO]at ah
 |ptr id off c bA tR=>
  simp only[iO,Option.some.injEq]at ah;subst ah;simp only[fc]at ak
  split at ak
  ·rename_i t cs' an
   obtain⟨b,ad,rfl⟩:=tR t cs' an;refine⟨_,rfl,.ptr _ _ _ bA fun bs zcM lr=>⟨b,ad,by rw[addLit]⟩⟩
  ·cases ak
 |cE id i off c bA tR=>
  simp only[iO,Option.some.injEq]at ah;subst ah;simp only[fc]at ak
  split at ak
  ·rename_i t n es an
   obtain⟨b,l,iq,ad,rfl⟩:=tR false t n es an;refine⟨_,rfl,.cE _ _ _ _ bA fun h5 bs cO eu lr=>⟨b,l,iq,ad,?_⟩⟩
   rw[an]at lr;simp only[Option.some.injEq,ej.row.injEq]at lr;obtain⟨_,_,rfl,_⟩:=lr;rw[addLit,Nat.add_assoc]
  ·cases ak
 |agg=>simp[iO]at ah
 |tuple=>simp[iO]at ah
 |aN=>simp[iO]at ah
 |fn=>simp[iO]at ah
 |ref=>simp[iO]at ah
 |dB=>simp[iO]at ah
 |top=>simp[iO]at ah
theorem Ny{t f k:Nat}(h:rX P t f=some k)(a:Addr)(w:World):(Instr.fieldAt t (.pointer (some a)) f).run P w= .ok (.pointer (some (a.add k))) w:=by
 unfold rX at h
 split at h
 ·rename_i fs hu
  split at h
  ·rename_i fd hf
   split at h
   ·rename_i i hi
    split at h
    ·cases h
    ·rename_i br
     simp only[Option.some.injEq]at h;subst h;simp[Instr.fieldAt,run_underlying hu,hf,Instr.sureAddr,fieldPlace,sizeOf,typeInfo,hi,br]
   ·cases h
  ·cases h
 ·cases h
def jN(σ:bz):aD→Bool
 | .au (.ptr _)=>true
 | .ptr id _=>match aE σ id with
  |some (.box _ _)=>true
  |_=>false
 | .cE id _ _=>match aE σ id with
  |some (.row _ _ _ _)=>true
  |_=>false
 |_=>false
def qB(k:Nat):aD→aD
 | .au (.ptr cs)=>.au (.ptr (cs.drop k))
 | .ptr id off=>.ptr id (off+k)
 | .cE id i off=>.cE id i (off+k)
 |x=>x
theorem ye{w:World}{ro:Nat→Prop}{σ:bz}{β:Nat→Value}{N:Nat}{x:aD}{c:Value}(hx:jN σ x=true)(h:bp w ro σ β N x c): ∃a,c= .pointer (some a)∧∀k,bp w ro σ β N (qB k x) (.pointer (some (a.add k))):=by
 cases h with
 |au x c af=>
  cases af with
  |ptr cs a f aa ae=>
   refine⟨a,rfl,fun k=>.au _ _ (.ptr _ _ (fun j=>f (k+j)) (fun j x ai=>?_) (fun j x ai=>?_))⟩
   ·rw[List.getElem?_drop]at ai
    rw[tQ,yc];exact aa _ _ ai
   ·rw[List.getElem?_drop]at ai
    exact ae _ _ ai
  |v=>simp[jN]at hx
  |aN=>simp[jN]at hx
  |mp=>simp[jN]at hx
  |li=>simp[jN]at hx
 |ptr id off c ao ak=>
  simp only[jN]at hx
  split at hx
  ·rename_i t cs ag
   obtain⟨b,ad,rfl⟩:=ak t cs ag;refine⟨_,rfl,fun k=>.ptr id (off+k) _ ao fun bs cs' dN=>?_⟩
   obtain⟨gm,ho,yf⟩:=ak bs cs' dN;rw[ad]at ho;simp only[Value.pointer.injEq,Option.some.injEq,Addr.mk.injEq,and_true]at ho;subst ho;exact⟨b,ad,by rw[addLit]⟩
  ·cases hx
 |cE id i off c ao ak=>
  simp only[jN]at hx
  split at hx
  ·rename_i z t n es ag
   obtain⟨b,l,iq,ad,rfl⟩:=ak z t n es ag;refine⟨_,rfl,fun k=>.cE id i (off+k) _ ao fun h5 bs cO eu dN=>?_⟩
   rw[ag]at dN;simp only[Option.some.injEq,ej.row.injEq]at dN;obtain⟨_,_,rfl,_⟩:=dN;exact⟨b,l,iq,ad,by rw[addLit,Nat.add_assoc]⟩
  ·cases hx
 |_=>simp[jN]at hx
theorem Nz(t:TypeId)(x:Operand)(f:Nat)(an:o.op= .fieldAddr t x f){k:Nat}(aj:rX P t f=some k)(ak:jN s.heap (aI G s x)=true):cT P G o s (qB k (aI G s x)):=
 fun _ a w β ro af=>by
  obtain⟨cP,hc,dk⟩:=ye ak (af.eval x);exact⟨_,by simp[execOp,an,hc,Ny aj],dk k⟩
theorem NA(x:Operand)(an:o.op= .nilCheck x)(ak:jN s.heap (aI G s x)=true):cT P G o s (aI G s x):=
 fun _ a w β ro af=>by
  obtain⟨cP,hc,_⟩:=ye ak (af.eval x);exact⟨_,by simp[execOp,an,hc],hc ▸ af.eval x⟩
end
end Go.aL
namespace Go.aL
open Go
def hp(β:Nat→Value)(id:Nat)(v:Value):Nat→Value:=fun k=>if k=id then v else β k
theorem ew(β:Nat→Value)(id:Nat)(v:Value):hp β id v id=v:=by simp[hp]
theorem cJ(β:Nat→Value){id k:Nat}(v:Value)(h:k≠id):hp β id v k=β k:=by simp[hp,h]
section
variable {E:Entry} {G:aY} {s:aM} {a:Act} {w w':World} {β:Nat→Value} {ro:Nat→Prop}
theorem ly.keep{w w':World}{ro ro':Nat→Prop}{σ e8:bz}{β dR:Nat→Value}{N od:Nat}{id:Nat}{o:ej}(h:ly w ro σ β N id o)
 (hw: ∀b,ro b→w'.heap[b]? =w.heap[b]?)(b6: ∀b,ro b→ro' b)(ha:N≤od)(bJ:w.heap.size≤w'.heap.size)(hid:dR id=β id)(gN:o.live=true→∀b,cb (β id)=some b→w'.heap[b]? =w.heap[b]?)
 (nB: ∀id t cs,aE e8 id=some (.box t cs)→dR id=β id∧∃t cs,aE σ id=some (.box t cs))
 (dF: ∀id z t n es,aE e8 id=some (.row z t n es)→dR id=β id∧∃z t es,aE σ id=some (.row z t n es))
 (nC: ∀id bE,aE e8 id=some (.bY bE)→dR id=β id∧∃bE,aE σ id=some (.bY bE)):ly w' ro' e8 dR od id o:=by
 cases h with
 |box t cs b arr aa ae aq aT=>
  exact .box t cs b arr (hid.trans aa) ((gN rfl b (by rw[aa];rfl)).trans ae) aq fun j x ai=>(aT j x ai).keep hw b6 ha nB dF nC
 |row t n es xs aa ae aq=>
  exact .row t n es xs (by rw[hid];exact aa.keep (fun b ad=>gN rfl b ad) bJ) ae fun j x ai=>(aq j x ai).keep hw b6
 |fQ t n es aa=>exact .fQ t n es (by rw[hid];exact aa.keep hw b6)
 |bY bE b o aa ae aq=>exact .bY bE b o (by rw[hid];exact aa) ((gN rfl b aa).trans ae) (by rw[hid];exact bE.mono _ _ _ _ (fun x c h=>h.keep hw b6) aq)
theorem c6.new(h:c6 E G s a w β ro)(id:Nat)(hid:aE s.heap id=none)(ad:s.base≤id)(bA:s.next≤id)(o:ej)(val:Value)
 (om:w'.os=w.os)(oo:w'.tape=w.tape)(ku:w'.output=w.output)(bJ:w.heap.size≤w'.heap.size)(hw: ∀b,b<w.heap.size→w'.heap[b]? =w.heap[b]?)
 (gN: ∀b,cb val=some b→w.heap.size≤b)(GQ:o.live=true)
 (dq:ly w' ro ((id,o)::s.heap) (hp β id val) (id+1) id o):c6 E G {s with heap:=(id,o)::s.heap,next:=id+1} a w' (hp β id val) ro:=by
 have b6: ∀b,ro b→w'.heap[b]? =w.heap[b]? :=fun b af=>hw b (h.heap.lt b af)
 have ag: ∀k,k≠id→aE ((id,o)::s.heap) k=aE s.heap k:=fun k aj=>by simp[aE,Ne.symm aj]
 have tS:aE ((id,o)::s.heap) id=some o:=by simp[aE]
 have GR: ∀k p b,aE s.heap k=some p→p.live=true→cb (β k)=some b→b<w.heap.size:=fun k p b aj ak a7=>(h.heap.c4 k p aj).hk ak a7
 have key: ∀x c,bp w ro s.heap β s.next x c→bp w' ro ((id,o)::s.heap) (hp β id val) (id+1) x c:=by
  intro x c hx
  induction hx with
  |au x c hx=>exact .au x c (hx.keep b6 fun _ h=>h)
  |agg cs c ah _ aQ=>exact .agg cs c ah aQ
  |tuple cs c ah _ aQ=>exact .tuple cs c ah aQ
  |ptr k off c ao ak=>
   have aj:k≠id:=by omega
   exact .ptr k off c (by omega) fun t cs bc=>by rw[cJ _ _ aj];rw[ag k aj]at bc;exact ak t cs bc
  |dB k off c ao ak=>
   have aj:k≠id:=by omega
   exact .dB k off c (by omega) fun t cs bc=>by rw[cJ _ _ aj];rw[ag k aj]at bc;exact ak t cs bc
  |cE k i off c ao ak=>
   have aj:k≠id:=by omega
   exact .cE k i off c (by omega) fun z t n es bc=>by rw[cJ _ _ aj];rw[ag k aj]at bc;exact ak z t n es bc
  |aN k c ao ak=>
   have aj:k≠id:=by omega
   exact .aN k c (by omega) fun z t n es bc=>by rw[cJ _ _ aj];rw[ag k aj]at bc;exact ak z t n es bc
  |fn f p q c d aa ae _ _ gL gM=>exact .fn f p q c d aa ae gL gM
  |ref k c ao ak=>
   have aj:k≠id:=by omega
   exact .ref k c (by omega) fun bE bc=>by rw[cJ _ _ aj];rw[ag k aj]at bc;exact ak bE bc
  |top c=>exact .top c
 refine⟨h.defers,h.size,fun i x hx=>key _ _ (h.slot i x hx),⟨fun k p aj=>?_,fun k bo p fF b aj ey ak gp a7 ea=>?_,fun b af=>?_,fun b af=>Nat.lt_of_lt_of_le (h.heap.lt b af) bJ⟩,
  h.hT.keep b6 fun _ h=>h,?_,h.base⟩
 ·by_cases bk:k=id
  ·subst bk
   rw[tS]at aj;simp only[Option.some.injEq]at aj;subst aj;exact dq
  ·rw[ag k bk]at aj
   have gq:=h.heap.c4 k p aj
   cases gq with
   |box t cs b arr aa ae aq aT=>
    have ir:=GR k _ b aj rfl (by rw[aa];rfl)
    exact .box t cs b arr (by rw[cJ _ _ bk];exact aa) ((hw b ir).trans ae) aq fun j x ai=>key _ _ (aT j x ai)
   |row t n es xs aa ae aq=>
    exact .row t n es xs (by rw[cJ _ _ bk];exact aa.keep (fun b ad=>hw b (aa.hk ad).1) bJ) ae fun j x ai=>(aq j x ai).keep b6 fun _ h=>h
   |fQ t n es aa=>exact .fQ t n es (by rw[cJ _ _ bk];exact aa.keep b6 fun _ h=>h)
   |bY bE b o aa ae aq=>exact .bY bE b o (by rw[cJ _ _ bk];exact aa) ((hw b (Array.getElem?_eq_some_iff.1 ae).1).trans ae) (by rw[cJ _ _ bk];exact bE.mono _ _ _ _ (fun x c h=>h.keep b6 fun _ h=>h) aq)
 ·by_cases bk:k=id
  ·by_cases gr:bo=id
   ·rw[bk,gr]
   ·subst bk
    rw[ew]at a7;rw[cJ _ _ gr]at ea;rw[ag bo gr]at ey
    have aa:=gN b a7
    have ae:=GR bo fF b ey gp ea
    omega
  ·by_cases gr:bo=id
   ·subst gr
    rw[ew]at ea;rw[cJ _ _ bk]at a7;rw[ag k bk]at aj
    have aa:=gN b ea
    have ae:=GR k p b aj ak a7
    omega
   ·rw[cJ _ _ bk]at a7
    rw[cJ _ _ gr]at ea;rw[ag k bk]at aj;rw[ag bo gr]at ey;exact h.heap.inj k bo p fF b aj ey ak gp a7 ea
 ·rintro⟨k,p,aj,ak,a7⟩
  by_cases bk:k=id
  ·subst bk
   rw[ew]at a7
   have aa:=gN b a7
   have ae:=h.heap.lt b af
   omega
  ·rw[cJ _ _ bk]at a7
   rw[ag k bk]at aj;exact h.heap.ft b af ⟨k,p,aj,ak,a7⟩
 ·have t:=h.trans
  refine⟨om.trans t.os,oo.trans t.tape,ku.trans t.output,Nat.le_trans t.size bJ,fun b ir hq=>?_,t.iM,t.jL,?_,fun k aj p bc=>?_,fun k p bc=>?_,Nat.le_trans h.base (Nat.le_trans ad (Nat.le_succ _))⟩
  ·rw[hw b (Nat.lt_of_lt_of_le ir t.size)]
   exact t.frame b ir hq
  ·rintro b ⟨k,p,aj,ak,a7⟩
   by_cases bk:k=id
   ·subst bk
    rw[ew]at a7;exact .inr (Nat.le_trans t.size (gN b a7))
   ·rw[cJ _ _ bk]at a7
    rw[ag k bk]at aj;exact t.gK b ⟨k,p,aj,ak,a7⟩
  ·have bk:k≠id:=by have:=h.base;omega
   rw[ag k bk]at bc;rw[cJ _ _ bk];exact t.dE k aj p bc
  ·by_cases bk:k=id
   ·subst bk;exact Nat.lt_succ_self _
   ·rw[ag k bk]at bc
    have:=t.new k p bc
    show k<id+1;omega
theorem c6.write(h:c6 E G s a w β ro)(id:Nat)(o cl:ej)(hid:aE s.heap id=some o)(vE:o.live=true)(zcN:cl.live=true)
 (yg:(∃t cs cs',o= .box t cs∧cl= .box t cs')∨(∃t n es eu,o= .row false t n es∧cl= .row false t n eu)∨(∃bE lz,o= .bY bE∧cl= .bY lz))
 (om:w'.os=w.os)(oo:w'.tape=w.tape)(ku:w'.output=w.output)(bJ:w.heap.size≤w'.heap.size)(hw: ∀b,b<w.heap.size→cb (β id)≠some b→w'.heap[b]? =w.heap[b]?)
 (dq:ly w' ro (eU s.heap id cl) β s.next id cl):c6 E G {s with heap:=eU s.heap id cl} a w' β ro:=by
 have b6: ∀b,ro b→w'.heap[b]? =w.heap[b]? :=fun b af=>hw b (h.heap.lt b af) fun ad=>h.heap.ft b af ⟨id,o,hid,vE,ad⟩
 have ag:=vC s.heap id cl
 have own: ∀b,Own (eU s.heap id cl) β b→Own s.heap β b:=by
  rintro b ⟨k,p,aj,ak,a7⟩
  rw[ag k]at aj
  by_cases bk:id=k
  ·subst bk;exact⟨id,o,hid,vE,a7⟩
  ·rw[if_neg bk]at aj;exact⟨k,p,aj,ak,a7⟩
 have nE: ∀k p b,aE s.heap k=some p→p.live=true→cb (β k)=some b→b<w.heap.size:=fun k p b aj ak a7=>(h.heap.c4 k p aj).hk ak a7
 have nB: ∀k t cs,aE (eU s.heap id cl) k=some (.box t cs)→β k=β k∧∃t cs,aE s.heap k=some (.box t cs):=by
  intro k t cs aj;rw[ag k]at aj
  by_cases bk:id=k
  ·subst bk
   rw[if_pos rfl]at aj;simp only[Option.some.injEq]at aj
   rcases yg with⟨t1,aA,et,rfl,rfl⟩|⟨t1,n,ay,aV,rfl,rfl⟩|⟨_,_,rfl,rfl⟩
   ·exact⟨rfl,t1,aA,hid⟩
   ·cases aj
   ·cases aj
  ·rw[if_neg bk]at aj;exact⟨rfl,t,cs,aj⟩
 have dF: ∀k z t n es,aE (eU s.heap id cl) k=some (.row z t n es)→β k=β k∧∃z t es,aE s.heap k=some (.row z t n es):=by
  intro k z t n es aj;rw[ag k]at aj
  by_cases bk:id=k
  ·subst bk
   rw[if_pos rfl]at aj;simp only[Option.some.injEq]at aj
   rcases yg with⟨t1,aA,et,rfl,rfl⟩|⟨t1,gj,ay,aV,rfl,rfl⟩|⟨_,_,rfl,rfl⟩
   ·cases aj
   ·simp only[ej.row.injEq]at aj
    obtain⟨_,_,rfl,_⟩:=aj;exact⟨rfl,_,_,_,hid⟩
   ·cases aj
  ·rw[if_neg bk]at aj;exact⟨rfl,z,t,es,aj⟩
 have nC: ∀k bE,aE (eU s.heap id cl) k=some (.bY bE)→β k=β k∧∃bE,aE s.heap k=some (.bY bE):=by
  intro k bE aj;rw[ag k]at aj
  by_cases bk:id=k
  ·subst bk
   rw[if_pos rfl]at aj;simp only[Option.some.injEq]at aj
   rcases yg with⟨t1,aA,et,rfl,rfl⟩|⟨t1,gj,ay,aV,rfl,rfl⟩|⟨WY,_,rfl,rfl⟩
   ·cases aj
   ·cases aj
   ·exact⟨rfl,WY,hid⟩
  ·rw[if_neg bk]at aj;exact⟨rfl,bE,aj⟩
 refine⟨h.defers,h.size,fun i x hx=>(h.slot i x hx).keep b6 (fun _ h=>h) (Nat.le_refl _) nB dF nC,⟨fun k p aj=>?_,fun k bo p fF b aj ey ak gp a7 ea=>?_,fun b af ad=>h.heap.ft b af (own b ad),
  fun b af=>Nat.lt_of_lt_of_le (h.heap.lt b af) bJ⟩,h.hT.keep b6 fun _ h=>h,?_,h.base⟩
 ·rw[ag k]at aj
  by_cases bk:id=k
  ·subst bk
   rw[if_pos rfl]at aj;simp only[Option.some.injEq]at aj;subst aj;exact dq
  ·rw[if_neg bk]at aj
   refine(h.heap.c4 k p aj).keep b6 (fun _ h=>h) (Nat.le_refl _) bJ rfl (fun ao b ad=>hw b (nE k p b aj ao ad) fun jn=>bk (h.heap.inj id k o p b hid aj vE ao jn ad)) nB dF nC
 ·have aa: ∃q,aE s.heap k=some q∧q.live=true:=by
   rw[ag k]at aj
   by_cases bk:id=k
   ·subst bk;exact⟨o,hid,vE⟩
   ·rw[if_neg bk]at aj;exact⟨p,aj,ak⟩
  have ae: ∃q,aE s.heap bo=some q∧q.live=true:=by
   rw[ag bo]at ey
   by_cases bk:id=bo
   ·subst bk;exact⟨o,hid,vE⟩
   ·rw[if_neg bk]at ey;exact⟨fF,ey,gp⟩
  obtain⟨q,aJ,qC⟩:=aa;obtain⟨gx,tT,yh⟩:=ae;exact h.heap.inj k bo q gx b aJ tT qC yh a7 ea
 ·have t:=h.trans
  refine⟨om.trans t.os,oo.trans t.tape,ku.trans t.output,Nat.le_trans t.size bJ,fun b ir hq=>?_,t.iM,t.jL,fun b ad=>t.gK b (own b ad),fun k aj p bc=>?_,fun k p bc=>?_,t.le⟩
  ·by_cases jn:cb (β id)=some b
   ·rcases t.gK b ⟨id,o,hid,vE,jn⟩with hc|hc
    ·exact absurd hc hq
    ·omega
   ·rw[hw b (Nat.lt_of_lt_of_le ir t.size) jn]
    exact t.frame b ir hq
  ·rw[ag k]at bc
   by_cases bk:id=k
   ·subst bk;exact t.dE id aj o hid
   ·rw[if_neg bk]at bc;exact t.dE k aj p bc
  ·rw[ag k]at bc
   by_cases bk:id=k
   ·subst bk;exact t.new id o hid
   ·rw[if_neg bk]at bc;exact t.new k p bc
end
end Go.aL
namespace Go.aL
open Go
def cy:aD→List aD
 | .agg cs=>cs
 |x=>[x]
section
variable {w:World} {ro:Nat→Prop} {σ:bz} {β:Nat→Value} {N:Nat}
def ek(σ:bz):aD→Bool
 | .au _| .fn _ _ _=>true
 | .ptr id _=>match aE σ id with
  |some (.box _ _)=>true
  |_=>false
 | .aN id=>match aE σ id with
  |some (.row _ _ _ _)=>true
  |_=>false
 | .cE id _ _=>match aE σ id with
  |some (.row _ _ _ _)=>true
  |_=>false
 |_=>false
theorem By(a8:hl w ro σ β N){x:aD}{c:Value}(hx:ek σ x=true)(h:bp w ro σ β N x c):c.oneCell'=true:=by
 cases h with
 |au x c h=>exact h.one
 |agg=>simp[ek]at hx
 |tuple=>simp[ek]at hx
 |ptr id off c ao ak=>
  simp only[ek]at hx
  split at hx
  ·rename_i t cs ag
   obtain⟨b,_,rfl⟩:=ak t cs ag;rfl
  ·cases hx
 |cE id i off c ao ak=>
  simp only[ek]at hx
  split at hx
  ·rename_i z t n es ag
   obtain⟨b,l,iq,_,rfl⟩:=ak z t n es ag;rfl
  ·cases hx
 |aN id c ao ak=>
  simp only[ek]at hx
  split at hx
  ·rename_i z t n es ag
   rw[ak z t n es ag]
   have:=a8.c4 id _ ag
   cases this with
   |row _ _ _ xs aa=>
    rcases aa.2 with⟨⟨_,av,_⟩,_⟩|⟨g,cap,cur,av,_⟩<;>rw[av]<;>rfl
   |fQ _ _ _ aa=>exact aa.one
  ·cases hx
 |fn=>rfl
 |ref=>simp[ek]at hx
 |dB=>simp[ek]at hx
 |top=>simp[ek]at hx
theorem bp.cy{x:aD}{c:Value}(h:bp w ro σ β N x c)(dQ:(cy x).all (ek σ)=true)(a8:hl w ro σ β N):
 c.cells.size=(cy x).length∧(∀j y,(Go.aL.cy x)[j]? =some y→bp w ro σ β N y (c.cells.getD j undef))∧∀u∈c.cells.toList,u.oneCell'=true:=by
 cases h with
 |agg cs c ah hc=>
  refine⟨ah,hc,fun u hu=>?_⟩
  obtain⟨j,ai,rfl⟩:=List.mem_iff_getElem.1 hu
  have NB:j<cs.length:=by simpa[Value.cells,ah]using ai
  have aa:=hc j cs[j] (List.getElem?_eq_getElem NB)
  have ae:ek σ cs[j]=true:=by
   simp only[Go.aL.cy,List.all_eq_true]at dQ;exact dQ _ (List.getElem_mem NB)
  have aq:=By a8 ae aa
  have yi:j<c.size:=by omega
  simpa[Value.cells,yi]using aq
 |au x c hx=>
  have aa:c.cells= #[c]:=by have:=hx.one;cases c<;>simp_all[Value.cells,Value.oneCell']
  refine⟨by simp[aa,Go.aL.cy],fun j y ai=>?_,fun u hu=>?_⟩
  ·cases j with
   |zero=>simp[Go.aL.cy]at ai;subst ai;simpa[aa]using bp.au x c hx
   |succ j=>simp[Go.aL.cy]at ai
  ·simp[aa]at hu;subst hu;exact hx.one
 |tuple cs c ah hc=>simp[Go.aL.cy,ek]at dQ
 |top c=>simp[Go.aL.cy,ek]at dQ
 |ref id c=>simp[Go.aL.cy,ek]at dQ
 |dB id n c=>simp[Go.aL.cy,ek]at dQ
 |ptr id off c ao ak=>
  have hx:ek σ (.ptr id off)=true:=by simpa[Go.aL.cy]using dQ
  have qD:=By a8 hx (bp.ptr (w:=w) (ro:=ro) id off c ao ak)
  have aa:c.cells= #[c]:=by cases c<;>simp_all[Value.cells,Value.oneCell']
  refine⟨by simp[aa,Go.aL.cy],fun j y ai=>?_,fun u hu=>?_⟩
  ·cases j with
   |zero=>simp[Go.aL.cy]at ai;subst ai;simpa[aa]using bp.ptr id off c ao ak
   |succ j=>simp[Go.aL.cy]at ai
  ·simp[aa]at hu;subst hu;exact qD
 |cE id i off c ao ak=>
  have hx:ek σ (.cE id i off)=true:=by simpa[Go.aL.cy]using dQ
  have qD:=By a8 hx (bp.cE (w:=w) (ro:=ro) id i off c ao ak)
  have aa:c.cells= #[c]:=by cases c<;>simp_all[Value.cells,Value.oneCell']
  refine⟨by simp[aa,Go.aL.cy],fun j y ai=>?_,fun u hu=>?_⟩
  ·cases j with
   |zero=>simp[Go.aL.cy]at ai;subst ai;simpa[aa]using bp.cE id i off c ao ak
   |succ j=>simp[Go.aL.cy]at ai
  ·simp[aa]at hu;subst hu;exact qD
 |aN id c ao ak=>
  have hx:ek σ (.aN id)=true:=by simpa[Go.aL.cy]using dQ
  have qD:=By a8 hx (bp.aN (w:=w) (ro:=ro) id c ao ak)
  have aa:c.cells= #[c]:=by cases c<;>simp_all[Value.cells,Value.oneCell']
  refine⟨by simp[aa,Go.aL.cy],fun j y ai=>?_,fun u hu=>?_⟩
  ·cases j with
   |zero=>simp[Go.aL.cy]at ai;subst ai;simpa[aa]using bp.aN id c ao ak
   |succ j=>simp[Go.aL.cy]at ai
  ·simp[aa]at hu;subst hu;exact qD
 |fn f p q c d aa ae aq aT=>
  refine⟨by simp[Value.cells,Go.aL.cy],fun j y ai=>?_,fun u hu=>?_⟩
  ·cases j with
   |zero=>simp[Go.aL.cy]at ai;subst ai;simpa[Value.cells]using bp.fn f p q c d aa ae aq aT
   |succ j=>simp[Go.aL.cy]at ai
  ·simp[Value.cells]at hu;subst hu;rfl
end
section
variable {P:Program} {G:aY} {o:Oper} {s:aM}
theorem NC(t:TypeId)(c:Value)(w:World):(newVar t c).run P w= .ok ⟨w.heap.size,0,none⟩ (w.alloc (.cells c.cells t)):=by
 simp[newVar,newRow]
theorem l1.ND{t:TypeId}{cs:List aD}(h: ∀E a w β ro,c6 E G s a w β ro→∃arr:Array Value,(execOp a.eval o).run P w= .ok (.value (.pointer (some ⟨w.heap.size,0,none⟩))) (w.alloc (.cells arr t))∧
      arr.size=cs.length∧∀j x,cs[j]? =some x→bp w ro s.heap β s.next x (arr.getD j undef))(ad:s.base≤s.next):
    l1 P G o s ({s with heap:=(s.next,.box t cs)::s.heap,next:=s.next+1}.put o.dst (.ptr s.next 0)):=by
  intro E a w ⟨β,ro,af⟩ K Q hK;obtain⟨arr,cS,bJ,fe⟩:=h E a w β ro af;unfold Oper.wp;rw[cS]
  have k3:aE s.heap s.next=none:=by
    cases ag:aE s.heap s.next with
    |none=>rfl
    |some p=>have:=af.trans.new _ _ ag;omega
  have ga:c6 E G {s with heap:=(s.next,.box t cs)::s.heap,next:=s.next+1} a (w.alloc (.cells arr t)) (hp β s.next (.pointer (some ⟨w.heap.size,0,none⟩))) ro:=by
    refine af.new s.next k3 ad (Nat.le_refl _) _ _ rfl rfl rfl (by simp) (fun b ad=>Go.RowKit.Below.heap_alloc w _ b ad) (fun b ad=>by simp[cb]at ad;omega) rfl ?_
    refine .box t cs w.heap.size arr (ew _ _ _) (heap_alloc_new w _) bJ fun j x ai=>?_
    have hx:=fe j x ai
    have b6: ∀b,ro b→(w.alloc (.cells arr t)).heap[b]? =w.heap[b]? :=fun b ad=>Go.RowKit.Below.heap_alloc w _ b (af.heap.lt b ad)
    clear ai fe;generalize arr.getD j undef=c at hx
    induction hx with
    |au x c hx=>exact .au x c (hx.keep b6 fun _ h=>h)
    |agg cs c ah _ aQ=>exact .agg cs c ah aQ
    |tuple cs c ah _ aQ=>exact .tuple cs c ah aQ
    |ptr k off c ao ak=>
      have aj:k≠s.next:=by omega
      exact .ptr k off c (by omega) fun t cs bc=>by rw[cJ _ _ aj];simp only[aE,if_neg (Ne.symm aj)]at bc;exact ak t cs bc
    |dB k off c ao ak=>
      have aj:k≠s.next:=by omega
      exact .dB k off c (by omega) fun t cs bc=>by rw[cJ _ _ aj];simp only[aE,if_neg (Ne.symm aj)]at bc;exact ak t cs bc
    |cE k i off c ao ak=>
      have aj:k≠s.next:=by omega
      exact .cE k i off c (by omega) fun z t n es bc=>by rw[cJ _ _ aj];simp only[aE,if_neg (Ne.symm aj)]at bc;exact ak z t n es bc
    |aN k c ao ak=>
      have aj:k≠s.next:=by omega
      exact .aN k c (by omega) fun z t n es bc=>by rw[cJ _ _ aj];simp only[aE,if_neg (Ne.symm aj)]at bc;exact ak z t n es bc
    |fn f p q c d aa ae _ _ gL gM=>exact .fn f p q c d aa ae gL gM
    |ref k c ao ak=>
      have aj:k≠s.next:=by omega
      exact .ref k c (by omega) fun bE bc=>by rw[cJ _ _ aj];simp only[aE,if_neg (Ne.symm aj)]at bc;exact ak bE bc
    |top c=>exact .top c
  refine hK _ _ ⟨_,ro,ga.put o.dst _ _ ?_⟩ fun b ad=>Go.RowKit.Below.heap_alloc w _ b ad
  refine .ptr _ _ _ (Nat.lt_succ_self _) fun bs cs' ag=>⟨w.heap.size,ew _ _ _,rfl⟩
theorem NF(t:TypeId)(x:Operand)(an:o.op= .box t x)(ad:s.base≤s.next)(dQ:(cy (aI G s x)).all (ek s.heap)=true):
 l1 P G o s ({s with heap:=(s.next,.box t (cy (aI G s x)))::s.heap,next:=s.next+1}.put o.dst (.ptr s.next 0)):=
 .ND (fun _ a w β ro af=>by
  obtain⟨aa,ae,_⟩:=(af.eval x).cy dQ af.heap
  exact⟨(a.eval x).cells,by simp[execOp,an,Instr.box,NC],aa,ae⟩) ad
theorem NG(t:TypeId)(x:Operand)(an:o.op= .box t x)(ad:s.base≤s.next)(dQ:(cy (aI G s x)).all (ek s.heap)=true):
 ee P G o s ({s with heap:=(s.next,.box t (cy (aI G s x)))::s.heap,next:=s.next+1}.put o.dst (.ptr s.next 0)):=(NF t x an ad dQ).op
def zeroCells(P:Program)(t:TypeId):Option (List Value):=
 match P.info? t with
 |some i=>match i.zero with
  |some z=>some z.cells.toList
  |none=>none
 |none=>none
theorem yj{t:TypeId}{zs:List Value}(h:zeroCells P t=some zs)(w:World): ∃z:Value,(zeroValue t).run P w= .ok z w∧z.cells=zs.toArray∧∃i,P.info? t=some i∧i.zero=some z:=by
 unfold zeroCells at h
 cases hi:P.info? t with
 |none=>simp[hi]at h
 |some i=>
  cases br:i.zero with
  |none=>simp[hi,br]at h
  |some z=>
   simp[hi,br]at h;exact⟨z,by simp[zeroValue,typeInfo,hi,br],by rw[←h],i,rfl,br⟩
theorem NH(t:TypeId)(an:o.op= .alloc t)(ad:s.base≤s.next){zs:List Value}(br:zeroCells P t=some zs)(dQ:zs.all Value.oneCell'=true):
 l1 P G o s ({s with heap:=(s.next,.box t (zs.map fun z=>.au (.v z)))::s.heap,next:=s.next+1}.put o.dst (.ptr s.next 0)):=
 .ND (fun _ a w β ro af=>by
  obtain⟨z,cS,oq,_⟩:=yj br w;refine⟨z.cells,by simp[execOp,an,Instr.alloc,cS,NC],by simp[oq],fun j x ai=>?_⟩
  rw[List.getElem?_map]at ai
  cases qE:zs[j]? with
  |none=>simp[qE]at ai
  |some y=>
   simp[qE]at ai;subst ai
   have:y.oneCell'=true:=by
    rw[List.all_eq_true]at dQ;exact dQ y (List.mem_of_getElem? qE)
   rw[oq]
   simpa[qE]using bp.au (w:=w) (ro:=ro) (σ:=s.heap) (β:=β) (N:=s.next) _ _ (.v y this)) ad
theorem NI(t:TypeId)(an:o.op= .alloc t)(ad:s.base≤s.next){zs:List Value}(br:zeroCells P t=some zs)(dQ:zs.all Value.oneCell'=true):
 ee P G o s ({s with heap:=(s.next,.box t (zs.map fun z=>.au (.v z)))::s.heap,next:=s.next+1}.put o.dst (.ptr s.next 0)):=(NH t an ad br dQ).op
end
end Go.aL
namespace Go.aL
open Go
section
variable {P:Program} {G:aY} {o:Oper} {s:aM}
theorem GU{w w':World}{ro:Nat→Prop}{σ:bz}{β:Nat→Value}{N id:Nat}{t:TypeId}{cs cs':List aD}(hid:aE σ id=some (.box t cs)){x:aD}{c:Value}
 (h:bp w ro σ β N x c)(b6: ∀b,ro b→w'.heap[b]? =w.heap[b]?):bp w' ro (eU σ id (.box t cs')) β N x c:=by
 refine h.keep b6 (fun _ h=>h) (Nat.le_refl _) (fun k t1 aA aj=>?_) (fun k z t1 n es aj=>?_) (fun k bE aj=>?_)
 ·rw[vC]at aj
  by_cases bk:id=k
  ·subst bk;exact⟨rfl,t,cs,hid⟩
  ·rw[if_neg bk]at aj;exact⟨rfl,t1,aA,aj⟩
 ·rw[vC]at aj
  by_cases bk:id=k
  ·subst bk;rw[if_pos rfl]at aj;cases aj
  ·rw[if_neg bk]at aj;exact⟨rfl,z,t1,es,aj⟩
 ·rw[vC]at aj
  by_cases bk:id=k
  ·subst bk;rw[if_pos rfl]at aj;cases aj
  ·rw[if_neg bk]at aj;exact⟨rfl,bE,aj⟩
def dW{α:Type}(cs:List α)(off:Nat)(vs:List α):List α:=cs.take off++(vs++cs.drop (off+vs.length))
theorem pr{α:Type}(cs:List α)(off:Nat)(vs:List α)(h:off+vs.length≤cs.length):(dW cs off vs).length=cs.length:=by
 simp[dW];omega
theorem GV{α β:Type}(R:α→β→Prop)(d:β){cs vs:List α}{xs ys:List β}{off:Nat}(ao:cs.length≤xs.length)(av:vs.length=ys.length)(yk:off+vs.length≤cs.length)
 (aa: ∀j x,cs[j]? =some x→R x (xs.getD j d))(ae: ∀j x,vs[j]? =some x→R x (ys.getD j d)): ∀j x,(dW cs off vs)[j]? =some x→R x ((dW xs off ys).getD j d):=by
 intro j x ai
 unfold dW at*
 by_cases aK:j<off
 ·rw[List.getElem?_append_left (by simp;omega),List.getElem?_take,if_pos aK]at ai
  have:=aa j x ai
  rw[List.getD,List.getElem?_append_left (by simp;omega),List.getElem?_take,if_pos aK]
  exact this
 ·have ay:(cs.take off).length=off:=by simp;omega
  have aV:(xs.take off).length=off:=by simp;omega
  rw[List.getElem?_append_right (by omega),ay]at ai
  rw[List.getD,List.getElem?_append_right (by omega),aV]
  by_cases ad:j-off<vs.length
  ·rw[List.getElem?_append_left ad]at ai
   rw[List.getElem?_append_left (by omega)]
   exact ae _ _ ai
  ·rw[List.getElem?_append_right (by omega),List.getElem?_drop]at ai
   rw[List.getElem?_append_right (by omega),List.getElem?_drop]
   have ct:off+vs.length+(j-off-vs.length)=j:=by omega
   have eA:off+ys.length+(j-off-ys.length)=j:=by omega
   rw[ct]at ai;rw[eA];exact aa j x ai
theorem NJ(t:TypeId)(b off:Nat)(c:Value)(w:World)(bt:TypeId)(arr:Array Value)(ag:w.heap[b]? =some (.cells arr bt (0,0)))(bJ:(P.info? t).map (·.size)=some c.cells.size)
 (rY:off+c.cells.size≤arr.size)(aa: ∀u∈c.cells.toList,u.oneCell'=true):
 (Instr.storeAt t (.pointer (some ⟨b,off,none⟩)) c).run P w= .ok () (w.setRow b (dW arr.toList off c.cells.toList).toArray):=by
 have dH:=run_storeCells_at P b off bt c.cells.toList 0 arr w ag (by simpa using rY) aa
 cases hi:P.info? t with
 |none=>simp[hi]at bJ
 |some i=>
  have ah:i.size=c.cells.size:=by simpa[hi]using bJ
  simp only[Nat.add_zero,List.append_assoc]at dH;simp only[Instr.storeAt,Instr.sureAddr,storeVar,sizeOf,typeInfo,Sem.run_bind,Sem.run_pure,Result.andThen_ok,dW];simp[hi,ah,dH]
theorem NK(t:TypeId)(p x:Operand)(an:o.op= .store t p x){id off:Nat}(ak:aI G s p= .ptr id off){bt:TypeId}{cs:List aD}(hid:aE s.heap id=some (.box bt cs))
 {vs:List aD}(av:cy (aI G s x)=vs)(dQ:vs.all (ek s.heap)=true)(bJ:(P.info? t).map (·.size)=some vs.length)(rY:off+vs.length≤cs.length):
 ee P G o s ({s with heap:=eU s.heap id (.box bt (dW cs off vs))}.put o.dst .top):=by
 intro E a w ⟨β,ro,af⟩ K Q hK
 subst av
 obtain⟨aa,ae,aq⟩:=(af.eval x).cy dQ af.heap
 have tU:=af.eval p
 rw[ak]at tU
 have dq:=af.heap.c4 id _ hid
 cases dq with
 |box _ _ b arr ad ag WZ fe=>
  generalize GX:a.eval p=gB at tU
  cases tU with
  |ptr _ _ c ao hc=>
   obtain⟨gm,ho,rfl⟩:=hc _ _ hid;rw[ad]at ho;simp only[Value.pointer.injEq,Option.some.injEq,Addr.mk.injEq,and_true]at ho;subst ho
   have cS:=NJ (P:=P) t b off (a.eval x) w bt arr ag (by rw[bJ,aa]) (by omega) aq
   unfold Oper.wp;simp only[execOp,an,GX,Sem.run_bind,cS,Result.andThen_ok,Sem.run_pure]
   have kv: ∀k,k<w.heap.size→cb (β id)≠some k→(w.setRow b (dW arr.toList off (a.eval x).cells.toList).toArray).heap[k]? =w.heap[k]? :=fun k _ aj=>
    setRow_other w b k _ (fun e=>aj (by rw[ad,e];rfl))
   have b6: ∀k,ro k→(w.setRow b (dW arr.toList off (a.eval x).cells.toList).toArray).heap[k]? =w.heap[k]? :=fun k aj=>
    kv k (af.heap.lt k aj) fun a7=>af.heap.ft k aj ⟨id,_,hid,rfl,a7⟩
   refine hK _ _ ⟨β,ro,(af.write (w':=w.setRow b (dW arr.toList off (a.eval x).cells.toList).toArray) id _ (.box bt (dW cs off (cy (aI G s x)))) hid rfl rfl (.inl ⟨_,_,_,rfl,rfl⟩) rfl rfl rfl (by simp) kv ?_).put o.dst _ _ (.top _)⟩
   refine .box bt _ b _ ad (setRow_heap w b arr _ bt (0,0) ag) ?_ fun j y ai=>?_
   ·rw[List.size_toArray,pr _ _ _ (by simp only[Array.length_toList];omega),pr _ _ _ rY,Array.length_toList,WZ]
   ·have ah:=GV (bp w ro s.heap β s.next) undef (cs:=cs) (vs:=cy (aI G s x)) (xs:=arr.toList) (ys:=(a.eval x).cells.toList) (off:=off) (by simp only[Array.length_toList];omega) (by simp only[Array.length_toList];omega) rY
     (fun j x ai=>by have:=fe j x ai;simpa[Array.getD_eq_getD_getElem?,List.getD]using this)
     (fun j x ai=>by have:=ae j x ai;simpa[Array.getD_eq_getD_getElem?,List.getD]using this) j y ai
    have e1:=GU (cs':=dW cs off (cy (aI G s x))) hid ah b6
    simpa[Array.getD_eq_getD_getElem?,List.getD]using e1
def iu:List aD→Option (List bd)
 |[]=>some []
 | .au x::r=>match iu r with
  |some l=>some (x::l)
  |none=>none
 |_::_=>none
theorem Bz: ∀{vs:List aD} {l:List bd},iu vs=some l→vs=l.map .au
 |[],l,h=>by simp[iu]at h;subst h;rfl
 | .au x::r,l,h=>by
  simp only[iu]at h
  cases af:iu r with
  |none=>simp[af]at h
  |some hG=>
   simp[af]at h;subst h;simp[Bz af]
 | .agg _::_,_,h=>by simp[iu]at h
 | .tuple _::_,_,h=>by simp[iu]at h
 | .ptr _ _::_,_,h=>by simp[iu]at h
 | .dB _ _::_,_,h=>by simp[iu]at h
 | .cE _ _ _::_,_,h=>by simp[iu]at h
 | .aN _::_,_,h=>by simp[iu]at h
 | .fn _ _ _::_,_,h=>by simp[iu]at h
 | .ref _::_,_,h=>by simp[iu]at h
 | .top::_,_,h=>by simp[iu]at h
theorem NL{α:Type}{n:Nat}: ∀{es:List (List α)},(∀e∈es,e.length=n)→∀{i:Nat} {e aw:List α},es[i]? =some e→aw.length=n→(es.set i aw).flatten=es.flatten.take (i*n)++(aw++es.flatten.drop (i*n+n))
 |[],_,i,e,aw,h,_=>by simp at h
 |x::r,hn,i,e,aw,h,he=>by
  have hx:x.length=n:=hn x (by simp)
  cases i with
  |zero=>simp[hx]
  |succ i=>
   simp at h
   have aQ:=NL (es:=r) (fun e he=>hn e (by simp[he])) h he
   simp only[List.set_cons_succ,List.flatten_cons,aQ]
   have ay:(i+1)*n=x.length+i*n:=by rw[Nat.succ_mul];omega
   have aV:(i+1)*n+n=x.length+(i*n+n):=by rw[Nat.succ_mul];omega
   have ct:x.length+(i*n+n)-x.length=i*n+n:=by omega
   have eA:x.length+i*n-x.length=i*n:=by omega
   rw[aV,ay,List.take_append,List.drop_append,ct,eA,List.take_of_length_le (l:=x) (by omega),List.drop_of_length_le (l:=x) (by omega)]
   simp
theorem W0{α:Type}(l:List α)(p n k:Nat)(vs:List α)(e:List α)(he:e.length=n)(ao: ∀j,j<n→l[p+j]? =e[j]?)(aj:k+vs.length≤n)(ak:p+n≤l.length):
 dW l (p+k) vs=l.take p++(dW e k vs++l.drop (p+n)):=by
 apply List.ext_getElem?
 intro j
 have ah:(dW e k vs).length=n:=by rw[pr _ _ _ (by omega),he]
 unfold dW at*
 by_cases aa:j<p
 ·rw[List.getElem?_append_left (by simp;omega),List.getElem?_take,if_pos (by omega),List.getElem?_append_left (by simp;omega),List.getElem?_take,if_pos aa]
 ·have ay:(l.take p).length=p:=by simp;omega
  have aV:(l.take (p+k)).length=p+k:=by simp;omega
  rw[List.getElem?_append_right (l₁:=l.take p) (by omega),ay]
  by_cases ae:j<p+k
  ·rw[List.getElem?_append_left (by omega),List.getElem?_take,if_pos ae,List.getElem?_append_left (by omega),List.getElem?_append_left (by simp;omega),List.getElem?_take,if_pos (by omega),←ao _ (by omega)]
   congr 1;omega
  ·rw[List.getElem?_append_right (by omega),aV]
   have ct:(e.take k).length=k:=by simp;omega
   by_cases aq:j<p+k+vs.length
   ·rw[List.getElem?_append_left (by omega),List.getElem?_append_left (by omega),List.getElem?_append_right (by omega),ct,List.getElem?_append_left (by omega)]
    congr 1;omega
   ·rw[List.getElem?_append_right (by omega),List.getElem?_drop]
    by_cases aT:j<p+n
    ·rw[List.getElem?_append_left (by omega),List.getElem?_append_right (by omega),ct,List.getElem?_append_right (by omega),List.getElem?_drop,←ao _ (by omega)]
     congr 1;omega
    ·rw[List.getElem?_append_right (by omega),ah,List.getElem?_drop]
     congr 1;omega
theorem W1{α:Type}(l:List α)(off m:Nat)(ys:List α)(h:off+ys.length≤m)(hm:m≤l.length):(dW l off ys).take m=dW (l.take m) off ys:=by
 have ay:min m off=off:=by omega
 have aV:min off m=off:=by omega
 have ct:min off l.length=off:=by omega
 have eA:List.take (m-off) ys=ys:=List.take_of_length_le (by omega)
 have nY:m-off-ys.length=m-(off+ys.length):=by omega
 simp only[dW,List.take_append,List.take_take,List.length_take,List.drop_take,ay,aV,ct,eA,nY]
theorem NM(t:TypeId)(p x:Operand)(an:o.op= .store t p x){id i off:Nat}(ak:aI G s p= .cE id i off){bt:TypeId}{n:Nat}{es:List (List bd)}(hid:aE s.heap id=some (.row false bt n es))
 {e:List bd}(og:es[i]? =some e){vs:List bd}(av:iu (cy (aI G s x))=some vs)(bJ:(P.info? t).map (·.size)=some vs.length)(rY:off+vs.length≤n):
 ee P G o s ({s with heap:=eU s.heap id (.row false bt n (es.set i (dW e off vs)))}.put o.dst .top):=by
 intro E a w ⟨β,ro,af⟩ K Q hK
 have NN:=Bz av
 have dQ:(cy (aI G s x)).all (ek s.heap)=true:=by rw[NN];simp[List.all_eq_true,ek]
 obtain⟨aa,ae,aq⟩:=(af.eval x).cy dQ af.heap
 rw[NN]at aa ae
 rw[List.length_map]at aa
 have tU:=af.eval p
 rw[ak]at tU
 have dq:=af.heap.c4 id _ hid
 cases dq with
 |row _ _ _ xs jm hn fe=>
  generalize GX:a.eval p=gB at tU
  cases tU with
  |cE _ _ _ c ao hc=>
   obtain⟨b,l,iq,ad,rfl⟩:=hc _ _ _ _ hid
   have zcO:=jm
   rw[ad]at jm;obtain⟨Bw,mr⟩:=jm
   rcases mr with⟨⟨_,h,_⟩,br⟩|⟨g,cap,cur,NO,NP,ag,hle,iN,fu,lA⟩
   ·have:=(List.getElem?_eq_some_iff.1 og).1;omega
   ·simp only[Value.slice.injEq,Option.some.injEq,Addr.mk.injEq,and_true]at NO
    obtain⟨rfl,rfl,rfl⟩:=NO
    have nD:e.length=n:=hn e (List.mem_of_getElem? og)
    have W2:i<es.length:=(List.getElem?_eq_some_iff.1 og).1
    have GY:i*n+n≤es.length*n:=by rw[←Nat.succ_mul];exact Nat.mul_le_mul_right n W2
    have zcP:es.length*n≤iq*n:=Nat.mul_le_mul_right n hle
    have cS:=NJ (P:=P) t b (i*n+off) (a.eval x) w bt cur ag (by rw[bJ,aa]) (by omega) aq
    unfold Oper.wp;simp only[execOp,an,GX,Sem.run_bind,cS,Result.andThen_ok,Sem.run_pure]
    have kv: ∀k,k<w.heap.size→cb (β id)≠some k→(w.setRow b (dW cur.toList (i*n+off) (a.eval x).cells.toList).toArray).heap[k]? =w.heap[k]? :=fun k _ aj=>
     setRow_other w b k _ (fun e=>aj (by rw[ad,e];simp[cb,Nat.ne_of_gt NP]))
    have b6: ∀k,ro k→(w.setRow b (dW cur.toList (i*n+off) (a.eval x).cells.toList).toArray).heap[k]? =w.heap[k]? :=fun k aj=>
     kv k (af.heap.lt k aj) fun a7=>af.heap.ft k aj ⟨id,_,hid,rfl,a7⟩
    have vF:(dW e off vs).length=n:=by rw[pr _ _ _ (by omega),nD]
    refine hK _ _ ⟨β,ro,(af.write (w':=w.setRow b (dW cur.toList (i*n+off) (a.eval x).cells.toList).toArray) id _ (.row false bt n (es.set i (dW e off vs))) hid rfl rfl (.inr (.inl ⟨_,_,_,_,rfl,rfl⟩)) rfl rfl rfl (by simp) kv ?_).put o.dst _ _ (.top _)⟩
    have qF:(a.eval x).cells.toList.length=vs.length:=by simpa using aa
    refine .row bt n _ (dW xs (i*n+off) (a.eval x).cells.toList) ?_ (fun aw lC=>?_) (fun j y ai=>?_)
    ·rw[ad,List.length_set]
     refine⟨by rw[pr _ _ _ (by omega)];exact Bw,.inr ⟨b,iq,_,rfl,NP,setRow_heap w b cur _ bt (0,0) ag,hle,iN,?_,?_⟩⟩
     ·rw[List.size_toArray,pr _ _ _ (by simp;omega)];simpa using fu
     ·show List.take (es.length*n) (dW cur.toList (i*n+off) (a.eval x).cells.toList)=_
      rw[W1 _ _ _ _ (by omega) (by simp;omega),lA]
    ·rcases List.mem_or_eq_of_mem_set lC with h|h
     ·exact hn aw h
     ·rw[h];exact vF
    ·rw[NL hn og vF,←W0 es.flatten (i*n) n off vs e nD (fun j ai=>qA hn og j ai) rY (by rw[jM hn];exact GY)]at ai
     have ah:=GV (dp w ro) undef (cs:=es.flatten) (vs:=vs) (xs:=xs) (ys:=(a.eval x).cells.toList) (off:=i*n+off) (by rw[jM hn];omega) (by omega) (by rw[jM hn];omega)
      (fun j x ai=>fe j x ai)
      (fun j y ai=>by
       have:=ae j (.au y) (by simp[ai])
       cases this with
       |au _ _ h=>simpa[Array.getD_eq_getD_getElem?,List.getD]using h) j y ai
     exact ah.keep b6 fun _ h=>h
end
end Go.aL
namespace Go.aL
open Go
def bn(a b:ByteArray):Bool:=a.data.toList==b.data.toList
theorem D1(a b:ByteArray):bn a b=decide (a=b):=by
 unfold bn
 obtain⟨⟨x⟩⟩:=a
 obtain⟨⟨y⟩⟩:=b
 rw[Bool.eq_iff_iff]
 simp
theorem NQ(a b:ByteArray):(a.toList==b.toList)=bn a b:=by rw[ByteArray.toList_eq,ByteArray.toList_eq];rfl
@[simp] theorem xN{a b:ByteArray}:bn a b=true↔a=b:=by rw[D1];simp
@[simp] theorem tu{a b:ByteArray}:bn a b=false↔a≠b:=by rw[D1];simp
@[simp] theorem An(a:ByteArray):bn a a=true:=by simp
def qG(a b:ByteArray):Bool:=Op.bytesLess a.data.toList b.data.toList
theorem W3(a b:ByteArray):Op.bytesLess a.toList b.toList=qG a b:=by rw[ByteArray.toList_eq,ByteArray.toList_eq];rfl
def BA(op:BinOp)(a b:Int):Option Value:=
 match op with
 | .eql=>some (.bool (a==b))
 | .neq=>some (.bool (a != b))
 | .lss=>some (.bool (decide (a<b)))
 | .leq=>some (.bool (decide (a≤b)))
 | .gtr=>some (.bool (decide (a>b)))
 | .geq=>some (.bool (decide (a≥b)))
 |_=>none
def jO(op:BinOp):Value→Value→Option Value
 | .int k a,.int bo b=>
  match op with
  | .shl=>if b<0 then none else some (.int k (k.wrap (a*2^(min b.toNat k.bits))))
  | .shr=>if b<0 then none else some (.int k (a.fdiv (2^(min b.toNat k.bits))))
  |op=>if k=bo then match op with
   | .add=>some (.int k (k.wrap (a+b)))
   | .sub=>some (.int k (k.wrap (a-b)))
   | .mul=>some (.int k (k.wrap (a*b)))
   | .quo=>if b=0 then none else some (.int k (k.wrap (a.tdiv b)))
   | .rem=>if b=0 then none else some (.int k (a.tmod b))
   |op=>BA op a b
   else none
 | .string a,.string b=>
  match op with
  | .add=>if((a.size+b.size:Nat):Int)>IntKind.i64.max then none else some (.string (a++b))
  | .eql=>some (.bool (bn a b))
  | .neq=>some (.bool (!bn a b))
  | .lss=>some (.bool (qG a b))
  | .leq=>some (.bool (qG a b||bn a b))
  | .gtr=>some (.bool (!(qG a b||bn a b)))
  | .geq=>some (.bool (!qG a b))
  |_=>none
 |_,_=>none
theorem W4 {P : Program} {op : BinOp} {x y c : Value} (h : jO op x y = some c) (t : TypeId) (p q : Operand) (w : World) :
    (eqGuard op t p q x y).run P w = .ok () w ∧ (binOp op t x y).run P w = .ok c w ∧ c.oneCell' = true := by
  cases x with
  | int k a =>
    cases y with
    | int bo b =>
      simp only [jO] at h; refine ⟨by rw [eqGuard_at_int]; rfl, ?_⟩
      cases op
      all_goals first
        | (simp only at h
           split at h
           · cases h
           · rename_i hn
             simp only [Option.some.injEq] at h; subst h; refine ⟨?_, rfl⟩
             simp [binOp, Op.shift, hn]; done)
        | (simp only at h
           split at h
           · rename_i aj
             subst aj
             first
               | (simp only [Option.some.injEq, BA] at h; subst h; exact ⟨by simp [binOp, Op.intArith, Op.intCmp], rfl⟩)
               | (split at h
                  · cases h
                  · rename_i br
                    simp only [Option.some.injEq] at h; subst h
                    exact ⟨by simp [binOp, Op.intDiv, br], rfl⟩)
               | (simp [BA] at h; done)
           · cases h)
    | _ => simp [jO] at h
  | string a =>
    cases y with
    | string b =>
      simp only [jO] at h; refine ⟨by rw [eqGuard_at_string]; rfl, ?_⟩
      cases op <;> simp only at h
      all_goals first
        | cases h; done
        | (split at h
           · cases h
           · rename_i hn
             simp only [Option.some.injEq] at h; subst h
             exact ⟨by simp only [binOp_string_add, Op.stringOp, hn, if_false]; rfl, rfl⟩)
        | (simp only [Option.some.injEq] at h; subst h; exact ⟨by simp only [binOp, Op.stringOp, NQ, W3]; rfl, rfl⟩)
    | _ => simp [jO] at h
  | _ => simp [jO] at h
section
variable {P:Program} {G:aY} {o:Oper} {s:aM}
theorem bp.val{w:World}{ro:Nat→Prop}{σ:bz}{β:Nat→Value}{N:Nat}{x c:Value}(h:bp w ro σ β N (.au (.v x)) c):c=x:=by
 cases h with
 |au _ _ h=>cases h;rfl
theorem c6.en{E:Entry}{a:Act}{w:World}{β:Nat→Value}{ro:Nat→Prop}(h:c6 E G s a w β ro){x:Operand}{v:Value}(hx:aI G s x= .au (.v v)):a.eval x=v:=
 bp.val (hx ▸ h.eval x)
theorem bp.fK{w:World}{ro:Nat→Prop}{σ:bz}{β:Nat→Value}{N:Nat}{c:Value}(h:c.oneCell'=true):bp w ro σ β N (.au (.v c)) c:=.au _ _ (.v _ h)
theorem ot(op:BinOp)(ck ty:TypeId)(x y:Operand)(an:o.op= .binOp op ck x y ty){u v c:Value}(hx:aI G s x= .au (.v u))(ax:aI G s y= .au (.v v))(hc:jO op u v=some c):
 cT P G o s (.au (.v c)):=
 fun _ a w β ro af=>by
  obtain⟨aa,ae,aq⟩:=W4 (P:=P) hc ck x y w;exact⟨c,by simp[execOp,an,af.en hx,af.en ax,aa,ae],.fK aq⟩
theorem NR(ck ty:TypeId)(x y:Operand)(an:o.op= .binOp .eql ck x y ty)(aG:P.underlying ck=some .bool){u v:Bool}(hx:aI G s x= .au (.v (.bool u)))(ax:aI G s y= .au (.v (.bool v))):
 cT P G o s (.au (.v (.bool (u==v)))):=
 fun _ a w β ro af=>⟨.bool (u==v),by simp[execOp,an,af.en hx,af.en ax,eqGuard_at_bool,run_eql_bool w ck u v aG],.fK rfl⟩
theorem NS(ck ty:TypeId)(x y:Operand)(an:o.op= .binOp .neq ck x y ty)(aG:P.underlying ck=some .bool){u v:Bool}(hx:aI G s x= .au (.v (.bool u)))(ax:aI G s y= .au (.v (.bool v))):
 cT P G o s (.au (.v (.bool (!(u==v))))):=
 fun _ a w β ro af=>⟨.bool (!(u==v)),by simp[execOp,an,af.en hx,af.en ax,eqGuard_at_bool,run_neq_bool w ck u v aG],.fK rfl⟩
def mO:Value→Value→Option Bool
 | .int k a,.int bo b=>if k=bo then some (a==b)else none
 | .bool a,.bool b=>some (a==b)
 | .string a,.string b=>some (bn a b)
 |_,_=>none
def qH(P:Program)(t:TypeId):Value→Bool
 | .int k _=>match P.underlying t with
  |some (.int bo)=>decide (k=bo)
  |_=>false
 | .bool _=>match P.underlying t with
  |some .bool=>true
  |_=>false
 | .string _=>match P.underlying t with
  |some .string=>true
  |_=>false
 |_=>false
def NT(e:TypeId)(c i:Nat):Field:={(default:Field)with name:= "e",type:=e,offset:=i*c}
theorem GZ(d:Nat)(e:TypeId)(c:Nat)(X Y:Array Value): ∀(is:List Nat),Op.eqFields d X Y (is.map (NT e c))=Op.eqItems d e c X Y is
 |[]=>rfl
 |i::is=>by
  simp only[List.map_cons,Op.eqFields,Op.eqItems,GZ d e c X Y is];rfl
def mP(P:Program)(t:TypeId):Option (List Field):=
 match P.underlying t with
 |some (.struct fs)=>if P.stoodInHeld t||P.eqGuardType P.depth t then none else some fs.toList
 |some (.array n e)=>match P.info? e with
  |some _=>if P.eqGuardType P.depth t then none else some ((List.range n).map (NT e (P.cellsOf e)))
  |none=>none
 |_=>none
theorem W5{P:Program}{t:TypeId}{gs:List Field}(h:mP P t=some gs)(D:Nat)(p q:Array Value)(w:World):
 (Op.equalIn (D+1) t (.agg p) (.agg q)).run P w=(Op.eqFields D p q gs).run P w∧(isAgg t).run P w= .ok true w:=by
 unfold mP at h
 split at h
 ·rename_i BB hu
  split at h
  ·cases h
  ·rename_i hc
   simp only[Bool.or_eq_true,not_or,Bool.not_eq_true]at hc;simp only[Option.some.injEq]at h;subst h
   have pt:P.fieldsOf t=BB:=by simp[Program.fieldsOf,hu]
   exact⟨by rw[run_equalIn_struct w D t p q (by rw[pt];exact hu) hc.1,pt],by simp[isAgg,run_underlying hu]⟩
 ·rename_i n e hu
  split at h
  ·rename_i inf vG
   split at h
   ·cases h
   ·simp only[Option.some.injEq]at h
    subst h;exact⟨by rw[run_equalIn_array w D p q hu vG,←GZ],by simp[isAgg,run_underlying hu]⟩
  ·cases h
 ·cases h
def pv(P:Program):Nat→Nat→List Field→List Value→List Value→Option Bool
 |0,_,_,_,_=>none
 |_+1,_,[],_,_=>some true
 |d+1,k,f::fs,xs,ys=>
  if f.name= "_" ||f.offset != k then none
  else match mP P f.type with
   |some gs=>match P.info? f.type with
    |some inf=>match pv P d 0 gs (xs.take inf.size) (ys.take inf.size),pv P d (k+inf.size) fs (xs.drop inf.size) (ys.drop inf.size)with
     |some a,some b=>some (a&&b)
     |_,_=>none
    |none=>none
   |none=>match xs,ys with
    |x::xs,y::ys=>if qH P f.type x then match mO x y,pv P d (k+1) fs xs ys with
     |some a,some b=>some (a&&b)
     |_,_=>none
     else none
    |_,_=>none
def yl(P:Program)(k:Nat)(fs:List Field)(xs ys:List Value):Option Bool:=pv P 64 k fs xs ys
theorem W6{t:TypeId}{x y:Value}{b:Bool}(h:mO x y=some b)(hf:qH P t x=true)(d:Nat)(w:World):(Op.equalIn (d+1) t x y).run P w= .ok b w∧x.oneCell'=true∧y.oneCell'=true∧(isAgg t).run P w= .ok false w:=by
 cases x with
 |int k a=>
  cases y with
  |int bo gm=>
   simp only[mO]at h
   split at h
   ·rename_i aj
    subst aj;simp only[Option.some.injEq]at h;subst h;simp only[qH]at hf
    split at hf
    ·rename_i iv hu
     exact⟨run_equalIn_int w d t k iv a gm hu,rfl,rfl,by simp[isAgg,run_underlying hu]⟩
    ·cases hf
   ·cases h
  |_=>simp[mO]at h
 |bool a=>
  cases y with
  |bool gm=>
   simp only[mO,Option.some.injEq]at h;subst h;simp only[qH]at hf
   split at hf
   ·rename_i hu
    exact⟨run_equalIn_bool w d t a gm hu,rfl,rfl,by simp[isAgg,run_underlying hu]⟩
   ·cases hf
  |_=>simp[mO]at h
 |string a=>
  cases y with
  |string gm=>
   simp only[mO,Option.some.injEq]at h;subst h;simp only[qH]at hf
   split at hf
   ·rename_i hu
    refine⟨?_,rfl,rfl,by simp[isAgg,run_underlying hu]⟩
    rw[run_equalIn_string w d t a gm hu,NQ]
   ·cases hf
  |_=>simp[mO]at h
 |_=>simp[mO]at h
theorem NU{xs:List Value}{X:Array Value}{k n:Nat}(hr: ∀j x,xs[j]? =some x→X[k+j]? =some x): ∀j x,(xs.take n)[j]? =some x→(X.extract k (k+n))[0+j]? =some x:=by
 intro j x ai
 rw[List.getElem?_take]at ai
 split at ai
 ·rename_i oh
  have:=hr j x ai
  rw[Nat.zero_add,Array.getElem?_extract]
  have bA:k+j<X.size:=(Array.getElem?_eq_some_iff.1 this).1
  rw[if_pos (by omega)]
  exact this
 ·cases ai
theorem BC: ∀(d:Nat) (fs:List Field) (k:Nat) (xs ys:List Value) (X Y:Array Value) (b:Bool) (D:Nat) (w:World),pv P d k fs xs ys=some b→d≤D→(∀j x,xs[j]? =some x→X[k+j]? =some x)→(∀j y,ys[j]? =some y→Y[k+j]? =some y)→
 (Op.eqFields D X Y fs).run P w= .ok b w
 |0,_,k,xs,ys,X,Y,b,D,w,h,_,_,_=>by simp[pv]at h
 |d+1,[],k,xs,ys,X,Y,b,D,w,h,_,hr,ou=>by
  simp[pv]at h;subst h;simp[Op.eqFields]
 |d+1,f::fs,k,xs,ys,X,Y,b,0,w,h,l3,_,_=>by omega
 |d+1,f::fs,k,xs,ys,X,Y,b,D+1,w,h,l3,hr,ou=>by
  unfold pv at h
  split at h
  ·cases h
  ·rename_i hc
   simp only[Bool.or_eq_true,decide_eq_true_eq,bne_iff_ne,ne_eq,not_or,Decidable.not_not]at hc;obtain⟨vH,yk⟩:=hc
   split at h
   ·rename_i gs ag
    split at h
    ·rename_i inf vG
     split at h
     ·rename_i eY gH aa ae
      simp only[Option.some.injEq]at h;subst h
      have hN:=BC d gs 0 _ _ (X.extract k (k+inf.size)) (Y.extract k (k+inf.size)) eY D w aa (by omega) (NU hr) (NU ou)
      have lx:=BC d fs (k+inf.size) _ _ X Y gH (D+1) w ae (by omega) (fun j x ai=>by rw[List.getElem?_drop]at ai;have:=hr _ x ai;rwa[show k+(inf.size+j)=k+inf.size+j from by omega]at this) (fun j x ai=>by rw[List.getElem?_drop]at ai;have:=ou _ x ai;rwa[show k+(inf.size+j)=k+inf.size+j from by omega]at this)
      obtain⟨ay,aV⟩:=W5 ag D (X.extract k (k+inf.size)) (Y.extract k (k+inf.size)) w
      have fu:P.cellsOf f.type=inf.size:=by simp[Program.cellsOf,vG]
      simp only[Op.eqFields,Sem.run_bind,vH,ne_eq,not_false_eq_true,if_true,part,aV,Result.andThen_ok,run_sizeOf w vG,fu,yk,Sem.run_pure,ay,hN]
      cases eY
      ·simp
      ·simpa using lx
     ·cases h
    ·cases h
   ·split at h
    ·rename_i x G0 y W7
     split at h
     ·rename_i rY
      split at h
      ·rename_i eY gH he af
       simp only[Option.some.injEq]at h;subst h;obtain⟨aa,_,_,aT⟩:=W6 he rY D w
       have NV:=hr 0 x rfl
       have BD:=ou 0 y rfl
       have aQ:=BC d fs (k+1) G0 W7 X Y gH (D+1) w af (by omega) (fun j x ai=>by have:=hr (j+1) x ai;rwa[show k+(j+1)=k+1+j from by omega]at this) (fun j x ai=>by have:=ou (j+1) x ai;rwa[show k+(j+1)=k+1+j from by omega]at this)
       simp only[Nat.add_zero]at NV BD;simp only[Op.eqFields,Sem.run_bind,vH,ne_eq,not_false_eq_true,if_true,part,aT,Result.andThen_ok,Bool.false_eq_true,if_false,yk,NV,BD,Sem.run_pure,aa]
       cases eY
       ·simp
       ·simpa using aQ
      ·cases h
     ·cases h
    ·cases h
theorem NW(fs:List Field)(k:Nat)(xs ys:List Value)(X Y:Array Value)(b:Bool)(d:Nat)(w:World)(h:yl P k fs xs ys=some b)(hd:64≤d+1)(hr: ∀j x,xs[j]? =some x→X[k+j]? =some x)(ou: ∀j y,ys[j]? =some y→Y[k+j]? =some y):
 (Op.eqFields (d+1) X Y fs).run P w= .ok b w:=BC 64 fs k xs ys X Y b (d+1) w h hd hr ou
def gY:List aD→Option (List Value)
 |[]=>some []
 | .au (.v x)::r=>match gY r with
  |some l=>some (x::l)
  |none=>none
 |_::_=>none
theorem ym{w:World}{ro:Nat→Prop}{σ:bz}{β:Nat→Value}{N:Nat}: ∀{cs:List aD} {l:List Value} {c:Nat→Value},gY cs=some l→(∀j x,cs[j]? =some x→bp w ro σ β N x (c j))→l.length=cs.length∧∀j x,l[j]? =some x→c j=x
 |[],l,c,h,_=>by simp[gY]at h;subst h;simp
 | .au (.v x)::r,l,c,h,hc=>by
  simp only[gY]at h
  cases af:gY r with
  |none=>simp[af]at h
  |some hG=>
   simp[af]at h;subst h;obtain⟨aa,ae⟩:=ym (c:=fun j=>c (j+1)) af fun j x ai=>hc (j+1) x ai;refine⟨by simp[aa],fun j y ai=>?_⟩
   cases j with
   |zero=>simp at ai;subst ai;exact bp.val (hc 0 _ rfl)
   |succ j=>exact ae j y ai
 | .au (.ptr _)::_,_,_,h,_=>by simp[gY]at h
 | .au (.aN _ _)::_,_,_,h,_=>by simp[gY]at h
 | .agg _::_,_,_,h,_=>by simp[gY]at h
 | .tuple _::_,_,_,h,_=>by simp[gY]at h
 | .ptr _ _::_,_,_,h,_=>by simp[gY]at h
 | .dB _ _::_,_,_,h,_=>by simp[gY]at h
 | .cE _ _ _::_,_,_,h,_=>by simp[gY]at h
 | .aN _::_,_,_,h,_=>by simp[gY]at h
 | .fn _ _ _::_,_,_,h,_=>by simp[gY]at h
 | .ref _::_,_,_,h,_=>by simp[gY]at h
 | .top::_,_,_,h,_=>by simp[gY]at h
theorem NY{t:TypeId}{fs:List Field}(h:mP P t=some fs){cs ds:List aD}{xs ys:List Value}{b:Bool}(nF:gY cs=some xs)(l4:gY ds=some ys)(ad:yl P 0 fs xs ys=some b)
 {w:World}{ro:Nat→Prop}{σ:bz}{β:Nat→Value}{N:Nat}{X Y:Value}(hr:bp w ro σ β N (.agg cs) X)(ou:bp w ro σ β N (.agg ds) Y):
 ∃p q,X= .agg p∧Y= .agg q∧P.eqGuardType P.depth t=false∧(Op.equalIn 10000 t (.agg p) (.agg q)).run P w= .ok b w:=by
 unfold mP at h
 split at h
 ·rename_i BB hu
  split at h
  ·cases h
  ·rename_i hc
   simp only[Bool.or_eq_true,not_or,Bool.not_eq_true]at hc;simp only[Option.some.injEq]at h;subst h
   cases hr with
   |agg _ p ak G1=>
    cases ou with
    |agg _ q aJ G2=>
     refine⟨p,q,rfl,rfl,hc.2,?_⟩
     have pt:P.fieldsOf t=BB:=by simp[Program.fieldsOf,hu]
     rw[run_equalIn_struct w 9999 t p q (by rw[pt];exact hu) hc.1,pt]
     obtain⟨aa,ae⟩:=ym (c:=fun j=>p.getD j undef) nF G1;obtain⟨aq,aT⟩:=ym (c:=fun j=>q.getD j undef) l4 G2;refine NW BB.toList 0 xs ys p q b 9998 w ad (by omega) (fun j x ai=>?_) (fun j x ai=>?_)
     ·have bA:j<p.size:=by
       rcases Nat.lt_or_ge j xs.length with h|h
       ·omega
       ·rw[List.getElem?_eq_none h]at ai;cases ai
      have:=ae j x ai
      simp[bA]at this;simp[bA,this]
     ·have bA:j<q.size:=by
       rcases Nat.lt_or_ge j ys.length with h|h
       ·omega
       ·rw[List.getElem?_eq_none h]at ai;cases ai
      have:=aT j x ai
      simp[bA]at this;simp[bA,this]
 ·rename_i n e hu
  split at h
  ·rename_i inf vG
   split at h
   ·cases h
   ·rename_i hc
    simp only[Bool.not_eq_true]at hc;simp only[Option.some.injEq]at h;subst h
    cases hr with
    |agg _ p ak G1=>
     cases ou with
     |agg _ q aJ G2=>
      refine⟨p,q,rfl,rfl,hc,?_⟩
      rw[run_equalIn_array w 9999 p q hu vG,←GZ];obtain⟨aa,ae⟩:=ym (c:=fun j=>p.getD j undef) nF G1;obtain⟨aq,aT⟩:=ym (c:=fun j=>q.getD j undef) l4 G2;refine NW _ 0 xs ys p q b 9998 w ad (by omega) (fun j x ai=>?_) (fun j x ai=>?_)
      ·have bA:j<p.size:=by
        rcases Nat.lt_or_ge j xs.length with h|h
        ·omega
        ·rw[List.getElem?_eq_none h]at ai;cases ai
       have:=ae j x ai
       simp[bA]at this;simp[bA,this]
      ·have bA:j<q.size:=by
        rcases Nat.lt_or_ge j ys.length with h|h
        ·omega
        ·rw[List.getElem?_eq_none h]at ai;cases ai
       have:=aT j x ai
       simp[bA]at this;simp[bA,this]
  ·cases h
 ·cases h
theorem NZ(ck ty:TypeId)(x y:Operand)(an:o.op= .binOp .eql ck x y ty){fs:List Field}(h:mP P ck=some fs){cs ds:List aD}(hx:aI G s x= .agg cs)(ax:aI G s y= .agg ds)
 {xs ys:List Value}{b:Bool}(nF:gY cs=some xs)(l4:gY ds=some ys)(ad:yl P 0 fs xs ys=some b):cT P G o s (.au (.v (.bool b))):=
 fun _ a w β ro af=>by
  obtain⟨p,q,aa,ae,aq,aT⟩:=NY h nF l4 ad (hx ▸ af.eval x) (ax ▸ af.eval y);exact⟨.bool b,by simp only[execOp,an,aa,ae,Sem.run_bind,run_eqGuard_agg w .eql ck x y p q aq,Result.andThen_ok,run_eql_struct,aT,Sem.run_pure],.fK rfl⟩
theorem N0(ck ty:TypeId)(x y:Operand)(an:o.op= .binOp .neq ck x y ty){fs:List Field}(h:mP P ck=some fs){cs ds:List aD}(hx:aI G s x= .agg cs)(ax:aI G s y= .agg ds)
 {xs ys:List Value}{b:Bool}(nF:gY cs=some xs)(l4:gY ds=some ys)(ad:yl P 0 fs xs ys=some b):cT P G o s (.au (.v (.bool (!b)))):=
 fun _ a w β ro af=>by
  obtain⟨p,q,aa,ae,aq,aT⟩:=NY h nF l4 ad (hx ▸ af.eval x) (ax ▸ af.eval y);exact⟨.bool (!b),by simp only[execOp,an,aa,ae,Sem.run_bind,run_eqGuard_agg w .neq ck x y p q aq,Result.andThen_ok,run_neq_struct,aT,Sem.run_pure],.fK rfl⟩
theorem N1(t:TypeId)(x:Operand)(an:o.op= .unOp .not t x){b:Bool}(hx:aI G s x= .au (.v (.bool b))):cT P G o s (.au (.v (.bool (!b)))):=
 fun _ a w β ro af=>⟨.bool (!b),by simp[execOp,an,af.en hx,Op.unary],.fK rfl⟩
theorem N2(t:TypeId)(x:Operand)(an:o.op= .unOp .neg t x){k:IntKind}{n:Int}(hx:aI G s x= .au (.v (.int k n))):cT P G o s (.au (.v (.int k (k.wrap (0-n))))):=
 fun _ a w β ro af=>⟨.int k (k.wrap (0-n)),by simp[execOp,an,af.en hx,Op.unary,Op.intArith],.fK rfl⟩
theorem yn(c x y:Operand)(an:o.op= .pick c x y){b:Bool}(hc:aI G s c= .au (.v (.bool b))){v:aD}(av:(if b then aI G s x else aI G s y)=v):cT P G o s v:=
 fun _ a w β ro af=>⟨if b then a.eval x else a.eval y,by simp[execOp,an,af.en hc,asBool],by
  subst av
  cases b
  ·simpa using af.eval y
  ·simpa using af.eval x⟩
theorem N3(x:Operand)(i:Nat)(an:o.op= .extract x i){cs:List aD}(hx:aI G s x= .tuple cs){v:aD}(av:cs[i]? =some v):cT P G o s v:=
 fun _ a w β ro af=>by
  have h:=af.eval x
  rw[hx]at h;generalize he:a.eval x=c at h
  cases h with
  |tuple _ c ah hc=>
   have bA:i<c.size:=by have:=(List.getElem?_eq_some_iff.1 av).1;omega
   refine⟨c[i],?_,?_⟩
   ·simp[execOp,an,Instr.extract,he,bA]
   ·simpa[bA]using hc i v av
end
end Go.aL
