/- The AV calculus, part A: values as trees, the relation between a symbolic state and a world, and how it is kept. Conditions: none; nothing here speaks of a particular program. -/
import Derived.Test.YtmkpmgfieagphaaGreatDoorRST0
import Derived.Laws.StructEq
import Derived.ChangeKeysEq
namespace Go.aM
open Go
theorem tZ(a:Addr)(n:Nat):(a.add n).block=a.block:=by unfold Addr.add;split<;>rfl
theorem yn(a:Addr)(i j:Nat):(a.add i).add j=a.add (i+j):=by
 unfold Addr.add
 by_cases hi:i=0<;>by_cases ai:j=0<;>simp[hi,ai,Nat.add_assoc]
theorem addLit(b o n:Nat):(⟨b,o,none⟩:Addr).add n=⟨b,o+n,none⟩:=by
 unfold Addr.add;split
 ·rename_i h;subst h;rfl
 ·rfl
inductive aE where
 |au (x:bh)
 |agg (cs:List aE)
 |tuple (cs:List aE)
 |ptr (id off:Nat)
 |cH (id i off:Nat)
 |aP (id:Nat)
 |fn (f:Fn) (first captured:List aE)
 |ref (id:Nat)
 |dF (id n:Nat)
 |top
def XP(agg:Bool)(n:Nat)(v:Value)(p:Nat→Value):Prop:=
 match agg with
 |true=>∃c:Array Value,v= .agg c∧c.size=n∧∀i,i<n→c.getD i undef=p i
 |false=>n=1∧v=p 0
inductive dt (w:World) (ro:Nat→Prop):bh→Value→Prop where
 |v (x:Value):x.oneCell'=true→dt w ro (.v x) x
 |ptr (cs:List bh) (a:Addr) (c:Nat→Value):(∀j x,cs[j]? =some x→ro a.block∧w.cell? (a.add j)=some (c j))→
  (∀j x,cs[j]? =some x→dt w ro x (c j))→dt w ro (.ptr cs) (.pointer (some a))
 |aP (n:Nat) (es:List (List bh)) (b:Option Addr) (cap:Nat) (c:Nat→Value):es.length≤cap→cap≤maxLen→(∀e∈es,e.length=n)→
  (0<es.length→∃a,b=some a∧∀j,j<es.length*n→ro a.block∧w.cell? (a.add j)=some (c j))→
  (∀j x,es.flatten[j]? =some x→dt w ro x (c j))→dt w ro (.aP n es) (.slice b es.length cap)
 |mp (agg:Bool) (ks:List Value) (vs:List (List bh)) (r:Nat) (es:Array MapEntry) (clock:Nat) (p:Nat→Nat→Value):ro r→w.heap[r]? =some (.map es clock)→es.size=ks.length→vs.length=ks.length→ks.Nodup→
  (∀j k cs,ks[j]? =some k→vs[j]? =some cs→∃e:MapEntry,es[j]? =some e∧e.key=k∧XP agg cs.length e.val (p j))→
  (∀j cs i x,vs[j]? =some cs→cs[i]? =some x→dt w ro x (p j i))→dt w ro (.mp agg ks vs) (.map (some r))
 |li (i:bO) (l:List (gh i)) (c:Value):dt w ro (.aP (c8 i) (l.map (cZ i))) c→dt w ro (.li i l) c
theorem dt.one{w:World}{ro:Nat→Prop}{x:bh}{c:Value}(h:dt w ro x c):c.oneCell'=true:=by
 induction h with
 |v x hx=>exact hx
 |ptr=>rfl
 |aP=>rfl
 |mp=>rfl
 |li i l c h aR=>exact aR
theorem dt.keep{w w':World}{ro ro':Nat→Prop}{x:bh}{c:Value}(h:dt w ro x c)
 (hw: ∀b,ro b→w'.heap[b]? =w.heap[b]?)(cc: ∀b,ro b→ro' b):dt w' ro' x c:=by
 induction h with
 |v x hx=>exact .v x hx
 |ptr cs a c aa _ aR=>
  exact .ptr cs a c (fun j x ai=>⟨cc _ (aa j x ai).1,by
   rw[World.cell?_of_block (w:=w) (by rw[tZ];exact hw _ (aa j x ai).1)];exact(aa j x ai).2⟩) aR
 |aP n es b cap c aa ad aq aS _ aR=>
  refine .aP n es b cap c aa ad aq (fun ak=>?_) aR
  obtain⟨a,ae,hc⟩:=aS ak
  exact⟨a,ae,fun j ai=>⟨cc _ (hc j ai).1,by
   rw[World.cell?_of_block (w:=w) (by rw[tZ];exact hw _ (hc j ai).1)];exact(hc j ai).2⟩⟩
 |mp agg ks vs r es clock p aa ad aq aS bC cC _ aR=>exact .mp agg ks vs r es clock p (cc _ aa) ((hw _ aa).trans ad) aq aS bC cC aR
 |li i l c _ aR=>exact .li i l c aR
def cf:Value→Option Nat
 | .pointer (some a)=>some a.block
 | .slice (some a) _ cap=>if cap=0 then none else some a.block
 | .map (some r)=>some r
 |_=>none
structure BQ where
 holds:(bh→Value→Prop)→Value→Obj→Prop
 mono: ∀(R r4:bh→Value→Prop) v o,(∀x c,R x c→r4 x c)→holds R v o→holds r4 v o
 view:Option bh
 XQ: ∀au,view=some au→∀(w:World) (ro ro':Nat→Prop) (v:Value) (o:Obj) (b:Nat),holds (dt w ro) v o→cf v=some b→w.heap[b]? =some o→(∀x,ro x→ro' x)→ro' b→dt w ro' au v
inductive en where
 |box (t:TypeId) (cs:List aE)
 |row (N5:Bool) (t:TypeId) (n:Nat) (es:List (List bh))
 |b1 (bF:BQ)
def en.live:en→Bool
 | .box _ _=>true
 | .row N5 _ _ _=>!N5
 | .b1 _=>true
abbrev bA:=List (Nat × en)
def aF:bA→Nat→Option en
 |[],_=>none
 |(k,o)::r,id=>if k=id then some o else aF r id
def e3:bA→Nat→en→bA
 |[],id,o=>[(id,o)]
 |(k,x)::r,id,o=>if k=id then(k,o)::r else(k,x)::e3 r id o
def fU:bA→Nat→bA
 |[],_=>[]
 |(k,x)::r,id=>if k=id then fU r id else(k,x)::fU r id
theorem vJ(h:bA)(id:Nat)(o:en)(k:Nat):aF (e3 h id o) k=if id=k then some o else aF h k:=by
 induction h with
 |nil=>simp[e3,aF]
 |cons p r aR=>
  obtain⟨j,x⟩:=p
  by_cases ai:j=id
  ·subst ai
   by_cases aj:j=k<;>simp[e3,aF,aj]
  ·by_cases aj:j=k
   ·subst aj
    simp[e3,aF,ai,Ne.symm ai]
   ·simp[e3,aF,ai,aj,aR]
theorem BR(h:bA)(id k:Nat):aF (fU h id) k=if id=k then none else aF h k:=by
 induction h with
 |nil=>simp[fU,aF]
 |cons p r aR=>
  obtain⟨j,x⟩:=p
  by_cases ai:j=id
  ·subst ai
   by_cases aj:j=k
   ·subst aj;simp[fU,aR]
   ·simp[fU,aF,aj,aR]
  ·by_cases aj:j=k
   ·subst aj
    simp[fU,aF,ai,Ne.symm ai]
   ·simp[fU,aF,ai,aj,aR]
def kA(w:World)(t:TypeId)(n:Nat)(v:Value)(len:Nat)(xs:List Value):Prop:=
 xs.length=len*n∧(((∃b,v= .slice b 0 0∧∀a,b=some a→a.block<w.heap.size)∧len=0)∨
  ∃g cap cur,v= .slice (some ⟨g,0,none⟩) len cap∧0<cap∧w.heap[g]? =some (.cells cur t (0,0))∧len≤cap∧cap≤maxLen∧cur.size=cap*n∧cur.toList.take (len*n)=xs)
inductive bs (w:World) (ro:Nat→Prop) (σ:bA) (β:Nat→Value) (N:Nat):aE→Value→Prop where
 |au (x:bh) (c:Value):dt w ro x c→bs w ro σ β N (.au x) c
 |agg (cs:List aE) (c:Array Value):c.size=cs.length→(∀j x,cs[j]? =some x→bs w ro σ β N x (c.getD j undef))→bs w ro σ β N (.agg cs) (.agg c)
 |tuple (cs:List aE) (c:Array Value):c.size=cs.length→(∀j x,cs[j]? =some x→bs w ro σ β N x (c.getD j undef))→bs w ro σ β N (.tuple cs) (.tuple c)
 |ptr (id off:Nat) (c:Value):id<N→(∀t cs,aF σ id=some (.box t cs)→∃b,β id= .pointer (some ⟨b,0,none⟩)∧c= .pointer (some ⟨b,off,none⟩))→bs w ro σ β N (.ptr id off) c
 |dF (id n:Nat) (c:Value):id<N→(∀t cs,aF σ id=some (.box t cs)→∃b,β id= .pointer (some ⟨b,0,none⟩)∧c= .slice (some ⟨b,0,none⟩) n n)→bs w ro σ β N (.dF id n) c
 |cH (id i off:Nat) (c:Value):id<N→(∀z t n es,aF σ id=some (.row z t n es)→∃b l iu,β id= .slice (some ⟨b,0,none⟩) l iu∧c= .pointer (some ⟨b,i*n+off,none⟩))→bs w ro σ β N (.cH id i off) c
 |aP (id:Nat) (c:Value):id<N→(∀z t n es,aF σ id=some (.row z t n es)→c=β id)→bs w ro σ β N (.aP id) c
 |fn (f:Fn) (p q:List aE) (c d:Array Value):c.size=p.length→d.size=q.length→(∀j x,p[j]? =some x→bs w ro σ β N x (c.getD j undef))→
  (∀j x,q[j]? =some x→bs w ro σ β N x (d.getD j undef))→bs w ro σ β N (.fn f p q) (.func f c d)
 |ref (id:Nat) (c:Value):id<N→(∀bF,aF σ id=some (.b1 bF)→c=β id)→bs w ro σ β N (.ref id) c
 |top (c:Value):bs w ro σ β N .top c
inductive lB (w:World) (ro:Nat→Prop) (σ:bA) (β:Nat→Value) (N:Nat) (id:Nat):en→Prop where
 |box (t:TypeId) (cs:List aE) (b:Nat) (arr:Array Value):β id= .pointer (some ⟨b,0,none⟩)→w.heap[b]? =some (.cells arr t (0,0))→arr.size=cs.length→
  (∀j x,cs[j]? =some x→bs w ro σ β N x (arr.getD j undef))→lB w ro σ β N id (.box t cs)
 |row (t:TypeId) (n:Nat) (es:List (List bh)) (xs:List Value):kA w t n (β id) es.length xs→(∀e∈es,e.length=n)→
  (∀j x,es.flatten[j]? =some x→dt w ro x (xs.getD j undef))→lB w ro σ β N id (.row false t n es)
 |fV (t:TypeId) (n:Nat) (es:List (List bh)):dt w ro (.aP n es) (β id)→lB w ro σ β N id (.row true t n es)
 |b1 (bF:BQ) (b:Nat) (o:Obj):cf (β id)=some b→w.heap[b]? =some o→bF.holds (dt w ro) (β id) o→lB w ro σ β N id (.b1 bF)
theorem kA.hl{w:World}{t:TypeId}{n:Nat}{v:Value}{len:Nat}{xs:List Value}(h:kA w t n v len xs){b:Nat}(ae:cf v=some b):
 b<w.heap.size∧∃cap cur,v= .slice (some ⟨b,0,none⟩) len cap∧w.heap[b]? =some (.cells cur t (0,0)):=by
 rcases h.2 with⟨⟨c,rfl,_⟩,_⟩|⟨g,cap,cur,rfl,hc,ah,_⟩
 ·cases c<;>simp[cf]at ae
 ·have:cap≠0:=by omega
  simp[cf,this]at ae;subst ae;exact⟨(Array.getElem?_eq_some_iff.1 ah).1,cap,cur,rfl,ah⟩
theorem kA.keep{w w':World}{t:TypeId}{n:Nat}{v:Value}{len:Nat}{xs:List Value}(h:kA w t n v len xs)(hw: ∀b,cf v=some b→w'.heap[b]? =w.heap[b]?)(bK:w.heap.size≤w'.heap.size):kA w' t n v len xs:=by
 refine⟨h.1,?_⟩
 rcases h.2 with⟨⟨b,av,ae⟩,ao⟩|⟨g,cap,cur,av,hc,ah,rest⟩
 ·exact .inl ⟨⟨b,av,fun a aI=>Nat.lt_of_lt_of_le (ae a aI) bK⟩,ao⟩
 ·have:cap≠0:=by omega
  exact .inr ⟨g,cap,cur,av,hc,(hw g (by rw[av];simp[cf,this])).trans ah,rest⟩
theorem lB.hl{w:World}{ro:Nat→Prop}{σ:bA}{β:Nat→Value}{N id:Nat}{o:en}(h:lB w ro σ β N id o)(ao:o.live=true){b:Nat}(ae:cf (β id)=some b):b<w.heap.size:=by
 cases h with
 |box t cs b' arr aa ad=>rw[aa]at ae;simp[cf]at ae;subst ae;exact(Array.getElem?_eq_some_iff.1 ad).1
 |row t n es xs aa=>exact(aa.hl ae).1
 |fV=>simp[en.live]at ao
 |b1 bF b' o aa ad=>rw[aa]at ae;simp only[Option.some.injEq]at ae;subst ae;exact(Array.getElem?_eq_some_iff.1 ad).1
def Own(σ:bA)(β:Nat→Value)(b:Nat):Prop:=∃id o,aF σ id=some o∧o.live=true∧cf (β id)=some b
structure ho (w:World) (ro:Nat→Prop) (σ:bA) (β:Nat→Value) (N:Nat):Prop where
 c7: ∀id o,aF σ id=some o→lB w ro σ β N id o
 inj: ∀id gM o cm b,aF σ id=some o→aF σ gM=some cm→o.live=true→cm.live=true→cf (β id)=some b→cf (β gM)=some b→id=gM
 fz: ∀b,ro b→¬Own σ β b
 lt: ∀b,ro b→b<w.heap.size
abbrev a7:=Nat→Option (List bh)
def p6(w:World)(ro:Nat→Prop)(G:a7):Prop:=∀g cs,G g=some cs→dt w ro (.ptr cs) (.pointer (some ⟨g,0,none⟩))∧ro g∧∃arr t p7,w.heap[g]? =some (.cells arr t p7)∧arr.size=cs.length
structure Entry where
 w:World
 ro:Nat→Prop
 σ:bA
 β:Nat→Value
 n:Nat
structure Trans (E:Entry) (w:World) (ro:Nat→Prop) (σ:bA) (β:Nat→Value) (n:Nat):Prop where
 os:w.os=E.w.os
 tape:w.tape=E.w.tape
 output:w.output=E.w.output
 size:E.w.heap.size≤w.heap.size
 frame: ∀b,b<E.w.heap.size→¬Own E.σ E.β b→w.heap[b]? =E.w.heap[b]?
 iR: ∀b,ro b→E.ro b∨Own E.σ E.β b∨E.w.heap.size≤b
 jR: ∀b,E.ro b→ro b
 gN: ∀b,Own σ β b→Own E.σ E.β b∨E.w.heap.size≤b
 dK: ∀id,id<E.n→∀o,aF σ id=some o→aF E.σ id≠none∧β id=E.β id
 new: ∀id o,aF σ id=some o→id<n
 le:E.n≤n
structure aN where
 cE:List aE
 heap:bA
 next:Nat
 base:Nat
structure c9 (E:Entry) (G:a7) (s:aN) (a:Act) (w:World) (β:Nat→Value) (ro:Nat→Prop):Prop where
 defers:a.defers=[]
 size:a.tmps.size=s.cE.length
 slot: ∀i x,s.cE[i]? =some x→bs w ro s.heap β s.next x (a.tmps.getD i undef)
 heap:ho w ro s.heap β s.next
 hV:p6 w ro G
 trans:Trans E w ro s.heap β s.next
 base:E.n≤s.base
def Rel(E:Entry)(G:a7)(s:aN)(a:Act)(w:World):Prop:=∃β ro,c9 E G s a w β ro
theorem bs.keep{w w':World}{ro ro':Nat→Prop}{σ ff:bA}{β dV:Nat→Value}{N oq:Nat}{x:aE}{c:Value}(h:bs w ro σ β N x c)
 (hw: ∀b,ro b→w'.heap[b]? =w.heap[b]?)(cc: ∀b,ro b→ro' b)(hg:N≤oq)
 (nK: ∀id t cs,aF ff id=some (.box t cs)→dV id=β id∧∃t cs,aF σ id=some (.box t cs))
 (dL: ∀id z t n es,aF ff id=some (.row z t n es)→dV id=β id∧∃z t es,aF σ id=some (.row z t n es))
 (nL: ∀id bF,aF ff id=some (.b1 bF)→dV id=β id∧∃bF,aF σ id=some (.b1 bF)):bs w' ro' ff dV oq x c:=by
 induction h with
 |au x c hx=>exact .au x c (hx.keep hw cc)
 |agg cs c ag _ aR=>exact .agg cs c ag aR
 |tuple cs c ag _ aR=>exact .tuple cs c ag aR
 |ptr id off c ao ak=>
  refine .ptr id off c (by omega) fun t cs ah=>?_
  obtain⟨ae,bw,cs',dR⟩:=nK id t cs ah;obtain⟨b,aa,ad⟩:=ak bw cs' dR;exact⟨b,ae.trans aa,ad⟩
 |dF id off c ao ak=>
  refine .dF id off c (by omega) fun t cs ah=>?_
  obtain⟨ae,bw,cs',dR⟩:=nK id t cs ah;obtain⟨b,aa,ad⟩:=ak bw cs' dR;exact⟨b,ae.trans aa,ad⟩
 |cH id i off c ao ak=>
  refine .cH id i off c (by omega) fun z t n es ah=>?_
  obtain⟨ae,h6,bw,ez,dR⟩:=dL id z t n es ah;obtain⟨b,l,iu,aa,ad⟩:=ak h6 bw n ez dR;exact⟨b,l,iu,ae.trans aa,ad⟩
 |aP id c ao ak=>
  refine .aP id c (by omega) fun z t n es ah=>?_
  obtain⟨ae,h6,bw,ez,dR⟩:=dL id z t n es ah;rw[ae];exact ak h6 bw n ez dR
 |fn f p q c d aa ad _ _ gO gP=>exact .fn f p q c d aa ad gO gP
 |ref id c ao ak=>
  refine .ref id c (by omega) fun bF ah=>?_
  obtain⟨ae,lC,dR⟩:=nL id bF ah;rw[ae];exact ak lC dR
 |top c=>exact .top c
theorem p6.keep{w w':World}{ro ro':Nat→Prop}{G:a7}(h:p6 w ro G)
 (hw: ∀b,ro b→w'.heap[b]? =w.heap[b]?)(cc: ∀b,ro b→ro' b):p6 w' ro' G:=fun g cs ah=>by
 obtain⟨aa,ad,arr,t,p7,aq,aS⟩:=h g cs ah
 exact⟨aa.keep hw cc,cc g ad,arr,t,p7,(hw g ad).trans aq,aS⟩
def aN.put(s:aN)(dst:Option Nat)(v:aE):aN:=
 match dst with
 |some d=>{s with cE:=s.cE.set d v}
 |none=>s
theorem c9.put{E:Entry}{G:a7}{s:aN}{a:Act}{w:World}{β:Nat→Value}{ro:Nat→Prop}(h:c9 E G s a w β ro)(dst:Option Nat)(v:aE)(c:Value)
 (av:bs w ro s.heap β s.next v c):c9 E G (s.put dst v) (a.put dst c) w β ro:=by
 cases dst with
 |none=>exact h
 |some d=>
  refine⟨h.defers,by simpa[Act.put,aN.put]using h.size,fun i x hx=>?_,h.heap,h.hV,h.trans,h.base⟩
  simp only[aN.put,Act.put]at hx⊢;rw[List.getElem?_set]at hx
  have bK:=h.size
  by_cases Hj:d=i
  ·subst Hj
   simp only[if_true]at hx
   split at hx
   ·rename_i bB
    simp only[Option.some.injEq]at hx;subst hx
    have:d<a.tmps.size:=by omega
    simpa[this]using av
   ·cases hx
  ·simp only[Hj,if_false]at hx
   have:=h.slot i x hx
   simpa[Array.getElem?_setIfInBounds_ne Hj]using this
end Go.aM
namespace Go.aM
open Go
def aJ(G:a7)(s:aN):Operand→aE
 | .tmp t=>s.cE.getD t .top
 | .const v=>if v.oneCell' then .au (.v v)else .top
 | .global g=>match G g with
  |some cs=>.au (.ptr cs)
  |none=>.top
 | .func f=>.fn (.func f) [] []
theorem c9.eval{E:Entry}{G:a7}{s:aN}{a:Act}{w:World}{β:Nat→Value}{ro:Nat→Prop}(h:c9 E G s a w β ro)(x:Operand):
 bs w ro s.heap β s.next (aJ G s x) (a.eval x):=by
 cases x with
 |tmp t=>
  simp only[aJ,Act.eval]
  cases aG:s.cE[t]? with
  |none=>simp only[List.getD,aG];exact .top _
  |some v=>simp only[List.getD,aG];exact h.slot t v aG
 |const v=>
  simp only[aJ,Act.eval]
  split
  ·exact .au _ _ (.v _ (by assumption))
  ·exact .top _
 |global g=>
  simp only[aJ,Act.eval]
  split
  ·exact .au _ _ (h.hV g _ (by assumption)).1
  ·exact .top _
 |func f=>exact .fn _ _ _ _ _ rfl rfl (by simp) (by simp)
def eh(P:Program)(G:a7)(o:Oper)(s bm:aN):Prop:=
 ∀E a w,Rel E G s a w→∀(K:Act→World→Prop) (Q:Exit→Act→World→Prop),(∀aY w',Rel E G bm aY w'→K aY w')→o.wp P a w K Q
def fP(w w':World):Prop:=∀b,b<w.heap.size→w'.heap[b]? =w.heap[b]?
def l7(P:Program)(G:a7)(o:Oper)(s bm:aN):Prop:=
 ∀E a w,Rel E G s a w→∀(K:Act→World→Prop) (Q:Exit→Act→World→Prop),(∀aY w',Rel E G bm aY w'→fP w w'→K aY w')→o.wp P a w K Q
theorem l7.op{P:Program}{G:a7}{o:Oper}{s bm:aN}(h:l7 P G o s bm):eh P G o s bm:=fun E a w af K Q hK=>h E a w af K Q fun aY w' dW _=>hK aY w' dW
section
variable {P:Program} {G:a7} {o:Oper} {s:aN}
theorem eh.value{v:aE}(h: ∀E a w β ro,c9 E G s a w β ro→∃c,(execOp a.eval o).run P w= .ok (.value c) w∧bs w ro s.heap β s.next v c):
 eh P G o s (s.put o.dst v):=by
 intro E a w ⟨β,ro,af⟩ K Q hK
 obtain⟨c,cU,av⟩:=h E a w β ro af
 unfold Oper.wp
 rw[cU]
 exact hK _ _ ⟨β,ro,af.put o.dst v c av⟩
abbrev cV(P:Program)(G:a7)(o:Oper)(s:aN)(v:aE):Prop:=
 ∀E a w β ro,c9 E G s a w β ro→∃c,(execOp a.eval o).run P w= .ok (.value c) w∧bs w ro s.heap β s.next v c
theorem cV.step{v:aE}(h:cV P G o s v):eh P G o s (s.put o.dst v):=.value h
theorem cV.N6{v:aE}(h:cV P G o s v):l7 P G o s (s.put o.dst v):=by
 intro E a w ⟨β,ro,af⟩ K Q hK
 obtain⟨c,cU,av⟩:=h E a w β ro af
 unfold Oper.wp
 rw[cU]
 exact hK _ _ ⟨β,ro,af.put o.dst v c av⟩ fun _ _=>rfl
theorem N7(x:Operand)(an:o.op= .move x):cV P G o s (aJ G s x):=
 fun _ a w _ _ af=>⟨a.eval x,by simp[execOp,an],af.eval x⟩
theorem N8(x:Operand)(an:o.op= .assign x):cV P G o s (aJ G s x):=
 fun _ a w _ _ af=>⟨a.eval x,by simp[execOp,an],af.eval x⟩
def fj(σ:bA):aE→Option (List aE)
 | .au (.ptr cs)=>some (cs.map .au)
 | .ptr id off=>match aF σ id with
  |some (.box _ cs)=>some (cs.drop off)
  |_=>none
 | .cH id i off=>match aF σ id with
  |some (.row false _ _ es)=>match es[i]? with
   |some e=>some ((e.drop off).map .au)
   |none=>none
  |_=>none
 |_=>none
theorem qH{α:Type}{n:Nat}: ∀{es:List (List α)},(∀e∈es,e.length=n)→∀{i:Nat} {e:List α},es[i]? =some e→∀j,j<n→es.flatten[i*n+j]? =e[j]?
 |[],_,i,e,h,_,_=>by simp at h
 |x::r,hn,i,e,h,j,ai=>by
  have hx:x.length=n:=hn x (by simp)
  cases i with
  |zero=>
   simp at h;subst h;simp only[List.flatten_cons,Nat.zero_mul,Nat.zero_add];rw[List.getElem?_append_left (by omega)]
  |succ i=>
   simp at h
   have aR:=qH (es:=r) (fun e he=>hn e (by simp[he])) h j ai
   simp only[List.flatten_cons];rw[List.getElem?_append_right (by rw[Nat.succ_mul];omega),←aR]
   congr 1
   rw[Nat.succ_mul];omega
theorem jS{α:Type}{n:Nat}: ∀{es:List (List α)},(∀e∈es,e.length=n)→es.flatten.length=es.length*n
 |[],_=>by simp
 |x::r,hn=>by
  simp only[List.flatten_cons,List.length_append,List.length_cons,Nat.succ_mul];rw[jS (es:=r) (fun e he=>hn e (by simp[he])),hn x (by simp)]
  omega
theorem bs.one{w:World}{ro:Nat→Prop}{σ:bA}{β:Nat→Value}{N:Nat}{x:bh}{c:Value}(h:bs w ro σ β N (.au x) c):c.oneCell'=true:=by
 cases h with
 |au _ _ h=>exact h.one
theorem vK{w:World}{ro:Nat→Prop}{σ:bA}{β:Nat→Value}{N:Nat}(aX:ho w ro σ β N){p:aE}{c:Value}{cs:List aE}(ak:fj σ p=some cs)(hc:bs w ro σ β N p c)
 (cb:cs≠[]): ∃a,c= .pointer (some a)∧∃f:Nat→Value,∀j x,cs[j]? =some x→w.cell? (a.add j)=some (f j)∧bs w ro σ β N x (f j):=by
 cases hc with
 |au x c hx=>
  cases hx with
  |v x=>simp[fj]at ak
  |ptr cs' a f aa ad=>
   simp only[fj,Option.some.injEq]at ak;subst ak;refine⟨a,rfl,f,fun j x ai=>?_⟩
   rw[List.getElem?_map]at ai
   cases ot:cs'[j]? with
   |none=>simp[ot]at ai
   |some y=>
    simp[ot]at ai;subst ai;exact⟨(aa j y ot).2,.au _ _ (ad j y ot)⟩
  |aP=>simp[fj]at ak
  |mp=>simp[fj]at ak
  |li=>simp[fj]at ak
 |ptr id off c bB ua=>
  simp only[fj]at ak
  cases an:aF σ id with
  |none=>simp[an]at ak
  |some h7=>
   cases h7 with
   |row=>simp[an]at ak
   |b1=>simp[an]at ak
   |box t cs'=>
    simp only[an,Option.some.injEq]at ak;subst ak;obtain⟨b,ae,rfl⟩:=ua t cs' an
    have du:=aX.c7 id _ an
    cases du with
    |box _ _ b' arr hp ah bK fk=>
     rw[ae]at hp;simp only[Value.pointer.injEq,Option.some.injEq,Addr.mk.injEq,and_true]at hp;subst hp;refine⟨_,rfl,fun j=>arr.getD (off+j) undef,fun j x ai=>?_⟩
     rw[List.getElem?_drop]at ai
     have bB:off+j<cs'.length:=by
      rcases Nat.lt_or_ge (off+j) cs'.length with h|h
      ·exact h
      ·rw[List.getElem?_eq_none h]at ai;cases ai
     refine⟨?_,fk _ _ ai⟩
     rw[addLit,cell_of_row w b (off+j) arr t (0,0) ah]
     have:off+j<arr.size:=by omega
     simp[this]
 |cH id i off c bB ua=>
  simp only[fj]at ak
  cases an:aF σ id with
  |none=>simp[an]at ak
  |some h7=>
   cases h7 with
   |box=>simp[an]at ak
   |b1=>simp[an]at ak
   |row z t n es=>
    cases z with
    |true=>simp[an]at ak
    |false=>
     simp only[an]at ak
     cases ou:es[i]? with
     |none=>simp[ou]at ak
     |some e=>
      simp only[ou,Option.some.injEq]at ak;subst ak;obtain⟨b,l,iu,ae,rfl⟩:=ua false t n es an
      have du:=aX.c7 id _ an
      cases du with
      |row _ _ _ xs jt hn fk=>
       rw[ae]at jt;obtain⟨BS,mC⟩:=jt
       rcases mC with⟨⟨_,h,_⟩,bu⟩|⟨g,cap,cur,av,_,ah,hle,iS,fA,lD⟩
       ·have:=(List.getElem?_eq_some_iff.1 ou).1;omega
       ·simp only[Value.slice.injEq,Option.some.injEq,Addr.mk.injEq,and_true]at av
        obtain⟨rfl,_,_⟩:=av;refine⟨_,rfl,fun j=>xs.getD (i*n+(off+j)) undef,fun j x ai=>?_⟩
        rw[List.getElem?_map]at ai
        cases ot:(e.drop off)[j]? with
        |none=>simp[ot]at ai
        |some y=>
         simp[ot]at ai;subst ai;rw[List.getElem?_drop]at ot
         have nM:e.length=n:=hn e (List.mem_of_getElem? ou)
         have ov:off+j<n:=by
          rcases Nat.lt_or_ge (off+j) e.length with h|h
          ·omega
          ·rw[List.getElem?_eq_none h]at ot;cases ot
         have ow:es.flatten[i*n+(off+j)]? =some y:=by rw[qH hn ou _ ov];exact ot
         refine⟨?_,.au _ _ (fk _ _ ow)⟩
         have lE:i*n+(off+j)<xs.length:=by
          have aa:i*n+(off+j)<es.flatten.length:=by
           rcases Nat.lt_or_ge (i*n+(off+j)) es.flatten.length with h|h
           ·exact h
           ·rw[List.getElem?_eq_none h]at ow;cases ow
          rw[jS hn]at aa
          have ad:=BS
          omega
         rw[addLit,Nat.add_assoc,cell_of_row w b _ cur t (0,0) ah]
         have hx:xs[i*n+(off+j)]? =cur[i*n+(off+j)]? :=by
          rw[←lD,List.getElem?_take]
          have ad:=BS
          rw[if_pos (by omega)]
          simp
         rw[←hx];simp[List.getD,List.getElem?_eq_getElem lE]
 |agg=>simp[fj]at ak
 |tuple=>simp[fj]at ak
 |aP=>simp[fj]at ak
 |fn=>simp[fj]at ak
 |ref=>simp[fj]at ak
 |dF=>simp[fj]at ak
 |top=>simp[fj]at ak
def l8(P:Program)(t:TypeId):Option Nat:=
 match P.underlying t with
 |some (.struct _)|some (.array _ _)=>(P.info? t).map (·.size)
 |_=>none
def scalar(P:Program)(t:TypeId):Bool:=
 match P.underlying t with
 |some (.struct _)|some (.array _ _)|none=>false
 |_=>true
theorem BT{t:TypeId}{n:Nat}(h:l8 P t=some n)(w:World):(isAgg t).run P w= .ok true w∧(sizeOf t).run P w= .ok n w:=by
 unfold l8 at h
 cases hu:P.underlying t with
 |none=>simp[hu]at h
 |some d=>
  cases hi:P.info? t with
  |none=>cases d<;>simp[hu,hi]at h
  |some i=>
   cases d<;>simp[hu,hi]at h
   all_goals
    subst h;exact⟨by simp[isAgg,run_underlying hu],by simp[sizeOf,typeInfo,hi]⟩
theorem yo{t:TypeId}(h:scalar P t=true)(w:World):(isAgg t).run P w= .ok false w:=by
 unfold scalar at h
 cases hu:P.underlying t with
 |none=>simp[hu]at h
 |some d=>cases d<;>simp[hu]at h<;>simp[isAgg,run_underlying hu]
theorem N9(t:TypeId)(x:Operand)(an:o.op= .load t x){n:Nat}(aG:l8 P t=some n){cs:List aE}(ak:fj s.heap (aJ G s x)=some cs)(hn:n≤cs.length)(aU:0<n):
 cV P G o s (.agg (cs.take n)):=
 fun _ a w β ro af=>by
  obtain⟨cS,hc,f,hf⟩:=vK af.heap ak (af.eval x) (by intro h;subst h;simp at hn;omega)
  obtain⟨aa,ad⟩:=BT aG w
  have ao:=run_loadCells (P:=P) w cS n f (fun j ai=>(hf j (cs[j]'(by omega)) (by simp)).1)
  refine⟨.agg ((List.range n).map f).toArray,?_,.agg _ _ (by simp;omega) fun j y ai=>?_⟩
  ·simp[execOp,an,hc,Instr.loadAt,Instr.sureAddr,loadVar,aa,ad,ao]
  ·rw[List.getElem?_take]at ai
   split at ai
   ·have:=(hf j y ai).2
    rename_i ov;simpa[ov]using this
   ·cases ai
theorem Hk(t:TypeId)(x:Operand)(an:o.op= .load t x)(aG:scalar P t=true){y:aE}{cs:List aE}(ak:fj s.heap (aJ G s x)=some (y::cs)):
 cV P G o s y:=
 fun _ a w β ro af=>by
  obtain⟨cS,hc,f,hf⟩:=vK af.heap ak (af.eval x) (by simp)
  have aa:=yo aG w
  obtain⟨k5,dp⟩:=hf 0 y rfl;rw[show cS.add 0=cS from by simp[Addr.add]]at k5
  exact⟨f 0,by simp[execOp,an,hc,Instr.loadAt,Instr.sureAddr,loadVar,aa,run_load,k5],dp⟩
def r5(P:Program)(t:TypeId)(f:Nat):Option Nat:=
 match P.underlying t with
 |some (.struct fs)=>match fs[f]? with
  |some fd=>match P.info? fd.type with
   |some i=>if i.size=0 then none else some fd.offset
   |none=>none
  |none=>none
 |_=>none
def iT(k:Nat):aE→Option aE
 | .au (.ptr cs)=>some (.au (.ptr (cs.drop k)))
 | .ptr id off=>some (.ptr id (off+k))
 | .cH id i off=>some (.cH id i (off+k))
 |_=>none
theorem Oa{w:World}{ro:Nat→Prop}{σ:bA}{β:Nat→Value}{N:Nat}{p q:aE}{c:Value}{cs:List aE}{k:Nat}(ag:iT k p=some q)(ak:fj σ p=some cs)(hc:bs w ro σ β N p c):
 ∃a,c= .pointer (some a)∧bs w ro σ β N q (.pointer (some (a.add k))):=by
 cases hc with
 |au x c hx=>
  cases hx with
  |v x=>simp[iT]at ag
  |ptr cs' a f aa ad=>
   simp only[iT,Option.some.injEq]at ag;subst ag;refine⟨a,rfl,.au _ _ (.ptr _ _ (fun j=>f (k+j)) (fun j x ai=>?_) (fun j x ai=>?_))⟩
   ·rw[List.getElem?_drop]at ai
    rw[tZ,yn];exact aa _ _ ai
   ·rw[List.getElem?_drop]at ai
    exact ad _ _ ai
  |aP=>simp[iT]at ag
  |mp=>simp[iT]at ag
  |li=>simp[iT]at ag
 |ptr id off c bB ua=>
  simp only[iT,Option.some.injEq]at ag;subst ag;simp only[fj]at ak
  split at ak
  ·rename_i t cs' an
   obtain⟨b,ae,rfl⟩:=ua t cs' an;refine⟨_,rfl,.ptr _ _ _ bB fun bw zdD lx=>⟨b,ae,by rw[addLit]⟩⟩
  ·cases ak
 |cH id i off c bB ua=>
  simp only[iT,Option.some.injEq]at ag;subst ag;simp only[fj]at ak
  split at ak
  ·rename_i t n es an
   obtain⟨b,l,iu,ae,rfl⟩:=ua false t n es an;refine⟨_,rfl,.cH _ _ _ _ bB fun h6 bw cR ez lx=>⟨b,l,iu,ae,?_⟩⟩
   rw[an]at lx;simp only[Option.some.injEq,en.row.injEq]at lx;obtain⟨_,_,rfl,_⟩:=lx;rw[addLit,Nat.add_assoc]
  ·cases ak
 |agg=>simp[iT]at ag
 |tuple=>simp[iT]at ag
 |aP=>simp[iT]at ag
 |fn=>simp[iT]at ag
 |ref=>simp[iT]at ag
 |dF=>simp[iT]at ag
 |top=>simp[iT]at ag
theorem Ob{t f k:Nat}(h:r5 P t f=some k)(a:Addr)(w:World):(Instr.fieldAt t (.pointer (some a)) f).run P w= .ok (.pointer (some (a.add k))) w:=by
 unfold r5 at h
 split at h
 ·rename_i fs hu
  split at h
  ·rename_i fd hf
   split at h
   ·rename_i i hi
    split at h
    ·cases h
    ·rename_i bu
     simp only[Option.some.injEq]at h;subst h;simp[Instr.fieldAt,run_underlying hu,hf,Instr.sureAddr,fieldPlace,sizeOf,typeInfo,hi,bu]
   ·cases h
  ·cases h
 ·cases h
def jT(σ:bA):aE→Bool
 | .au (.ptr _)=>true
 | .ptr id _=>match aF σ id with
  |some (.box _ _)=>true
  |_=>false
 | .cH id _ _=>match aF σ id with
  |some (.row _ _ _ _)=>true
  |_=>false
 |_=>false
def qI(k:Nat):aE→aE
 | .au (.ptr cs)=>.au (.ptr (cs.drop k))
 | .ptr id off=>.ptr id (off+k)
 | .cH id i off=>.cH id i (off+k)
 |x=>x
theorem yp{w:World}{ro:Nat→Prop}{σ:bA}{β:Nat→Value}{N:Nat}{x:aE}{c:Value}(hx:jT σ x=true)(h:bs w ro σ β N x c): ∃a,c= .pointer (some a)∧∀k,bs w ro σ β N (qI k x) (.pointer (some (a.add k))):=by
 cases h with
 |au x c af=>
  cases af with
  |ptr cs a f aa ad=>
   refine⟨a,rfl,fun k=>.au _ _ (.ptr _ _ (fun j=>f (k+j)) (fun j x ai=>?_) (fun j x ai=>?_))⟩
   ·rw[List.getElem?_drop]at ai
    rw[tZ,yn];exact aa _ _ ai
   ·rw[List.getElem?_drop]at ai
    exact ad _ _ ai
  |v=>simp[jT]at hx
  |aP=>simp[jT]at hx
  |mp=>simp[jT]at hx
  |li=>simp[jT]at hx
 |ptr id off c ao ak=>
  simp only[jT]at hx
  split at hx
  ·rename_i t cs ah
   obtain⟨b,ae,rfl⟩:=ak t cs ah;refine⟨_,rfl,fun k=>.ptr id (off+k) _ ao fun bw cs' dR=>?_⟩
   obtain⟨b',hp,yq⟩:=ak bw cs' dR;rw[ae]at hp;simp only[Value.pointer.injEq,Option.some.injEq,Addr.mk.injEq,and_true]at hp;subst hp;exact⟨b,ae,by rw[addLit]⟩
  ·cases hx
 |cH id i off c ao ak=>
  simp only[jT]at hx
  split at hx
  ·rename_i z t n es ah
   obtain⟨b,l,iu,ae,rfl⟩:=ak z t n es ah;refine⟨_,rfl,fun k=>.cH id i (off+k) _ ao fun h6 bw cR ez dR=>?_⟩
   rw[ah]at dR;simp only[Option.some.injEq,en.row.injEq]at dR;obtain⟨_,_,rfl,_⟩:=dR;exact⟨b,l,iu,ae,by rw[addLit,Nat.add_assoc]⟩
  ·cases hx
 |_=>simp[jT]at hx
theorem Oc(t:TypeId)(x:Operand)(f:Nat)(an:o.op= .fieldAddr t x f){k:Nat}(aj:r5 P t f=some k)(ak:jT s.heap (aJ G s x)=true):cV P G o s (qI k (aJ G s x)):=
 fun _ a w β ro af=>by
  obtain⟨cS,hc,dp⟩:=yp ak (af.eval x);exact⟨_,by simp[execOp,an,hc,Ob aj],dp k⟩
theorem Od(x:Operand)(an:o.op= .nilCheck x)(ak:jT s.heap (aJ G s x)=true):cV P G o s (aJ G s x):=
 fun _ a w β ro af=>by
  obtain⟨cS,hc,_⟩:=yp ak (af.eval x);exact⟨_,by simp[execOp,an,hc],hc ▸ af.eval x⟩
end
end Go.aM
namespace Go.aM
open Go
def hq(β:Nat→Value)(id:Nat)(v:Value):Nat→Value:=fun k=>if k=id then v else β k
theorem eA(β:Nat→Value)(id:Nat)(v:Value):hq β id v id=v:=by simp[hq]
theorem cL(β:Nat→Value){id k:Nat}(v:Value)(h:k≠id):hq β id v k=β k:=by simp[hq,h]
section
variable {E:Entry} {G:a7} {s:aN} {a:Act} {w w':World} {β:Nat→Value} {ro:Nat→Prop}
theorem lB.keep{w w':World}{ro ro':Nat→Prop}{σ ff:bA}{β dV:Nat→Value}{N oq:Nat}{id:Nat}{o:en}(h:lB w ro σ β N id o)
 (hw: ∀b,ro b→w'.heap[b]? =w.heap[b]?)(cc: ∀b,ro b→ro' b)(hg:N≤oq)(bK:w.heap.size≤w'.heap.size)(hid:dV id=β id)(gQ:o.live=true→∀b,cf (β id)=some b→w'.heap[b]? =w.heap[b]?)
 (nK: ∀id t cs,aF ff id=some (.box t cs)→dV id=β id∧∃t cs,aF σ id=some (.box t cs))
 (dL: ∀id z t n es,aF ff id=some (.row z t n es)→dV id=β id∧∃z t es,aF σ id=some (.row z t n es))
 (nL: ∀id bF,aF ff id=some (.b1 bF)→dV id=β id∧∃bF,aF σ id=some (.b1 bF)):lB w' ro' ff dV oq id o:=by
 cases h with
 |box t cs b arr aa ad aq aS=>
  exact .box t cs b arr (hid.trans aa) ((gQ rfl b (by rw[aa];rfl)).trans ad) aq fun j x ai=>(aS j x ai).keep hw cc hg nK dL nL
 |row t n es xs aa ad aq=>
  exact .row t n es xs (by rw[hid];exact aa.keep (fun b ae=>gQ rfl b ae) bK) ad fun j x ai=>(aq j x ai).keep hw cc
 |fV t n es aa=>exact .fV t n es (by rw[hid];exact aa.keep hw cc)
 |b1 bF b o aa ad aq=>exact .b1 bF b o (by rw[hid];exact aa) ((gQ rfl b aa).trans ad) (by rw[hid];exact bF.mono _ _ _ _ (fun x c h=>h.keep hw cc) aq)
theorem c9.new(h:c9 E G s a w β ro)(id:Nat)(hid:aF s.heap id=none)(ae:s.base≤id)(bB:s.next≤id)(o:en)(val:Value)
 (ox:w'.os=w.os)(oy:w'.tape=w.tape)(kB:w'.output=w.output)(bK:w.heap.size≤w'.heap.size)(hw: ∀b,b<w.heap.size→w'.heap[b]? =w.heap[b]?)
 (gQ: ∀b,cf val=some b→w.heap.size≤b)(_hlive:o.live=true)
 (du:lB w' ro ((id,o)::s.heap) (hq β id val) (id+1) id o):c9 E G {s with heap:=(id,o)::s.heap,next:=id+1} a w' (hq β id val) ro:=by
 have cc: ∀b,ro b→w'.heap[b]? =w.heap[b]? :=fun b af=>hw b (h.heap.lt b af)
 have ah: ∀k,k≠id→aF ((id,o)::s.heap) k=aF s.heap k:=fun k aj=>by simp[aF,Ne.symm aj]
 have ub:aF ((id,o)::s.heap) id=some o:=by simp[aF]
 have Hl: ∀k p b,aF s.heap k=some p→p.live=true→cf (β k)=some b→b<w.heap.size:=fun k p b aj ak bc=>(h.heap.c7 k p aj).hl ak bc
 have key: ∀x c,bs w ro s.heap β s.next x c→bs w' ro ((id,o)::s.heap) (hq β id val) (id+1) x c:=by
  intro x c hx
  induction hx with
  |au x c hx=>exact .au x c (hx.keep cc fun _ h=>h)
  |agg cs c ag _ aR=>exact .agg cs c ag aR
  |tuple cs c ag _ aR=>exact .tuple cs c ag aR
  |ptr k off c ao ak=>
   have aj:k≠id:=by omega
   exact .ptr k off c (by omega) fun t cs bg=>by rw[cL _ _ aj];rw[ah k aj]at bg;exact ak t cs bg
  |dF k off c ao ak=>
   have aj:k≠id:=by omega
   exact .dF k off c (by omega) fun t cs bg=>by rw[cL _ _ aj];rw[ah k aj]at bg;exact ak t cs bg
  |cH k i off c ao ak=>
   have aj:k≠id:=by omega
   exact .cH k i off c (by omega) fun z t n es bg=>by rw[cL _ _ aj];rw[ah k aj]at bg;exact ak z t n es bg
  |aP k c ao ak=>
   have aj:k≠id:=by omega
   exact .aP k c (by omega) fun z t n es bg=>by rw[cL _ _ aj];rw[ah k aj]at bg;exact ak z t n es bg
  |fn f p q c d aa ad _ _ gO gP=>exact .fn f p q c d aa ad gO gP
  |ref k c ao ak=>
   have aj:k≠id:=by omega
   exact .ref k c (by omega) fun bF bg=>by rw[cL _ _ aj];rw[ah k aj]at bg;exact ak bF bg
  |top c=>exact .top c
 refine⟨h.defers,h.size,fun i x hx=>key _ _ (h.slot i x hx),⟨fun k p aj=>?_,fun k br p fL b aj eB ak gv bc ee=>?_,fun b af=>?_,fun b af=>Nat.lt_of_lt_of_le (h.heap.lt b af) bK⟩,
  h.hV.keep cc fun _ h=>h,?_,h.base⟩
 ·by_cases bo:k=id
  ·subst bo
   rw[ub]at aj;simp only[Option.some.injEq]at aj;subst aj;exact du
  ·rw[ah k bo]at aj
   have gw:=h.heap.c7 k p aj
   cases gw with
   |box t cs b arr aa ad aq aS=>
    have iv:=Hl k _ b aj rfl (by rw[aa];rfl)
    exact .box t cs b arr (by rw[cL _ _ bo];exact aa) ((hw b iv).trans ad) aq fun j x ai=>key _ _ (aS j x ai)
   |row t n es xs aa ad aq=>
    exact .row t n es xs (by rw[cL _ _ bo];exact aa.keep (fun b ae=>hw b (aa.hl ae).1) bK) ad fun j x ai=>(aq j x ai).keep cc fun _ h=>h
   |fV t n es aa=>exact .fV t n es (by rw[cL _ _ bo];exact aa.keep cc fun _ h=>h)
   |b1 bF b o aa ad aq=>exact .b1 bF b o (by rw[cL _ _ bo];exact aa) ((hw b (Array.getElem?_eq_some_iff.1 ad).1).trans ad) (by rw[cL _ _ bo];exact bF.mono _ _ _ _ (fun x c h=>h.keep cc fun _ h=>h) aq)
 ·by_cases bo:k=id
  ·by_cases gx:br=id
   ·rw[bo,gx]
   ·subst bo
    rw[eA]at bc;rw[cL _ _ gx]at ee;rw[ah br gx]at eB
    have aa:=gQ b bc
    have ad:=Hl br fL b eB gv ee
    omega
  ·by_cases gx:br=id
   ·subst gx
    rw[eA]at ee;rw[cL _ _ bo]at bc;rw[ah k bo]at aj
    have aa:=gQ b ee
    have ad:=Hl k p b aj ak bc
    omega
   ·rw[cL _ _ bo]at bc
    rw[cL _ _ gx]at ee;rw[ah k bo]at aj;rw[ah br gx]at eB;exact h.heap.inj k br p fL b aj eB ak gv bc ee
 ·rintro⟨k,p,aj,ak,bc⟩
  by_cases bo:k=id
  ·subst bo
   rw[eA]at bc
   have aa:=gQ b bc
   have ad:=h.heap.lt b af
   omega
  ·rw[cL _ _ bo]at bc
   rw[ah k bo]at aj;exact h.heap.fz b af ⟨k,p,aj,ak,bc⟩
 ·have t:=h.trans
  refine⟨ox.trans t.os,oy.trans t.tape,kB.trans t.output,Nat.le_trans t.size bK,fun b iv hr=>?_,t.iR,t.jR,?_,fun k aj p bg=>?_,fun k p bg=>?_,Nat.le_trans h.base (Nat.le_trans ae (Nat.le_succ _))⟩
  ·rw[hw b (Nat.lt_of_lt_of_le iv t.size)]
   exact t.frame b iv hr
  ·rintro b ⟨k,p,aj,ak,bc⟩
   by_cases bo:k=id
   ·subst bo
    rw[eA]at bc;exact .inr (Nat.le_trans t.size (gQ b bc))
   ·rw[cL _ _ bo]at bc
    rw[ah k bo]at aj;exact t.gN b ⟨k,p,aj,ak,bc⟩
  ·have bo:k≠id:=by have:=h.base;omega
   rw[ah k bo]at bg;rw[cL _ _ bo];exact t.dK k aj p bg
  ·by_cases bo:k=id
   ·subst bo;exact Nat.lt_succ_self _
   ·rw[ah k bo]at bg
    have:=t.new k p bg
    show k<id+1;omega
theorem c9.write(h:c9 E G s a w β ro)(id:Nat)(o cm:en)(hid:aF s.heap id=some o)(vL:o.live=true)(zdE:cm.live=true)
 (yr:(∃t cs cs',o= .box t cs∧cm= .box t cs')∨(∃t n es ez,o= .row false t n es∧cm= .row false t n ez)∨(∃bF lC,o= .b1 bF∧cm= .b1 lC))
 (ox:w'.os=w.os)(oy:w'.tape=w.tape)(kB:w'.output=w.output)(bK:w.heap.size≤w'.heap.size)(hw: ∀b,b<w.heap.size→cf (β id)≠some b→w'.heap[b]? =w.heap[b]?)
 (du:lB w' ro (e3 s.heap id cm) β s.next id cm):c9 E G {s with heap:=e3 s.heap id cm} a w' β ro:=by
 have cc: ∀b,ro b→w'.heap[b]? =w.heap[b]? :=fun b af=>hw b (h.heap.lt b af) fun ae=>h.heap.fz b af ⟨id,o,hid,vL,ae⟩
 have ah:=vJ s.heap id cm
 have own: ∀b,Own (e3 s.heap id cm) β b→Own s.heap β b:=by
  rintro b ⟨k,p,aj,ak,bc⟩
  rw[ah k]at aj
  by_cases bo:id=k
  ·subst bo;exact⟨id,o,hid,vL,bc⟩
  ·rw[if_neg bo]at aj;exact⟨k,p,aj,ak,bc⟩
 have nN: ∀k p b,aF s.heap k=some p→p.live=true→cf (β k)=some b→b<w.heap.size:=fun k p b aj ak bc=>(h.heap.c7 k p aj).hl ak bc
 have nK: ∀k t cs,aF (e3 s.heap id cm) k=some (.box t cs)→β k=β k∧∃t cs,aF s.heap k=some (.box t cs):=by
  intro k t cs aj;rw[ah k]at aj
  by_cases bo:id=k
  ·subst bo
   rw[if_pos rfl]at aj;simp only[Option.some.injEq]at aj
   rcases yr with⟨t1,aw,ey,rfl,rfl⟩|⟨t1,n,aA,aW,rfl,rfl⟩|⟨_,_,rfl,rfl⟩
   ·exact⟨rfl,t1,aw,hid⟩
   ·cases aj
   ·cases aj
  ·rw[if_neg bo]at aj;exact⟨rfl,t,cs,aj⟩
 have dL: ∀k z t n es,aF (e3 s.heap id cm) k=some (.row z t n es)→β k=β k∧∃z t es,aF s.heap k=some (.row z t n es):=by
  intro k z t n es aj;rw[ah k]at aj
  by_cases bo:id=k
  ·subst bo
   rw[if_pos rfl]at aj;simp only[Option.some.injEq]at aj
   rcases yr with⟨t1,aw,ey,rfl,rfl⟩|⟨t1,fE,aA,aW,rfl,rfl⟩|⟨_,_,rfl,rfl⟩
   ·cases aj
   ·simp only[en.row.injEq]at aj
    obtain⟨_,_,rfl,_⟩:=aj;exact⟨rfl,_,_,_,hid⟩
   ·cases aj
  ·rw[if_neg bo]at aj;exact⟨rfl,z,t,es,aj⟩
 have nL: ∀k bF,aF (e3 s.heap id cm) k=some (.b1 bF)→β k=β k∧∃bF,aF s.heap k=some (.b1 bF):=by
  intro k bF aj;rw[ah k]at aj
  by_cases bo:id=k
  ·subst bo
   rw[if_pos rfl]at aj;simp only[Option.some.injEq]at aj
   rcases yr with⟨t1,aw,ey,rfl,rfl⟩|⟨t1,fE,aA,aW,rfl,rfl⟩|⟨XR,_,rfl,rfl⟩
   ·cases aj
   ·cases aj
   ·exact⟨rfl,XR,hid⟩
  ·rw[if_neg bo]at aj;exact⟨rfl,bF,aj⟩
 refine⟨h.defers,h.size,fun i x hx=>(h.slot i x hx).keep cc (fun _ h=>h) (Nat.le_refl _) nK dL nL,⟨fun k p aj=>?_,fun k br p fL b aj eB ak gv bc ee=>?_,fun b af ae=>h.heap.fz b af (own b ae),
  fun b af=>Nat.lt_of_lt_of_le (h.heap.lt b af) bK⟩,h.hV.keep cc fun _ h=>h,?_,h.base⟩
 ·rw[ah k]at aj
  by_cases bo:id=k
  ·subst bo
   rw[if_pos rfl]at aj;simp only[Option.some.injEq]at aj;subst aj;exact du
  ·rw[if_neg bo]at aj
   refine(h.heap.c7 k p aj).keep cc (fun _ h=>h) (Nat.le_refl _) bK rfl (fun ao b ae=>hw b (nN k p b aj ao ae) fun ju=>bo (h.heap.inj id k o p b hid aj vL ao ju ae)) nK dL nL
 ·have aa: ∃q,aF s.heap k=some q∧q.live=true:=by
   rw[ah k]at aj
   by_cases bo:id=k
   ·subst bo;exact⟨o,hid,vL⟩
   ·rw[if_neg bo]at aj;exact⟨p,aj,ak⟩
  have ad: ∃q,aF s.heap br=some q∧q.live=true:=by
   rw[ah br]at eB
   by_cases bo:id=br
   ·subst bo;exact⟨o,hid,vL⟩
   ·rw[if_neg bo]at eB;exact⟨fL,eB,gv⟩
  obtain⟨q,aL,qJ⟩:=aa;obtain⟨gB,uc,yt⟩:=ad;exact h.heap.inj k br q gB b aL uc qJ yt bc ee
 ·have t:=h.trans
  refine⟨ox.trans t.os,oy.trans t.tape,kB.trans t.output,Nat.le_trans t.size bK,fun b iv hr=>?_,t.iR,t.jR,fun b ae=>t.gN b (own b ae),fun k aj p bg=>?_,fun k p bg=>?_,t.le⟩
  ·by_cases ju:cf (β id)=some b
   ·rcases t.gN b ⟨id,o,hid,vL,ju⟩with hc|hc
    ·exact absurd hc hr
    ·omega
   ·rw[hw b (Nat.lt_of_lt_of_le iv t.size) ju]
    exact t.frame b iv hr
  ·rw[ah k]at bg
   by_cases bo:id=k
   ·subst bo;exact t.dK id aj o hid
   ·rw[if_neg bo]at bg;exact t.dK k aj p bg
  ·rw[ah k]at bg
   by_cases bo:id=k
   ·subst bo;exact t.new id o hid
   ·rw[if_neg bo]at bg;exact t.new k p bg
end
end Go.aM
namespace Go.aM
open Go
def cA:aE→List aE
 | .agg cs=>cs
 |x=>[x]
section
variable {w:World} {ro:Nat→Prop} {σ:bA} {β:Nat→Value} {N:Nat}
def eo(σ:bA):aE→Bool
 | .au _| .fn _ _ _=>true
 | .ptr id _=>match aF σ id with
  |some (.box _ _)=>true
  |_=>false
 | .aP id=>match aF σ id with
  |some (.row _ _ _ _)=>true
  |_=>false
 | .cH id _ _=>match aF σ id with
  |some (.row _ _ _ _)=>true
  |_=>false
 |_=>false
theorem BU(aX:ho w ro σ β N){x:aE}{c:Value}(hx:eo σ x=true)(h:bs w ro σ β N x c):c.oneCell'=true:=by
 cases h with
 |au x c h=>exact h.one
 |agg=>simp[eo]at hx
 |tuple=>simp[eo]at hx
 |ptr id off c ao ak=>
  simp only[eo]at hx
  split at hx
  ·rename_i t cs ah
   obtain⟨b,_,rfl⟩:=ak t cs ah;rfl
  ·cases hx
 |cH id i off c ao ak=>
  simp only[eo]at hx
  split at hx
  ·rename_i z t n es ah
   obtain⟨b,l,iu,_,rfl⟩:=ak z t n es ah;rfl
  ·cases hx
 |aP id c ao ak=>
  simp only[eo]at hx
  split at hx
  ·rename_i z t n es ah
   rw[ak z t n es ah]
   have:=aX.c7 id _ ah
   cases this with
   |row _ _ _ xs aa=>
    rcases aa.2 with⟨⟨_,av,_⟩,_⟩|⟨g,cap,cur,av,_⟩<;>rw[av]<;>rfl
   |fV _ _ _ aa=>exact aa.one
  ·cases hx
 |fn=>rfl
 |ref=>simp[eo]at hx
 |dF=>simp[eo]at hx
 |top=>simp[eo]at hx
theorem bs.cA{x:aE}{c:Value}(h:bs w ro σ β N x c)(dU:(cA x).all (eo σ)=true)(aX:ho w ro σ β N):
 c.cells.size=(cA x).length∧(∀j y,(Go.aM.cA x)[j]? =some y→bs w ro σ β N y (c.cells.getD j undef))∧∀u∈c.cells.toList,u.oneCell'=true:=by
 cases h with
 |agg cs c ag hc=>
  refine⟨ag,hc,fun u hu=>?_⟩
  obtain⟨j,ai,rfl⟩:=List.mem_iff_getElem.1 hu
  have Oe:j<cs.length:=by simpa[Value.cells,ag]using ai
  have aa:=hc j cs[j] (List.getElem?_eq_getElem Oe)
  have ad:eo σ cs[j]=true:=by
   simp only[Go.aM.cA,List.all_eq_true]at dU;exact dU _ (List.getElem_mem Oe)
  have aq:=BU aX ad aa
  have yu:j<c.size:=by omega
  simpa[Value.cells,yu]using aq
 |au x c hx=>
  have aa:c.cells= #[c]:=by have:=hx.one;cases c<;>simp_all[Value.cells,Value.oneCell']
  refine⟨by simp[aa,Go.aM.cA],fun j y ai=>?_,fun u hu=>?_⟩
  ·cases j with
   |zero=>simp[Go.aM.cA]at ai;subst ai;simpa[aa]using bs.au x c hx
   |succ j=>simp[Go.aM.cA]at ai
  ·simp[aa]at hu;subst hu;exact hx.one
 |tuple cs c ag hc=>simp[Go.aM.cA,eo]at dU
 |top c=>simp[Go.aM.cA,eo]at dU
 |ref id c=>simp[Go.aM.cA,eo]at dU
 |dF id n c=>simp[Go.aM.cA,eo]at dU
 |ptr id off c ao ak=>
  have hx:eo σ (.ptr id off)=true:=by simpa[Go.aM.cA]using dU
  have qK:=BU aX hx (bs.ptr (w:=w) (ro:=ro) id off c ao ak)
  have aa:c.cells= #[c]:=by cases c<;>simp_all[Value.cells,Value.oneCell']
  refine⟨by simp[aa,Go.aM.cA],fun j y ai=>?_,fun u hu=>?_⟩
  ·cases j with
   |zero=>simp[Go.aM.cA]at ai;subst ai;simpa[aa]using bs.ptr id off c ao ak
   |succ j=>simp[Go.aM.cA]at ai
  ·simp[aa]at hu;subst hu;exact qK
 |cH id i off c ao ak=>
  have hx:eo σ (.cH id i off)=true:=by simpa[Go.aM.cA]using dU
  have qK:=BU aX hx (bs.cH (w:=w) (ro:=ro) id i off c ao ak)
  have aa:c.cells= #[c]:=by cases c<;>simp_all[Value.cells,Value.oneCell']
  refine⟨by simp[aa,Go.aM.cA],fun j y ai=>?_,fun u hu=>?_⟩
  ·cases j with
   |zero=>simp[Go.aM.cA]at ai;subst ai;simpa[aa]using bs.cH id i off c ao ak
   |succ j=>simp[Go.aM.cA]at ai
  ·simp[aa]at hu;subst hu;exact qK
 |aP id c ao ak=>
  have hx:eo σ (.aP id)=true:=by simpa[Go.aM.cA]using dU
  have qK:=BU aX hx (bs.aP (w:=w) (ro:=ro) id c ao ak)
  have aa:c.cells= #[c]:=by cases c<;>simp_all[Value.cells,Value.oneCell']
  refine⟨by simp[aa,Go.aM.cA],fun j y ai=>?_,fun u hu=>?_⟩
  ·cases j with
   |zero=>simp[Go.aM.cA]at ai;subst ai;simpa[aa]using bs.aP id c ao ak
   |succ j=>simp[Go.aM.cA]at ai
  ·simp[aa]at hu;subst hu;exact qK
 |fn f p q c d aa ad aq aS=>
  refine⟨by simp[Value.cells,Go.aM.cA],fun j y ai=>?_,fun u hu=>?_⟩
  ·cases j with
   |zero=>simp[Go.aM.cA]at ai;subst ai;simpa[Value.cells]using bs.fn f p q c d aa ad aq aS
   |succ j=>simp[Go.aM.cA]at ai
  ·simp[Value.cells]at hu;subst hu;rfl
end
section
variable {P:Program} {G:a7} {o:Oper} {s:aN}
theorem Of(t:TypeId)(c:Value)(w:World):(newVar t c).run P w= .ok ⟨w.heap.size,0,none⟩ (w.alloc (.cells c.cells t)):=by
 simp[newVar,newRow]
theorem l7.Og{t:TypeId}{cs:List aE}(h: ∀E a w β ro,c9 E G s a w β ro→∃arr:Array Value,(execOp a.eval o).run P w= .ok (.value (.pointer (some ⟨w.heap.size,0,none⟩))) (w.alloc (.cells arr t))∧
      arr.size=cs.length∧∀j x,cs[j]? =some x→bs w ro s.heap β s.next x (arr.getD j undef))(ae:s.base≤s.next):
    l7 P G o s ({s with heap:=(s.next,.box t cs)::s.heap,next:=s.next+1}.put o.dst (.ptr s.next 0)):=by
  intro E a w ⟨β,ro,af⟩ K Q hK;obtain⟨arr,cU,bK,fk⟩:=h E a w β ro af;unfold Oper.wp;rw[cU]
  have k6:aF s.heap s.next=none:=by
    cases ah:aF s.heap s.next with
    |none=>rfl
    |some p=>have:=af.trans.new _ _ ah;omega
  have gi:c9 E G {s with heap:=(s.next,.box t cs)::s.heap,next:=s.next+1} a (w.alloc (.cells arr t)) (hq β s.next (.pointer (some ⟨w.heap.size,0,none⟩))) ro:=by
    refine af.new s.next k6 ae (Nat.le_refl _) _ _ rfl rfl rfl (by simp) (fun b ae=>Go.RowKit.Below.heap_alloc w _ b ae) (fun b ae=>by simp[cf]at ae;omega) rfl ?_
    refine .box t cs w.heap.size arr (eA _ _ _) (heap_alloc_new w _) bK fun j x ai=>?_
    have hx:=fk j x ai
    have cc: ∀b,ro b→(w.alloc (.cells arr t)).heap[b]? =w.heap[b]? :=fun b ae=>Go.RowKit.Below.heap_alloc w _ b (af.heap.lt b ae)
    clear ai fk;generalize arr.getD j undef=c at hx
    induction hx with
    |au x c hx=>exact .au x c (hx.keep cc fun _ h=>h)
    |agg cs c ag _ aR=>exact .agg cs c ag aR
    |tuple cs c ag _ aR=>exact .tuple cs c ag aR
    |ptr k off c ao ak=>
      have aj:k≠s.next:=by omega
      exact .ptr k off c (by omega) fun t cs bg=>by rw[cL _ _ aj];simp only[aF,if_neg (Ne.symm aj)]at bg;exact ak t cs bg
    |dF k off c ao ak=>
      have aj:k≠s.next:=by omega
      exact .dF k off c (by omega) fun t cs bg=>by rw[cL _ _ aj];simp only[aF,if_neg (Ne.symm aj)]at bg;exact ak t cs bg
    |cH k i off c ao ak=>
      have aj:k≠s.next:=by omega
      exact .cH k i off c (by omega) fun z t n es bg=>by rw[cL _ _ aj];simp only[aF,if_neg (Ne.symm aj)]at bg;exact ak z t n es bg
    |aP k c ao ak=>
      have aj:k≠s.next:=by omega
      exact .aP k c (by omega) fun z t n es bg=>by rw[cL _ _ aj];simp only[aF,if_neg (Ne.symm aj)]at bg;exact ak z t n es bg
    |fn f p q c d aa ad _ _ gO gP=>exact .fn f p q c d aa ad gO gP
    |ref k c ao ak=>
      have aj:k≠s.next:=by omega
      exact .ref k c (by omega) fun bF bg=>by rw[cL _ _ aj];simp only[aF,if_neg (Ne.symm aj)]at bg;exact ak bF bg
    |top c=>exact .top c
  refine hK _ _ ⟨_,ro,gi.put o.dst _ _ ?_⟩ fun b ae=>Go.RowKit.Below.heap_alloc w _ b ae
  refine .ptr _ _ _ (Nat.lt_succ_self _) fun bw cs' ah=>⟨w.heap.size,eA _ _ _,rfl⟩
theorem Oh(t:TypeId)(x:Operand)(an:o.op= .box t x)(ae:s.base≤s.next)(dU:(cA (aJ G s x)).all (eo s.heap)=true):
 l7 P G o s ({s with heap:=(s.next,.box t (cA (aJ G s x)))::s.heap,next:=s.next+1}.put o.dst (.ptr s.next 0)):=
 .Og (fun _ a w β ro af=>by
  obtain⟨aa,ad,_⟩:=(af.eval x).cA dU af.heap
  exact⟨(a.eval x).cells,by simp[execOp,an,Instr.box,Of],aa,ad⟩) ae
theorem Oi(t:TypeId)(x:Operand)(an:o.op= .box t x)(ae:s.base≤s.next)(dU:(cA (aJ G s x)).all (eo s.heap)=true):
 eh P G o s ({s with heap:=(s.next,.box t (cA (aJ G s x)))::s.heap,next:=s.next+1}.put o.dst (.ptr s.next 0)):=(Oh t x an ae dU).op
def zeroCells(P:Program)(t:TypeId):Option (List Value):=
 match P.info? t with
 |some i=>match i.zero with
  |some z=>some z.cells.toList
  |none=>none
 |none=>none
theorem yv{t:TypeId}{zs:List Value}(h:zeroCells P t=some zs)(w:World): ∃z:Value,(zeroValue t).run P w= .ok z w∧z.cells=zs.toArray∧∃i,P.info? t=some i∧i.zero=some z:=by
 unfold zeroCells at h
 cases hi:P.info? t with
 |none=>simp[hi]at h
 |some i=>
  cases bu:i.zero with
  |none=>simp[hi,bu]at h
  |some z=>
   simp[hi,bu]at h;exact⟨z,by simp[zeroValue,typeInfo,hi,bu],by rw[←h],i,rfl,bu⟩
theorem Oj(t:TypeId)(an:o.op= .alloc t)(ae:s.base≤s.next){zs:List Value}(bu:zeroCells P t=some zs)(dU:zs.all Value.oneCell'=true):
 l7 P G o s ({s with heap:=(s.next,.box t (zs.map fun z=>.au (.v z)))::s.heap,next:=s.next+1}.put o.dst (.ptr s.next 0)):=
 .Og (fun _ a w β ro af=>by
  obtain⟨z,cU,oz,_⟩:=yv bu w;refine⟨z.cells,by simp[execOp,an,Instr.alloc,cU,Of],by simp[oz],fun j x ai=>?_⟩
  rw[List.getElem?_map]at ai
  cases qL:zs[j]? with
  |none=>simp[qL]at ai
  |some y=>
   simp[qL]at ai;subst ai
   have:y.oneCell'=true:=by
    rw[List.all_eq_true]at dU;exact dU y (List.mem_of_getElem? qL)
   rw[oz]
   simpa[qL]using bs.au (w:=w) (ro:=ro) (σ:=s.heap) (β:=β) (N:=s.next) _ _ (.v y this)) ae
theorem Ok(t:TypeId)(an:o.op= .alloc t)(ae:s.base≤s.next){zs:List Value}(bu:zeroCells P t=some zs)(dU:zs.all Value.oneCell'=true):
 eh P G o s ({s with heap:=(s.next,.box t (zs.map fun z=>.au (.v z)))::s.heap,next:=s.next+1}.put o.dst (.ptr s.next 0)):=(Oj t an ae bu dU).op
end
end Go.aM
namespace Go.aM
open Go
section
variable {P:Program} {G:a7} {o:Oper} {s:aN}
theorem Hm{w w':World}{ro:Nat→Prop}{σ:bA}{β:Nat→Value}{N id:Nat}{t:TypeId}{cs cs':List aE}(hid:aF σ id=some (.box t cs)){x:aE}{c:Value}
 (h:bs w ro σ β N x c)(cc: ∀b,ro b→w'.heap[b]? =w.heap[b]?):bs w' ro (e3 σ id (.box t cs')) β N x c:=by
 refine h.keep cc (fun _ h=>h) (Nat.le_refl _) (fun k t1 aw aj=>?_) (fun k z t1 n es aj=>?_) (fun k bF aj=>?_)
 ·rw[vJ]at aj
  by_cases bo:id=k
  ·subst bo;exact⟨rfl,t,cs,hid⟩
  ·rw[if_neg bo]at aj;exact⟨rfl,t1,aw,aj⟩
 ·rw[vJ]at aj
  by_cases bo:id=k
  ·subst bo;rw[if_pos rfl]at aj;cases aj
  ·rw[if_neg bo]at aj;exact⟨rfl,z,t1,es,aj⟩
 ·rw[vJ]at aj
  by_cases bo:id=k
  ·subst bo;rw[if_pos rfl]at aj;cases aj
  ·rw[if_neg bo]at aj;exact⟨rfl,bF,aj⟩
def ea{α:Type}(cs:List α)(off:Nat)(vs:List α):List α:=cs.take off++(vs++cs.drop (off+vs.length))
theorem px{α:Type}(cs:List α)(off:Nat)(vs:List α)(h:off+vs.length≤cs.length):(ea cs off vs).length=cs.length:=by
 simp[ea];omega
theorem Hn{α β:Type}(R:α→β→Prop)(d:β){cs vs:List α}{xs ys:List β}{off:Nat}(ao:cs.length≤xs.length)(av:vs.length=ys.length)(yw:off+vs.length≤cs.length)
 (aa: ∀j x,cs[j]? =some x→R x (xs.getD j d))(ad: ∀j x,vs[j]? =some x→R x (ys.getD j d)): ∀j x,(ea cs off vs)[j]? =some x→R x ((ea xs off ys).getD j d):=by
 intro j x ai
 unfold ea at*
 by_cases aI:j<off
 ·rw[List.getElem?_append_left (by simp;omega),List.getElem?_take,if_pos aI]at ai
  have:=aa j x ai
  rw[List.getD,List.getElem?_append_left (by simp;omega),List.getElem?_take,if_pos aI]
  exact this
 ·have aA:(cs.take off).length=off:=by simp;omega
  have aW:(xs.take off).length=off:=by simp;omega
  rw[List.getElem?_append_right (by omega),aA]at ai
  rw[List.getD,List.getElem?_append_right (by omega),aW]
  by_cases ae:j-off<vs.length
  ·rw[List.getElem?_append_left ae]at ai
   rw[List.getElem?_append_left (by omega)]
   exact ad _ _ ai
  ·rw[List.getElem?_append_right (by omega),List.getElem?_drop]at ai
   rw[List.getElem?_append_right (by omega),List.getElem?_drop]
   have cr:off+vs.length+(j-off-vs.length)=j:=by omega
   have eD:off+ys.length+(j-off-ys.length)=j:=by omega
   rw[cr]at ai;rw[eD];exact aa j x ai
theorem Ol(t:TypeId)(b off:Nat)(c:Value)(w:World)(bt:TypeId)(arr:Array Value)(ah:w.heap[b]? =some (.cells arr bt (0,0)))(bK:(P.info? t).map (·.size)=some c.cells.size)
 (r6:off+c.cells.size≤arr.size)(aa: ∀u∈c.cells.toList,u.oneCell'=true):
 (Instr.storeAt t (.pointer (some ⟨b,off,none⟩)) c).run P w= .ok () (w.setRow b (ea arr.toList off c.cells.toList).toArray):=by
 have dN:=run_storeCells_at P b off bt c.cells.toList 0 arr w ah (by simpa using r6) aa
 cases hi:P.info? t with
 |none=>simp[hi]at bK
 |some i=>
  have ag:i.size=c.cells.size:=by simpa[hi]using bK
  simp only[Nat.add_zero,List.append_assoc]at dN;simp only[Instr.storeAt,Instr.sureAddr,storeVar,sizeOf,typeInfo,Sem.run_bind,Sem.run_pure,Result.andThen_ok,ea];simp[hi,ag,dN]
theorem Om(t:TypeId)(p x:Operand)(an:o.op= .store t p x){id off:Nat}(ak:aJ G s p= .ptr id off){bt:TypeId}{cs:List aE}(hid:aF s.heap id=some (.box bt cs))
 {vs:List aE}(av:cA (aJ G s x)=vs)(dU:vs.all (eo s.heap)=true)(bK:(P.info? t).map (·.size)=some vs.length)(r6:off+vs.length≤cs.length):
 eh P G o s ({s with heap:=e3 s.heap id (.box bt (ea cs off vs))}.put o.dst .top):=by
 intro E a w ⟨β,ro,af⟩ K Q hK
 subst av
 obtain⟨aa,ad,aq⟩:=(af.eval x).cA dU af.heap
 have ud:=af.eval p
 rw[ak]at ud
 have du:=af.heap.c7 id _ hid
 cases du with
 |box _ _ b arr ae ah XS fk=>
  generalize Ho:a.eval p=gF at ud
  cases ud with
  |ptr _ _ c ao hc=>
   obtain⟨b',hp,rfl⟩:=hc _ _ hid;rw[ae]at hp;simp only[Value.pointer.injEq,Option.some.injEq,Addr.mk.injEq,and_true]at hp;subst hp
   have cU:=Ol (P:=P) t b off (a.eval x) w bt arr ah (by rw[bK,aa]) (by omega) aq
   unfold Oper.wp;simp only[execOp,an,Ho,Sem.run_bind,cU,Result.andThen_ok,Sem.run_pure]
   have kC: ∀k,k<w.heap.size→cf (β id)≠some k→(w.setRow b (ea arr.toList off (a.eval x).cells.toList).toArray).heap[k]? =w.heap[k]? :=fun k _ aj=>
    setRow_other w b k _ (fun e=>aj (by rw[ae,e];rfl))
   have cc: ∀k,ro k→(w.setRow b (ea arr.toList off (a.eval x).cells.toList).toArray).heap[k]? =w.heap[k]? :=fun k aj=>
    kC k (af.heap.lt k aj) fun bc=>af.heap.fz k aj ⟨id,_,hid,rfl,bc⟩
   refine hK _ _ ⟨β,ro,(af.write (w':=w.setRow b (ea arr.toList off (a.eval x).cells.toList).toArray) id _ (.box bt (ea cs off (cA (aJ G s x)))) hid rfl rfl (.inl ⟨_,_,_,rfl,rfl⟩) rfl rfl rfl (by simp) kC ?_).put o.dst _ _ (.top _)⟩
   refine .box bt _ b _ ae (setRow_heap w b arr _ bt (0,0) ah) ?_ fun j y ai=>?_
   ·rw[List.size_toArray,px _ _ _ (by simp only[Array.length_toList];omega),px _ _ _ r6,Array.length_toList,XS]
   ·have ag:=Hn (bs w ro s.heap β s.next) undef (cs:=cs) (vs:=cA (aJ G s x)) (xs:=arr.toList) (ys:=(a.eval x).cells.toList) (off:=off) (by simp only[Array.length_toList];omega) (by simp only[Array.length_toList];omega) r6
     (fun j x ai=>by have:=fk j x ai;simpa[Array.getD_eq_getD_getElem?,List.getD]using this)
     (fun j x ai=>by have:=ad j x ai;simpa[Array.getD_eq_getD_getElem?,List.getD]using this) j y ai
    have e8:=Hm (cs':=ea cs off (cA (aJ G s x))) hid ag cc
    simpa[Array.getD_eq_getD_getElem?,List.getD]using e8
def iw:List aE→Option (List bh)
 |[]=>some []
 | .au x::r=>match iw r with
  |some l=>some (x::l)
  |none=>none
 |_::_=>none
theorem BV: ∀{vs:List aE} {l:List bh},iw vs=some l→vs=l.map .au
 |[],l,h=>by simp[iw]at h;subst h;rfl
 | .au x::r,l,h=>by
  simp only[iw]at h
  cases af:iw r with
  |none=>simp[af]at h
  |some eW=>
   simp[af]at h;subst h;simp[BV af]
 | .agg _::_,_,h=>by simp[iw]at h
 | .tuple _::_,_,h=>by simp[iw]at h
 | .ptr _ _::_,_,h=>by simp[iw]at h
 | .dF _ _::_,_,h=>by simp[iw]at h
 | .cH _ _ _::_,_,h=>by simp[iw]at h
 | .aP _::_,_,h=>by simp[iw]at h
 | .fn _ _ _::_,_,h=>by simp[iw]at h
 | .ref _::_,_,h=>by simp[iw]at h
 | .top::_,_,h=>by simp[iw]at h
theorem On{α:Type}{n:Nat}: ∀{es:List (List α)},(∀e∈es,e.length=n)→∀{i:Nat} {e ax:List α},es[i]? =some e→ax.length=n→(es.set i ax).flatten=es.flatten.take (i*n)++(ax++es.flatten.drop (i*n+n))
 |[],_,i,e,ax,h,_=>by simp at h
 |x::r,hn,i,e,ax,h,he=>by
  have hx:x.length=n:=hn x (by simp)
  cases i with
  |zero=>simp[hx]
  |succ i=>
   simp at h
   have aR:=On (es:=r) (fun e he=>hn e (by simp[he])) h he
   simp only[List.set_cons_succ,List.flatten_cons,aR]
   have aA:(i+1)*n=x.length+i*n:=by rw[Nat.succ_mul];omega
   have aW:(i+1)*n+n=x.length+(i*n+n):=by rw[Nat.succ_mul];omega
   have cr:x.length+(i*n+n)-x.length=i*n+n:=by omega
   have eD:x.length+i*n-x.length=i*n:=by omega
   rw[aW,aA,List.take_append,List.drop_append,cr,eD,List.take_of_length_le (l:=x) (by omega),List.drop_of_length_le (l:=x) (by omega)]
   simp
theorem XT{α:Type}(l:List α)(p n k:Nat)(vs:List α)(e:List α)(he:e.length=n)(ao: ∀j,j<n→l[p+j]? =e[j]?)(aj:k+vs.length≤n)(ak:p+n≤l.length):
 ea l (p+k) vs=l.take p++(ea e k vs++l.drop (p+n)):=by
 apply List.ext_getElem?
 intro j
 have ag:(ea e k vs).length=n:=by rw[px _ _ _ (by omega),he]
 unfold ea at*
 by_cases aa:j<p
 ·rw[List.getElem?_append_left (by simp;omega),List.getElem?_take,if_pos (by omega),List.getElem?_append_left (by simp;omega),List.getElem?_take,if_pos aa]
 ·have aA:(l.take p).length=p:=by simp;omega
  have aW:(l.take (p+k)).length=p+k:=by simp;omega
  rw[List.getElem?_append_right (l₁:=l.take p) (by omega),aA]
  by_cases ad:j<p+k
  ·rw[List.getElem?_append_left (by omega),List.getElem?_take,if_pos ad,List.getElem?_append_left (by omega),List.getElem?_append_left (by simp;omega),List.getElem?_take,if_pos (by omega),←ao _ (by omega)]
   congr 1;omega
  ·rw[List.getElem?_append_right (by omega),aW]
   have cr:(e.take k).length=k:=by simp;omega
   by_cases aq:j<p+k+vs.length
   ·rw[List.getElem?_append_left (by omega),List.getElem?_append_left (by omega),List.getElem?_append_right (by omega),cr,List.getElem?_append_left (by omega)]
    congr 1;omega
   ·rw[List.getElem?_append_right (by omega),List.getElem?_drop]
    by_cases aS:j<p+n
    ·rw[List.getElem?_append_left (by omega),List.getElem?_append_right (by omega),cr,List.getElem?_append_right (by omega),List.getElem?_drop,←ao _ (by omega)]
     congr 1;omega
    ·rw[List.getElem?_append_right (by omega),ag,List.getElem?_drop]
     congr 1;omega
theorem XU{α:Type}(l:List α)(off m:Nat)(ys:List α)(h:off+ys.length≤m)(hm:m≤l.length):(ea l off ys).take m=ea (l.take m) off ys:=by
 have aA:min m off=off:=by omega
 have aW:min off m=off:=by omega
 have cr:min off l.length=off:=by omega
 have eD:List.take (m-off) ys=ys:=List.take_of_length_le (by omega)
 have n7:m-off-ys.length=m-(off+ys.length):=by omega
 simp only[ea,List.take_append,List.take_take,List.length_take,List.drop_take,aA,aW,cr,eD,n7]
theorem Oo(t:TypeId)(p x:Operand)(an:o.op= .store t p x){id i off:Nat}(ak:aJ G s p= .cH id i off){bt:TypeId}{n:Nat}{es:List (List bh)}(hid:aF s.heap id=some (.row false bt n es))
 {e:List bh}(ou:es[i]? =some e){vs:List bh}(av:iw (cA (aJ G s x))=some vs)(bK:(P.info? t).map (·.size)=some vs.length)(r6:off+vs.length≤n):
 eh P G o s ({s with heap:=e3 s.heap id (.row false bt n (es.set i (ea e off vs)))}.put o.dst .top):=by
 intro E a w ⟨β,ro,af⟩ K Q hK
 have Oq:=BV av
 have dU:(cA (aJ G s x)).all (eo s.heap)=true:=by rw[Oq];simp[List.all_eq_true,eo]
 obtain⟨aa,ad,aq⟩:=(af.eval x).cA dU af.heap
 rw[Oq]at aa ad
 rw[List.length_map]at aa
 have ud:=af.eval p
 rw[ak]at ud
 have du:=af.heap.c7 id _ hid
 cases du with
 |row _ _ _ xs jt hn fk=>
  generalize Ho:a.eval p=gF at ud
  cases ud with
  |cH _ _ _ c ao hc=>
   obtain⟨b,l,iu,ae,rfl⟩:=hc _ _ _ _ hid
   have zdF:=jt
   rw[ae]at jt;obtain⟨BS,mC⟩:=jt
   rcases mC with⟨⟨_,h,_⟩,bu⟩|⟨g,cap,cur,Ot,Ou,ah,hle,iS,fA,lD⟩
   ·have:=(List.getElem?_eq_some_iff.1 ou).1;omega
   ·simp only[Value.slice.injEq,Option.some.injEq,Addr.mk.injEq,and_true]at Ot
    obtain⟨rfl,rfl,rfl⟩:=Ot
    have nM:e.length=n:=hn e (List.mem_of_getElem? ou)
    have XV:i<es.length:=(List.getElem?_eq_some_iff.1 ou).1
    have Hp:i*n+n≤es.length*n:=by rw[←Nat.succ_mul];exact Nat.mul_le_mul_right n XV
    have zdG:es.length*n≤iu*n:=Nat.mul_le_mul_right n hle
    have cU:=Ol (P:=P) t b (i*n+off) (a.eval x) w bt cur ah (by rw[bK,aa]) (by omega) aq
    unfold Oper.wp;simp only[execOp,an,Ho,Sem.run_bind,cU,Result.andThen_ok,Sem.run_pure]
    have kC: ∀k,k<w.heap.size→cf (β id)≠some k→(w.setRow b (ea cur.toList (i*n+off) (a.eval x).cells.toList).toArray).heap[k]? =w.heap[k]? :=fun k _ aj=>
     setRow_other w b k _ (fun e=>aj (by rw[ae,e];simp[cf,Nat.ne_of_gt Ou]))
    have cc: ∀k,ro k→(w.setRow b (ea cur.toList (i*n+off) (a.eval x).cells.toList).toArray).heap[k]? =w.heap[k]? :=fun k aj=>
     kC k (af.heap.lt k aj) fun bc=>af.heap.fz k aj ⟨id,_,hid,rfl,bc⟩
    have vM:(ea e off vs).length=n:=by rw[px _ _ _ (by omega),nM]
    refine hK _ _ ⟨β,ro,(af.write (w':=w.setRow b (ea cur.toList (i*n+off) (a.eval x).cells.toList).toArray) id _ (.row false bt n (es.set i (ea e off vs))) hid rfl rfl (.inr (.inl ⟨_,_,_,_,rfl,rfl⟩)) rfl rfl rfl (by simp) kC ?_).put o.dst _ _ (.top _)⟩
    have qM:(a.eval x).cells.toList.length=vs.length:=by simpa using aa
    refine .row bt n _ (ea xs (i*n+off) (a.eval x).cells.toList) ?_ (fun ax lF=>?_) (fun j y ai=>?_)
    ·rw[ae,List.length_set]
     refine⟨by rw[px _ _ _ (by omega)];exact BS,.inr ⟨b,iu,_,rfl,Ou,setRow_heap w b cur _ bt (0,0) ah,hle,iS,?_,?_⟩⟩
     ·rw[List.size_toArray,px _ _ _ (by simp;omega)];simpa using fA
     ·show List.take (es.length*n) (ea cur.toList (i*n+off) (a.eval x).cells.toList)=_
      rw[XU _ _ _ _ (by omega) (by simp;omega),lD]
    ·rcases List.mem_or_eq_of_mem_set lF with h|h
     ·exact hn ax h
     ·rw[h];exact vM
    ·rw[On hn ou vM,←XT es.flatten (i*n) n off vs e nM (fun j ai=>qH hn ou j ai) r6 (by rw[jS hn];exact Hp)]at ai
     have ag:=Hn (dt w ro) undef (cs:=es.flatten) (vs:=vs) (xs:=xs) (ys:=(a.eval x).cells.toList) (off:=i*n+off) (by rw[jS hn];omega) (by omega) (by rw[jS hn];omega)
      (fun j x ai=>fk j x ai)
      (fun j y ai=>by
       have:=ad j (.au y) (by simp[ai])
       cases this with
       |au _ _ h=>simpa[Array.getD_eq_getD_getElem?,List.getD]using h) j y ai
     exact ag.keep cc fun _ h=>h
end
end Go.aM
namespace Go.aM
open Go
def bq(a b:ByteArray):Bool:=a.data.toList==b.data.toList
theorem El(a b:ByteArray):bq a b=decide (a=b):=by
 unfold bq
 obtain⟨⟨x⟩⟩:=a
 obtain⟨⟨y⟩⟩:=b
 rw[Bool.eq_iff_iff]
 simp
theorem Ov(a b:ByteArray):(a.toList==b.toList)=bq a b:=by rw[ByteArray.toList_eq,ByteArray.toList_eq];rfl
@[simp] theorem xU{a b:ByteArray}:bq a b=true↔a=b:=by rw[El];simp
@[simp] theorem tB{a b:ByteArray}:bq a b=false↔a≠b:=by rw[El];simp
@[simp] theorem xu(a:ByteArray):bq a a=true:=by simp
def qN(a b:ByteArray):Bool:=Op.bytesLess a.data.toList b.data.toList
theorem XW(a b:ByteArray):Op.bytesLess a.toList b.toList=qN a b:=by rw[ByteArray.toList_eq,ByteArray.toList_eq];rfl
def BW(op:BinOp)(a b:Int):Option Value:=
 match op with
 | .eql=>some (.bool (a==b))
 | .neq=>some (.bool (a != b))
 | .lss=>some (.bool (decide (a<b)))
 | .leq=>some (.bool (decide (a≤b)))
 | .gtr=>some (.bool (decide (a>b)))
 | .geq=>some (.bool (decide (a≥b)))
 |_=>none
def jU(op:BinOp):Value→Value→Option Value
 | .int k a,.int br b=>
  match op with
  | .shl=>if b<0 then none else some (.int k (k.wrap (a*2^(min b.toNat k.bits))))
  | .shr=>if b<0 then none else some (.int k (a.fdiv (2^(min b.toNat k.bits))))
  |op=>if k=br then match op with
   | .add=>some (.int k (k.wrap (a+b)))
   | .sub=>some (.int k (k.wrap (a-b)))
   | .mul=>some (.int k (k.wrap (a*b)))
   | .quo=>if b=0 then none else some (.int k (k.wrap (a.tdiv b)))
   | .rem=>if b=0 then none else some (.int k (a.tmod b))
   |op=>BW op a b
   else none
 | .string a,.string b=>
  match op with
  | .add=>if((a.size+b.size:Nat):Int)>IntKind.i64.max then none else some (.string (a++b))
  | .eql=>some (.bool (bq a b))
  | .neq=>some (.bool (!bq a b))
  | .lss=>some (.bool (qN a b))
  | .leq=>some (.bool (qN a b||bq a b))
  | .gtr=>some (.bool (!(qN a b||bq a b)))
  | .geq=>some (.bool (!qN a b))
  |_=>none
 |_,_=>none
theorem XX {P : Program} {op : BinOp} {x y c : Value} (h : jU op x y = some c) (t : TypeId) (p q : Operand) (w : World) :
    (eqGuard op t p q x y).run P w = .ok () w ∧ (binOp op t x y).run P w = .ok c w ∧ c.oneCell' = true := by
  cases x with
  | int k a =>
    cases y with
    | int br b =>
      simp only [jU] at h; refine ⟨by rw [eqGuard_at_int]; rfl, ?_⟩
      cases op
      all_goals first
        | (simp only at h
           split at h
           · cases h
           · rename_i hn
             simp only [Option.some.injEq] at h; subst h; refine ⟨?_, rfl⟩
             simp [binOp, Op.shift, hn]; done)
        | (simp only at h
           split at h
           · rename_i aj
             subst aj
             first
               | (simp only [Option.some.injEq, BW] at h; subst h; exact ⟨by simp [binOp, Op.intArith, Op.intCmp], rfl⟩)
               | (split at h
                  · cases h
                  · rename_i bu
                    simp only [Option.some.injEq] at h; subst h
                    exact ⟨by simp [binOp, Op.intDiv, bu], rfl⟩)
               | (simp [BW] at h; done)
           · cases h)
    | _ => simp [jU] at h
  | string a =>
    cases y with
    | string b =>
      simp only [jU] at h; refine ⟨by rw [eqGuard_at_string]; rfl, ?_⟩
      cases op <;> simp only at h
      all_goals first
        | cases h; done
        | (split at h
           · cases h
           · rename_i hn
             simp only [Option.some.injEq] at h; subst h
             exact ⟨by simp only [binOp_string_add, Op.stringOp, hn, if_false]; rfl, rfl⟩)
        | (simp only [Option.some.injEq] at h; subst h; exact ⟨by simp only [binOp, Op.stringOp, Ov, XW]; rfl, rfl⟩)
    | _ => simp [jU] at h
  | _ => simp [jU] at h
section
variable {P:Program} {G:a7} {o:Oper} {s:aN}
theorem bs.val{w:World}{ro:Nat→Prop}{σ:bA}{β:Nat→Value}{N:Nat}{x c:Value}(h:bs w ro σ β N (.au (.v x)) c):c=x:=by
 cases h with
 |au _ _ h=>cases h;rfl
theorem c9.ep{E:Entry}{a:Act}{w:World}{β:Nat→Value}{ro:Nat→Prop}(h:c9 E G s a w β ro){x:Operand}{v:Value}(hx:aJ G s x= .au (.v v)):a.eval x=v:=
 bs.val (hx ▸ h.eval x)
theorem bs.fO{w:World}{ro:Nat→Prop}{σ:bA}{β:Nat→Value}{N:Nat}{c:Value}(h:c.oneCell'=true):bs w ro σ β N (.au (.v c)) c:=.au _ _ (.v _ h)
theorem oA(op:BinOp)(cl ty:TypeId)(x y:Operand)(an:o.op= .binOp op cl x y ty){u v c:Value}(hx:aJ G s x= .au (.v u))(az:aJ G s y= .au (.v v))(hc:jU op u v=some c):
 cV P G o s (.au (.v c)):=
 fun _ a w β ro af=>by
  obtain⟨aa,ad,aq⟩:=XX (P:=P) hc cl x y w;exact⟨c,by simp[execOp,an,af.ep hx,af.ep az,aa,ad],.fO aq⟩
theorem Ow(cl ty:TypeId)(x y:Operand)(an:o.op= .binOp .eql cl x y ty)(aG:P.underlying cl=some .bool){u v:Bool}(hx:aJ G s x= .au (.v (.bool u)))(az:aJ G s y= .au (.v (.bool v))):
 cV P G o s (.au (.v (.bool (u==v)))):=
 fun _ a w β ro af=>⟨.bool (u==v),by simp[execOp,an,af.ep hx,af.ep az,eqGuard_at_bool,run_eql_bool w cl u v aG],.fO rfl⟩
theorem Ox(cl ty:TypeId)(x y:Operand)(an:o.op= .binOp .neq cl x y ty)(aG:P.underlying cl=some .bool){u v:Bool}(hx:aJ G s x= .au (.v (.bool u)))(az:aJ G s y= .au (.v (.bool v))):
 cV P G o s (.au (.v (.bool (!(u==v))))):=
 fun _ a w β ro af=>⟨.bool (!(u==v)),by simp[execOp,an,af.ep hx,af.ep az,eqGuard_at_bool,run_neq_bool w cl u v aG],.fO rfl⟩
def mW:Value→Value→Option Bool
 | .int k a,.int br b=>if k=br then some (a==b)else none
 | .bool a,.bool b=>some (a==b)
 | .string a,.string b=>some (bq a b)
 |_,_=>none
def qO(P:Program)(t:TypeId):Value→Bool
 | .int k _=>match P.underlying t with
  |some (.int br)=>decide (k=br)
  |_=>false
 | .bool _=>match P.underlying t with
  |some .bool=>true
  |_=>false
 | .string _=>match P.underlying t with
  |some .string=>true
  |_=>false
 |_=>false
def Oy(e:TypeId)(c i:Nat):Field:={(default:Field)with name:= "e",type:=e,offset:=i*c}
theorem Hq(d:Nat)(e:TypeId)(c:Nat)(X Y:Array Value): ∀(is:List Nat),Op.eqFields d X Y (is.map (Oy e c))=Op.eqItems d e c X Y is
 |[]=>rfl
 |i::is=>by
  simp only[List.map_cons,Op.eqFields,Op.eqItems,Hq d e c X Y is];rfl
def mX(P:Program)(t:TypeId):Option (List Field):=
 match P.underlying t with
 |some (.struct fs)=>if P.stoodInHeld t||P.eqGuardType P.depth t then none else some fs.toList
 |some (.array n e)=>match P.info? e with
  |some _=>if P.eqGuardType P.depth t then none else some ((List.range n).map (Oy e (P.cellsOf e)))
  |none=>none
 |_=>none
theorem XY{P:Program}{t:TypeId}{gs:List Field}(h:mX P t=some gs)(D:Nat)(p q:Array Value)(w:World):
 (Op.equalIn (D+1) t (.agg p) (.agg q)).run P w=(Op.eqFields D p q gs).run P w∧(isAgg t).run P w= .ok true w:=by
 unfold mX at h
 split at h
 ·rename_i BX hu
  split at h
  ·cases h
  ·rename_i hc
   simp only[Bool.or_eq_true,not_or,Bool.not_eq_true]at hc;simp only[Option.some.injEq]at h;subst h
   have py:P.fieldsOf t=BX:=by simp[Program.fieldsOf,hu]
   exact⟨by rw[run_equalIn_struct w D t p q (by rw[py];exact hu) hc.1,py],by simp[isAgg,run_underlying hu]⟩
 ·rename_i n e hu
  split at h
  ·rename_i inf vN
   split at h
   ·cases h
   ·simp only[Option.some.injEq]at h
    subst h;exact⟨by rw[run_equalIn_array w D p q hu vN,←Hq],by simp[isAgg,run_underlying hu]⟩
  ·cases h
 ·cases h
def pz(P:Program):Nat→Nat→List Field→List Value→List Value→Option Bool
 |0,_,_,_,_=>none
 |_+1,_,[],_,_=>some true
 |d+1,k,f::fs,xs,ys=>
  if f.name= "_" ||f.offset != k then none
  else match mX P f.type with
   |some gs=>match P.info? f.type with
    |some inf=>match pz P d 0 gs (xs.take inf.size) (ys.take inf.size),pz P d (k+inf.size) fs (xs.drop inf.size) (ys.drop inf.size)with
     |some a,some b=>some (a&&b)
     |_,_=>none
    |none=>none
   |none=>match xs,ys with
    |x::xs,y::ys=>if qO P f.type x then match mW x y,pz P d (k+1) fs xs ys with
     |some a,some b=>some (a&&b)
     |_,_=>none
     else none
    |_,_=>none
def yx(P:Program)(k:Nat)(fs:List Field)(xs ys:List Value):Option Bool:=pz P 64 k fs xs ys
theorem XZ{t:TypeId}{x y:Value}{b:Bool}(h:mW x y=some b)(hf:qO P t x=true)(d:Nat)(w:World):(Op.equalIn (d+1) t x y).run P w= .ok b w∧x.oneCell'=true∧y.oneCell'=true∧(isAgg t).run P w= .ok false w:=by
 cases x with
 |int k a=>
  cases y with
  |int br b'=>
   simp only[mW]at h
   split at h
   ·rename_i aj
    subst aj;simp only[Option.some.injEq]at h;subst h;simp only[qO]at hf
    split at hf
    ·rename_i ix hu
     exact⟨run_equalIn_int w d t k ix a b' hu,rfl,rfl,by simp[isAgg,run_underlying hu]⟩
    ·cases hf
   ·cases h
  |_=>simp[mW]at h
 |bool a=>
  cases y with
  |bool b'=>
   simp only[mW,Option.some.injEq]at h;subst h;simp only[qO]at hf
   split at hf
   ·rename_i hu
    exact⟨run_equalIn_bool w d t a b' hu,rfl,rfl,by simp[isAgg,run_underlying hu]⟩
   ·cases hf
  |_=>simp[mW]at h
 |string a=>
  cases y with
  |string b'=>
   simp only[mW,Option.some.injEq]at h;subst h;simp only[qO]at hf
   split at hf
   ·rename_i hu
    refine⟨?_,rfl,rfl,by simp[isAgg,run_underlying hu]⟩
    rw[run_equalIn_string w d t a b' hu,Ov]
   ·cases hf
  |_=>simp[mW]at h
 |_=>simp[mW]at h
theorem Oz{xs:List Value}{X:Array Value}{k n:Nat}(hs: ∀j x,xs[j]? =some x→X[k+j]? =some x): ∀j x,(xs.take n)[j]? =some x→(X.extract k (k+n))[0+j]? =some x:=by
 intro j x ai
 rw[List.getElem?_take]at ai
 split at ai
 ·rename_i ov
  have:=hs j x ai
  rw[Nat.zero_add,Array.getElem?_extract]
  have bB:k+j<X.size:=(Array.getElem?_eq_some_iff.1 this).1
  rw[if_pos (by omega)]
  exact this
 ·cases ai
theorem BY: ∀(d:Nat) (fs:List Field) (k:Nat) (xs ys:List Value) (X Y:Array Value) (b:Bool) (D:Nat) (w:World),pz P d k fs xs ys=some b→d≤D→(∀j x,xs[j]? =some x→X[k+j]? =some x)→(∀j y,ys[j]? =some y→Y[k+j]? =some y)→
 (Op.eqFields D X Y fs).run P w= .ok b w
 |0,_,k,xs,ys,X,Y,b,D,w,h,_,_,_=>by simp[pz]at h
 |d+1,[],k,xs,ys,X,Y,b,D,w,h,_,hs,oB=>by
  simp[pz]at h;subst h;simp[Op.eqFields]
 |d+1,f::fs,k,xs,ys,X,Y,b,0,w,h,l9,_,_=>by omega
 |d+1,f::fs,k,xs,ys,X,Y,b,D+1,w,h,l9,hs,oB=>by
  unfold pz at h
  split at h
  ·cases h
  ·rename_i hc
   simp only[Bool.or_eq_true,decide_eq_true_eq,bne_iff_ne,ne_eq,not_or,Decidable.not_not]at hc;obtain⟨vO,yw⟩:=hc
   split at h
   ·rename_i gs ah
    split at h
    ·rename_i inf vN
     split at h
     ·rename_i eT gK aa ad
      simp only[Option.some.injEq]at h;subst h
      have hO:=BY d gs 0 _ _ (X.extract k (k+inf.size)) (Y.extract k (k+inf.size)) eT D w aa (by omega) (Oz hs) (Oz oB)
      have lA:=BY d fs (k+inf.size) _ _ X Y gK (D+1) w ad (by omega) (fun j x ai=>by rw[List.getElem?_drop]at ai;have:=hs _ x ai;rwa[show k+(inf.size+j)=k+inf.size+j from by omega]at this) (fun j x ai=>by rw[List.getElem?_drop]at ai;have:=oB _ x ai;rwa[show k+(inf.size+j)=k+inf.size+j from by omega]at this)
      obtain⟨aA,aW⟩:=XY ah D (X.extract k (k+inf.size)) (Y.extract k (k+inf.size)) w
      have fA:P.cellsOf f.type=inf.size:=by simp[Program.cellsOf,vN]
      simp only[Op.eqFields,Sem.run_bind,vO,ne_eq,not_false_eq_true,if_true,part,aW,Result.andThen_ok,run_sizeOf w vN,fA,yw,Sem.run_pure,aA,hO]
      cases eT
      ·simp
      ·simpa using lA
     ·cases h
    ·cases h
   ·split at h
    ·rename_i x Hr y X0
     split at h
     ·rename_i r6
      split at h
      ·rename_i eT gK he af
       simp only[Option.some.injEq]at h;subst h;obtain⟨aa,_,_,aS⟩:=XZ he r6 D w
       have OA:=hs 0 x rfl
       have BZ:=oB 0 y rfl
       have aR:=BY d fs (k+1) Hr X0 X Y gK (D+1) w af (by omega) (fun j x ai=>by have:=hs (j+1) x ai;rwa[show k+(j+1)=k+1+j from by omega]at this) (fun j x ai=>by have:=oB (j+1) x ai;rwa[show k+(j+1)=k+1+j from by omega]at this)
       simp only[Nat.add_zero]at OA BZ;simp only[Op.eqFields,Sem.run_bind,vO,ne_eq,not_false_eq_true,if_true,part,aS,Result.andThen_ok,Bool.false_eq_true,if_false,yw,OA,BZ,Sem.run_pure,aa]
       cases eT
       ·simp
       ·simpa using aR
      ·cases h
     ·cases h
    ·cases h
theorem OB(fs:List Field)(k:Nat)(xs ys:List Value)(X Y:Array Value)(b:Bool)(d:Nat)(w:World)(h:yx P k fs xs ys=some b)(hd:64≤d+1)(hs: ∀j x,xs[j]? =some x→X[k+j]? =some x)(oB: ∀j y,ys[j]? =some y→Y[k+j]? =some y):
 (Op.eqFields (d+1) X Y fs).run P w= .ok b w:=BY 64 fs k xs ys X Y b (d+1) w h hd hs oB
def ha:List aE→Option (List Value)
 |[]=>some []
 | .au (.v x)::r=>match ha r with
  |some l=>some (x::l)
  |none=>none
 |_::_=>none
theorem yy{w:World}{ro:Nat→Prop}{σ:bA}{β:Nat→Value}{N:Nat}: ∀{cs:List aE} {l:List Value} {c:Nat→Value},ha cs=some l→(∀j x,cs[j]? =some x→bs w ro σ β N x (c j))→l.length=cs.length∧∀j x,l[j]? =some x→c j=x
 |[],l,c,h,_=>by simp[ha]at h;subst h;simp
 | .au (.v x)::r,l,c,h,hc=>by
  simp only[ha]at h
  cases af:ha r with
  |none=>simp[af]at h
  |some eW=>
   simp[af]at h;subst h;obtain⟨aa,ad⟩:=yy (c:=fun j=>c (j+1)) af fun j x ai=>hc (j+1) x ai;refine⟨by simp[aa],fun j y ai=>?_⟩
   cases j with
   |zero=>simp at ai;subst ai;exact bs.val (hc 0 _ rfl)
   |succ j=>exact ad j y ai
 | .au (.ptr _)::_,_,_,h,_=>by simp[ha]at h
 | .au (.aP _ _)::_,_,_,h,_=>by simp[ha]at h
 | .agg _::_,_,_,h,_=>by simp[ha]at h
 | .tuple _::_,_,_,h,_=>by simp[ha]at h
 | .ptr _ _::_,_,_,h,_=>by simp[ha]at h
 | .dF _ _::_,_,_,h,_=>by simp[ha]at h
 | .cH _ _ _::_,_,_,h,_=>by simp[ha]at h
 | .aP _::_,_,_,h,_=>by simp[ha]at h
 | .fn _ _ _::_,_,_,h,_=>by simp[ha]at h
 | .ref _::_,_,_,h,_=>by simp[ha]at h
 | .top::_,_,_,h,_=>by simp[ha]at h
theorem OC{t:TypeId}{fs:List Field}(h:mX P t=some fs){cs ds:List aE}{xs ys:List Value}{b:Bool}(nO:ha cs=some xs)(ma:ha ds=some ys)(ae:yx P 0 fs xs ys=some b)
 {w:World}{ro:Nat→Prop}{σ:bA}{β:Nat→Value}{N:Nat}{X Y:Value}(hs:bs w ro σ β N (.agg cs) X)(oB:bs w ro σ β N (.agg ds) Y):
 ∃p q,X= .agg p∧Y= .agg q∧P.eqGuardType P.depth t=false∧(Op.equalIn 10000 t (.agg p) (.agg q)).run P w= .ok b w:=by
 unfold mX at h
 split at h
 ·rename_i BX hu
  split at h
  ·cases h
  ·rename_i hc
   simp only[Bool.or_eq_true,not_or,Bool.not_eq_true]at hc;simp only[Option.some.injEq]at h;subst h
   cases hs with
   |agg _ p ak Hs=>
    cases oB with
    |agg _ q aL Ht=>
     refine⟨p,q,rfl,rfl,hc.2,?_⟩
     have py:P.fieldsOf t=BX:=by simp[Program.fieldsOf,hu]
     rw[run_equalIn_struct w 9999 t p q (by rw[py];exact hu) hc.1,py]
     obtain⟨aa,ad⟩:=yy (c:=fun j=>p.getD j undef) nO Hs;obtain⟨aq,aS⟩:=yy (c:=fun j=>q.getD j undef) ma Ht;refine OB BX.toList 0 xs ys p q b 9998 w ae (by omega) (fun j x ai=>?_) (fun j x ai=>?_)
     ·have bB:j<p.size:=by
       rcases Nat.lt_or_ge j xs.length with h|h
       ·omega
       ·rw[List.getElem?_eq_none h]at ai;cases ai
      have:=ad j x ai
      simp[bB]at this;simp[bB,this]
     ·have bB:j<q.size:=by
       rcases Nat.lt_or_ge j ys.length with h|h
       ·omega
       ·rw[List.getElem?_eq_none h]at ai;cases ai
      have:=aS j x ai
      simp[bB]at this;simp[bB,this]
 ·rename_i n e hu
  split at h
  ·rename_i inf vN
   split at h
   ·cases h
   ·rename_i hc
    simp only[Bool.not_eq_true]at hc;simp only[Option.some.injEq]at h;subst h
    cases hs with
    |agg _ p ak Hs=>
     cases oB with
     |agg _ q aL Ht=>
      refine⟨p,q,rfl,rfl,hc,?_⟩
      rw[run_equalIn_array w 9999 p q hu vN,←Hq];obtain⟨aa,ad⟩:=yy (c:=fun j=>p.getD j undef) nO Hs;obtain⟨aq,aS⟩:=yy (c:=fun j=>q.getD j undef) ma Ht;refine OB _ 0 xs ys p q b 9998 w ae (by omega) (fun j x ai=>?_) (fun j x ai=>?_)
      ·have bB:j<p.size:=by
        rcases Nat.lt_or_ge j xs.length with h|h
        ·omega
        ·rw[List.getElem?_eq_none h]at ai;cases ai
       have:=ad j x ai
       simp[bB]at this;simp[bB,this]
      ·have bB:j<q.size:=by
        rcases Nat.lt_or_ge j ys.length with h|h
        ·omega
        ·rw[List.getElem?_eq_none h]at ai;cases ai
       have:=aS j x ai
       simp[bB]at this;simp[bB,this]
  ·cases h
 ·cases h
theorem OD(cl ty:TypeId)(x y:Operand)(an:o.op= .binOp .eql cl x y ty){fs:List Field}(h:mX P cl=some fs){cs ds:List aE}(hx:aJ G s x= .agg cs)(az:aJ G s y= .agg ds)
 {xs ys:List Value}{b:Bool}(nO:ha cs=some xs)(ma:ha ds=some ys)(ae:yx P 0 fs xs ys=some b):cV P G o s (.au (.v (.bool b))):=
 fun _ a w β ro af=>by
  obtain⟨p,q,aa,ad,aq,aS⟩:=OC h nO ma ae (hx ▸ af.eval x) (az ▸ af.eval y);exact⟨.bool b,by simp only[execOp,an,aa,ad,Sem.run_bind,run_eqGuard_agg w .eql cl x y p q aq,Result.andThen_ok,run_eql_struct,aS,Sem.run_pure],.fO rfl⟩
theorem OE(cl ty:TypeId)(x y:Operand)(an:o.op= .binOp .neq cl x y ty){fs:List Field}(h:mX P cl=some fs){cs ds:List aE}(hx:aJ G s x= .agg cs)(az:aJ G s y= .agg ds)
 {xs ys:List Value}{b:Bool}(nO:ha cs=some xs)(ma:ha ds=some ys)(ae:yx P 0 fs xs ys=some b):cV P G o s (.au (.v (.bool (!b)))):=
 fun _ a w β ro af=>by
  obtain⟨p,q,aa,ad,aq,aS⟩:=OC h nO ma ae (hx ▸ af.eval x) (az ▸ af.eval y);exact⟨.bool (!b),by simp only[execOp,an,aa,ad,Sem.run_bind,run_eqGuard_agg w .neq cl x y p q aq,Result.andThen_ok,run_neq_struct,aS,Sem.run_pure],.fO rfl⟩
theorem OF(t:TypeId)(x:Operand)(an:o.op= .unOp .not t x){b:Bool}(hx:aJ G s x= .au (.v (.bool b))):cV P G o s (.au (.v (.bool (!b)))):=
 fun _ a w β ro af=>⟨.bool (!b),by simp[execOp,an,af.ep hx,Op.unary],.fO rfl⟩
theorem OG(t:TypeId)(x:Operand)(an:o.op= .unOp .neg t x){k:IntKind}{n:Int}(hx:aJ G s x= .au (.v (.int k n))):cV P G o s (.au (.v (.int k (k.wrap (0-n))))):=
 fun _ a w β ro af=>⟨.int k (k.wrap (0-n)),by simp[execOp,an,af.ep hx,Op.unary,Op.intArith],.fO rfl⟩
theorem yz(c x y:Operand)(an:o.op= .pick c x y){b:Bool}(hc:aJ G s c= .au (.v (.bool b))){v:aE}(av:(if b then aJ G s x else aJ G s y)=v):cV P G o s v:=
 fun _ a w β ro af=>⟨if b then a.eval x else a.eval y,by simp[execOp,an,af.ep hc,asBool],by
  subst av
  cases b
  ·simpa using af.eval y
  ·simpa using af.eval x⟩
theorem OH(x:Operand)(i:Nat)(an:o.op= .extract x i){cs:List aE}(hx:aJ G s x= .tuple cs){v:aE}(av:cs[i]? =some v):cV P G o s v:=
 fun _ a w β ro af=>by
  have h:=af.eval x
  rw[hx]at h;generalize he:a.eval x=c at h
  cases h with
  |tuple _ c ag hc=>
   have bB:i<c.size:=by have:=(List.getElem?_eq_some_iff.1 av).1;omega
   refine⟨c[i],?_,?_⟩
   ·simp[execOp,an,Instr.extract,he,bB]
   ·simpa[bB]using hc i v av
end
end Go.aM
