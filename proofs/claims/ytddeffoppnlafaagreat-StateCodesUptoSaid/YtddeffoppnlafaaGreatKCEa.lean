/- CE, part A: closed runs: a call that sees all own blocks of its caller, with one known result. Conditions: none. -/
import Derived.Test.YtddeffoppnlafaaGreatKTDm1
namespace Go.aK
open Go
theorem bA.QR{w w':World}{ro ro':Nat→Prop}{σ cU:Heap}{β cK:Nat→Value}{N mN:Nat}{x:aC}{c:Value}(h:bA w ro σ β N x c)
 (hw: ∀b,ro b→w'.heap[b]? =w.heap[b]?)(cr: ∀b,ro b→ro' b)(me:N≤mN)
 (mO: ∀id,id<N→∀t cs,aE cU id=some (.box t cs)→cK id=β id∧∃t cs,aE σ id=some (.box t cs))
 (dM: ∀id,id<N→∀z t n es,aE cU id=some (.row z t n es)→cK id=β id∧∃z t es,aE σ id=some (.row z t n es))
 (nq: ∀id,id<N→∀bH,aE cU id=some (.bI bH)→cK id=β id∧∃bH,aE σ id=some (.bI bH)):bA w' ro' cU cK mN x c:=by
 induction h with
 |ad x c hx=>exact .ad x c (hx.keep hw cr)
 |agg cs c ao _ aY=>exact .agg cs c ao aY
 |tuple cs c ao _ aY=>exact .tuple cs c ao aY
 |ptr id off c av ar=>
  refine .ptr id off c (by omega) fun t cs ai=>?_
  obtain⟨ag,bh,cs',dQ⟩:=mO id av t cs ai;obtain⟨b,ab,ae⟩:=ar bh cs' dQ;exact⟨b,ag.trans ab,ae⟩
 |dN id off c av ar=>
  refine .dN id off c (by omega) fun t cs ai=>?_
  obtain⟨ag,bh,cs',dQ⟩:=mO id av t cs ai;obtain⟨b,ab,ae⟩:=ar bh cs' dQ;exact⟨b,ag.trans ab,ae⟩
 |dg id i off c av ar=>
  refine .dg id i off c (by omega) fun z t n es ai=>?_
  obtain⟨ag,hs,bh,eD,dQ⟩:=dM id av z t n es ai;obtain⟨b,l,ht,ab,ae⟩:=ar hs bh n eD dQ;exact⟨b,l,ht,ag.trans ab,ae⟩
 |aq id c av ar=>
  refine .aq id c (by omega) fun z t n es ai=>?_
  obtain⟨ag,hs,bh,eD,dQ⟩:=dM id av z t n es ai;rw[ag];exact ar hs bh n eD dQ
 |fn f p q c d ab ae _ _ hv hy=>exact .fn f p q c d ab ae hv hy
 |ref id c av ar=>
  refine .ref id c (by omega) fun bH ai=>?_
  obtain⟨ag,km,dQ⟩:=nq id av bH ai;rw[ag];exact ar km dQ
 |top c=>exact .top c
theorem IG: ∀{σ:Heap} {id:Nat} {o:ec},aE σ id=some o→(id,o)∈σ
 |(k,x)::r,id,o,h=>by
  simp only[aE]at h
  split at h
  ·rename_i an
   cases h;subst an;exact .head _
  ·exact .tail _ (IG h)
def D5:ec→ec→Bool
 | .box _ _,.box _ _=>true
 | .row _ _ n _,.row _ _ m _=>Nat.beq n m
 | .bI _,.bI _=>true
 |_,_=>false
def uf(σ:Heap)(n:Nat):Heap→Bool
 |[]=>true
 |(k,o)::r=>(Nat.ble n k||match aE σ k with
  |some cb=>D5 cb o
  |none=>false)&&uf σ n r
theorem IH{σ:Heap}{n:Nat}: ∀{cc:Heap},uf σ n cc=true→∀{id:Nat} {o:ec},(id,o)∈cc→id<n→∃cb,aE σ id=some cb∧D5 cb o=true
 |(k,x)::r,h,id,o,hm,av=>by
  simp only[uf,Bool.and_eq_true,Bool.or_eq_true]at h
  rcases List.mem_cons.1 hm with q|q
  ·cases q
   rcases h.1 with ab|ab
   ·have:=Nat.le_of_ble_eq_true ab
    omega
   ·split at ab
    ·exact⟨_,by assumption,ab⟩
    ·cases ab
  ·exact IH h.2 q av
def lO(P:Program)(G:aR)(f:FuncId)(args:List aC)(σ:Heap)(n:Nat)(r:aC)(cU:Heap)(bL:Nat):Prop:=
 ∀w β ro (dJ:Array Value),dJ.size=args.length→(∀i x,args[i]? =some x→bA w ro σ β n x (dJ.getD i undef))→gI w ro σ β n→o4 w ro G→(∀id o,aE σ id=some o→id<n)→
  Calls P f dJ w fun e w'=>∃v cK ro',e= .returned v∧bA w' ro' cU cK bL r v∧gI w' ro' cU cK bL∧Trans ⟨w,ro,σ,β,n,[]⟩ w' ro' cU cK bL
theorem Trans.trans{E:Entry}{w w':World}{ro ro':Nat→Prop}{σ cU:Heap}{β cK:Nat→Value}{n bL:Nat}{d:List Deferred}(t:Trans E w ro σ β n)(u:Trans ⟨w,ro,σ,β,n,d⟩ w' ro' cU cK bL):Trans E w' ro' cU cK bL:=by
 have own: ∀b,b<E.w.heap.size→Own σ β b→Own E.σ E.β b:=fun b ag au=>by
  rcases t.fU b au with h|h
  ·exact h
  ·omega
 have ao:=t.size
 refine⟨u.os.trans t.os,u.tape.trans t.tape,u.output.trans t.output,Nat.le_trans t.size u.size,fun b ag gQ=>?_,fun b ag=>?_,fun b ag=>u.gA b (t.gA b ag),fun b ag=>?_,fun id bf o ai=>?_,u.new,Nat.le_trans t.le u.le⟩
 ·exact(u.frame b (Nat.lt_of_lt_of_le ag t.size) fun au=>gQ (own b ag au)).trans (t.frame b ag gQ)
 ·rcases u.hz b ag with h|h|h
  ·exact t.hz b h
  ·rcases t.fU b h with h|h
   ·exact .inr (.inl h)
   ·exact .inr (.inr h)
  ·exact .inr (.inr (Nat.le_trans t.size h))
 ·rcases u.fU b ag with h|h
  ·exact t.fU b h
  ·exact .inr (Nat.le_trans t.size h)
 ·obtain⟨ab,ae⟩:=u.ea id (Nat.lt_of_lt_of_le bf t.le) o ai
  cases aG:aE σ id with
  |none=>exact absurd aG ab
  |some q=>
   obtain⟨g1,g2⟩:=t.ea id bf q aG;exact⟨g1,ae.trans g2⟩
section
variable {P:Program} {G:aR} {s:aQ} {o:Oper}
theorem ep.Y6{f:FuncId}{p q:List aC}{xs:Array Operand}(oa:p2 P G o s f p q xs)(hJ:nr P f=true){r:aC}{cU:Heap}{bL:Nat}
 (hc:lO P G f (p++xs.toList.map (aP G s)++q) s.heap s.next r cU bL)(an:uf s.heap s.next cU=true):ep P G o s (aQ.put ⟨s.db,cU,bL,s.base⟩ o.dst r):=by
 intro E a w ⟨β,ro,h⟩ K Q hK
 obtain⟨c,d,ab,ae,kn,sB,cy⟩:=oa E a w β ro h
 unfold Oper.wp
 rw[cy w,AI hJ]
 have gY:=hc w β ro (c++xs.map a.eval++d) (by simp[ab,ae,Nat.add_assoc]) (fun i y aA=>II (x:=.const undef) (f:=.func f) h ab ae kn sB i y aA) h.heap h.hL h.trans.new
 refine Calls.mono gY fun e w' aG=>?_
 obtain⟨v,cK,ro',rfl,dE,gf,cI⟩:=aG
 have cr: ∀b,ro b→w'.heap[b]? =w.heap[b]? :=fun b ag=>cI.frame b (h.heap.lt b ag) (h.heap.e8 b ag)
 have kind: ∀id cb,id<s.next→aE cU id=some cb→cK id=β id∧∃o,aE s.heap id=some o∧D5 o cb=true:=fun id cb av ai=>by
  obtain⟨o,g1,g2⟩:=IH an (IG ai) av;exact⟨(cI.ea id av cb ai).2,o,g1,g2⟩
 refine hK _ _ ⟨cK,ro',dn.put (s:=⟨s.db,cU,bL,s.base⟩) ⟨h.defers,h.size,fun i x hx=>(h.slot i x hx).QR cr cI.gA cI.le (fun id av t cs ai=>?_) (fun id av z t n es ai=>?_) (fun id av bH ai=>?_),gf,h.hL.keep cr cI.gA,h.trans.trans cI,h.base⟩ o.dst _ _ dE⟩
 ·obtain⟨ab,o,ae,aw⟩:=kind id _ av ai
  cases o with
  |box bh cs'=>exact⟨ab,_,_,ae⟩
  |_=>cases aw
 ·obtain⟨ab,o,ae,aw⟩:=kind id _ av ai
  cases o with
  |row hs bh bL eD=>
   have:=Nat.eq_of_beq_eq_true aw
   subst this;exact⟨ab,_,_,_,ae⟩
  |_=>cases aw
 ·obtain⟨ab,o,ae,aw⟩:=kind id _ av ai
  cases o with
  |bI km=>exact⟨ab,_,ae⟩
  |_=>cases aw
theorem lO.body{f:FuncId}{fn:Func}{c:Code}{args:List aC}{σ:Heap}{n:Nat}{r:aC}{cU:Heap}{bL:Nat}(hf:P.funcs[f]? =some fn)(ag:fn.body=some c)
 (h:b2 P G c (fun e s=>(e= .normal∨e= .ret)∧rk P fn s=some r∧(∀id o,aE cU id=some o→aE s.heap id=some o)∧s.next=bL) ⟨args++List.replicate (fn.ntmps-args.length) .top,σ,n,n⟩):lO P G f args σ n r cU bL:=by
 intro w β ro dJ bT jc aV ai bE
 refine calls_of_wp hf ag (wp_mono (h ⟨w,ro,σ,β,n,[]⟩ _ w ⟨β,ro,rfl,?_,?_,aV,ai,?_,Nat.le_refl _⟩) ?_)
 ·simp[bT]
 ·intro i x hi
  simp only at hi
  by_cases vQ:i<args.length
  ·rw[List.getElem?_append_left vQ]at hi
   have:=jc i x hi
   have ab:i<dJ.size:=by omega
   simpa[Array.getElem?_append_left ab,ab,Array.getElem_append_left ab]using this
  ·rw[List.getElem?_append_right (by omega)]at hi
   rw[List.getElem?_replicate]at hi
   split at hi
   ·simp only[Option.some.injEq]at hi;subst hi;exact .top _
   ·cases hi
 ·exact⟨rfl,rfl,rfl,Nat.le_refl _,fun _ _ _=>rfl,fun _ h=>.inl h,fun _ h=>h,fun _ h=>.inl h,fun id _ o au=>⟨by rw[au];simp,rfl⟩,bE,Nat.le_refl _⟩
 ·intro e bb w' ⟨s',aG,cK,ro',ah⟩
  obtain⟨he,ko,fC,Y7⟩:=aG;subst Y7;obtain⟨v,az,dE⟩:=D6 ah ko
  rcases he with rfl|rfl
  ·exact⟨ah.defers,v,az,v,cK,ro',rfl,dE.sub fC,ah.heap.sub fC,ah.trans.sub fC⟩
  ·exact⟨ah.defers,v,az,v,cK,ro',rfl,dE.sub fC,ah.heap.sub fC,ah.trans.sub fC⟩
end
end Go.aK
