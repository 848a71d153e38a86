/- CE, part H: functions with deferred calls (nothing panics: a recover gives nil). Conditions: none. -/
import Derived.Test.YtddeffoppnlafaaGreatKCEg
import Derived.Recover
namespace Go.aK
open Go
def sN:List (FuncId × Nat)→List Deferred→Prop
 |[],l=>l=[]
 |(g,k)::D,l=>∃c e r,l=⟨.fn (.func g) e,c⟩::r∧c.size+e.size=k∧sN D r
def Rx(P:Program)(G:aR)(g:FuncId)(k:Nat)(σ:Heap)(n:Nat)(cU:Heap)(bL:Nat):Prop:=
 ∀w β ro (dJ:Array Value),dJ.size=k→gI w ro σ β n→o4 w ro G→(∀id o,aE σ id=some o→id<n)→
  CallsD P g dJ .returning w fun e x8 w'=>x8= .returning∧∃v cK ro',e= .returned v∧gI w' ro' cU cK bL∧Trans ⟨w,ro,σ,β,n,[]⟩ w' ro' cU cK bL
def EN(P:Program)(G:aR):List (FuncId × Nat)→Heap→Nat→Heap→Nat→Prop
 |[],σ,n,cU,bL=>cU=σ∧bL=n
 |(g,k)::D,σ,n,cU,bL=>∃JF hM,Rx P G g k σ n JF hM∧nr P g=true∧EN P G D JF hM cU bL
section
variable {P:Program} {G:aR}
theorem Ry{fn:Func}{tmps:Array Value}{R:Ending→World→Prop}{cU:Heap}{bL:Nat}: ∀{D:List (FuncId × Nat)} {l:List Deferred} {w:World} {ro:Nat→Prop} {σ:Heap} {β:Nat→Value} {n:Nat},sN D l→EN P G D σ n cU bL→gI w ro σ β n→o4 w ro G→(∀id o,aE σ id=some o→id<n)→
 (∀w' cK ro',gI w' ro' cU cK bL→Trans ⟨w,ro,σ,β,n,[]⟩ w' ro' cU cK bL→∃v,(results fn tmps).run P w'= .ok v w'∧R (.returned v) w')→Leaves P fn tmps R l .returning w
 |[],l,w,ro,σ,β,n,av,hd,aV,ai,bE,h=>by
  simp only[sN]at av;subst av;obtain⟨rfl,rfl⟩:=hd;exact h w β ro aV ⟨rfl,rfl,rfl,Nat.le_refl _,fun _ _ _=>rfl,fun _ h=>.inl h,fun _ h=>h,fun _ h=>.inl h,fun id _ o au=>⟨by rw[au];simp,rfl⟩,bE,Nat.le_refl _⟩
 |(g,k)::D,l,w,ro,σ,β,n,av,hd,aV,ai,bE,h=>by
  obtain⟨c,e,r,rfl,an,ah⟩:=av;obtain⟨JF,hM,hc,hJ,ux⟩:=hd;refine leaves_cons (f:=g) (args:=c++e) (by simp) (by simp only[invoke];exact AI hJ _ w) (CallsD.mono (hc w β ro (c++e) (by simpa using an) aV ai bE) fun aF x8 w' aG=>?_)
  obtain⟨rfl,v,cK,ro',rfl,gf,cI⟩:=aG
  have cr: ∀b,ro b→w'.heap[b]? =w.heap[b]? :=fun b ag=>cI.frame b (aV.lt b ag) (aV.e8 b ag)
  show Leaves P fn tmps R r .returning w';exact Ry ah ux gf (ai.keep cr cI.gA) cI.new fun dV sO uy ae t2=>h dV sO uy ae (cI.trans t2)
theorem lO.ZH{f:FuncId}{fn:Func}{c:Code}{args:List aC}{σ:Heap}{n:Nat}{r:aC}{cU x9:Heap}{mS:Nat}{D:List (FuncId × Nat)}{s2:aQ}(hf:P.funcs[f]? =some fn)(ag:fn.body=some c)
 (h: ∀E a w,Rel E G ⟨args++List.replicate (fn.ntmps-args.length) .top,σ,n,n⟩ a w→E.d=[]→c.wp P (fun e bb w'=>(e= .normal∨e= .ret)∧∃l,sN D l∧Rel ⟨E.w,E.ro,E.σ,E.β,E.n,l⟩ G s2 bb w') a w)
 (ll:EN P G D s2.heap s2.next x9 mS)(an:uf s2.heap s2.next x9=true)(ko:rk P fn ⟨s2.db,x9,mS,s2.base⟩=some r)(fC: ∀id o,aE cU id=some o→aE x9 id=some o):lO P G f args σ n r cU mS:=by
 intro w β ro dJ bT jc aV ai bE
 refine calls_of_wp_defers hf ag (wp_mono (h ⟨w,ro,σ,β,n,[]⟩ _ w ⟨β,ro,rfl,?_,?_,aV,ai,?_,Nat.le_refl _⟩ rfl) ?_)
 ·simp[bT]
 ·intro i x hi
  simp only at hi
  by_cases vQ:i<args.length
  ·rw[List.getElem?_append_left vQ]at hi
   have:=jc i x hi
   have ab:i<dJ.size:=by omega
   simpa[Array.getElem?_append_left ab,ab,Array.getElem_append_left ab]using this
  ·rw[List.getElem?_append_right (by omega)]at hi
   rw[List.getElem?_replicate]at hi
   split at hi
   ·simp only[Option.some.injEq]at hi;subst hi;exact .top _
   ·cases hi
 ·exact⟨rfl,rfl,rfl,Nat.le_refl _,fun _ _ _=>rfl,fun _ h=>.inl h,fun _ h=>h,fun _ h=>.inl h,fun id _ o au=>⟨by rw[au];simp,rfl⟩,bE,Nat.le_refl _⟩
 ·intro e bb w' ⟨he,l,av,ZI,ZJ,ah⟩
  have Rz:Leaves P fn bb.tmps (fun e w'=>∃v cK ro',e= .returned v∧bA w' ro' cU cK mS r v∧gI w' ro' cU cK mS∧Trans ⟨w,ro,σ,β,n,[]⟩ w' ro' cU cK mS) bb.defers .returning w':=by
   have EO:bb.defers=l:=ah.defers
   rw[EO];refine Ry av ll ah.heap ah.hL ah.trans.new fun dV sO uy ae t2=>?_
   have cr: ∀b,ZJ b→dV.heap[b]? =w'.heap[b]? :=fun b ag=>t2.frame b (ah.heap.lt b ag) (ah.heap.e8 b ag)
   have kind: ∀id cb,id<s2.next→aE x9 id=some cb→sO id=ZI id∧∃o,aE s2.heap id=some o∧D5 o cb=true:=fun id cb av ai=>by
    obtain⟨o,g1,g2⟩:=IH an (IG ai) av;exact⟨(t2.ea id av cb ai).2,o,g1,g2⟩
   have lR:dn ⟨w,ro,σ,β,n,l⟩ G ⟨s2.db,x9,mS,s2.base⟩ bb dV sO uy:=by
    refine⟨EO,ah.size,fun i x hx=>(ah.slot i x hx).QR cr t2.gA t2.le (fun id av t cs ai=>?_) (fun id av z t n es ai=>?_) (fun id av bH ai=>?_),ae,ah.hL.keep cr t2.gA,?_,ah.base⟩
    ·obtain⟨ab,o,ae,aw⟩:=kind id _ av ai
     cases o with
     |box bh cs'=>exact⟨ab,_,_,ae⟩
     |_=>cases aw
    ·obtain⟨ab,o,ae,aw⟩:=kind id _ av ai
     cases o with
     |row hs bh bL eD=>
      have:=Nat.eq_of_beq_eq_true aw
      subst this;exact⟨ab,_,_,_,ae⟩
     |_=>cases aw
    ·obtain⟨ab,o,ae,aw⟩:=kind id _ av ai
     cases o with
     |bI km=>exact⟨ab,_,ae⟩
     |_=>cases aw
    ·have t1:=ah.trans
     have t3:=Trans.trans t1 t2
     exact⟨t3.os,t3.tape,t3.output,t3.size,t3.frame,t3.hz,t3.gA,t3.fU,t3.ea,t3.new,t3.le⟩
   obtain⟨v,az,dE⟩:=D6 lR ko
   have t4:=lR.trans.sub fC
   exact⟨v,az,v,sO,uy,rfl,dE.sub fC,lR.heap.sub fC,⟨t4.os,t4.tape,t4.output,t4.size,t4.frame,t4.hz,t4.gA,t4.fU,t4.ea,t4.new,t4.le⟩⟩
  rcases he with rfl|rfl
  ·exact Rz
  ·exact Rz
def nC(P:Program)(G:aR)(D kW:List (FuncId × Nat))(c:Code)(e:lQ)(s s':aQ):Prop:=
 ∀E a w,Rel E G s a w→sN D E.d→c.wp P (fun ex bb w'=>ex=e.ex∧∃l,sN kW l∧Rel ⟨E.w,E.ro,E.σ,E.β,E.n,l⟩ G s' bb w') a w
theorem nC.of{D:List (FuncId × Nat)}{c:Code}{e:lQ}{s s':aQ}(h:b2 P G c (fun ex st=>ex=e.ex∧st=s') s):nC P G D D c e s s':=fun E a w ah hd=>
 wp_mono (h E a w ah) fun ex bb w' ⟨st,⟨ab,ae⟩,aw⟩=>⟨ab,E.d,hd,by subst ae;exact aw⟩
theorem nC.seq{D oc RA:List (FuncId × Nat)}{x y:Code}{e:lQ}{s s1 s2:aQ}(h:nC P G D oc x .b8 s s1)(k:nC P G oc RA y e s1 s2):nC P G D RA (.seq x y) e s s2:=fun E a w ah hd=>
 wp_seq (wp_mono (h E a w ah hd) fun ex bb w' ⟨ab,l,ae,aw⟩=>by
  subst ab
  exact wp_mono (k ⟨E.w,E.ro,E.σ,E.β,E.n,l⟩ bb w' aw ae) fun ex a2 dV ⟨dp,ya,di,hN⟩=>by
   exact⟨dp,ya,di,hN⟩)
theorem nC.ZK{D oc:List (FuncId × Nat)}{x y:Code}{e:lQ}{s s1:aQ}(he:e≠ .b8)(h:nC P G D oc x e s s1):nC P G D oc (.seq x y) e s s1:=fun E a w ah hd=>
 wp_seq (wp_mono (h E a w ah hd) fun ex bb w' ⟨ab,l,ae,aw⟩=>by
  subst ab
  cases e with
  |b8=>exact absurd rfl he
  |ext id=>exact⟨rfl,l,ae,aw⟩
  |ret=>exact⟨rfl,l,ae,aw⟩)
def JG(G:aR)(o:Oper)(S:bD):Option (FuncId × Nat):=
 match o.op,o.guard with
 | .defer c,none=>match c.callee with
  | .value x=>match fc G S x with
   | .fn (.func f) p q=>some (f,p.length+c.args.size+q.length)
   |_=>none
  |_=>none
 |_,_=>none
theorem ZL{o:Oper}{S:bD}{g:FuncId}{k:Nat}(h:JG G o S=some (g,k)):o.guard=none∧∀E a w,Rel E G S.den a w→∃c e,c.size+e.size=k∧(execOp a.eval o).run P w= .ok (.defer ⟨.fn (.func g) e,c⟩) w:=by
 unfold JG at h
 rw[ui]at h
 split at h
 ·rename_i c au ai
  refine⟨ai,fun E a w ⟨β,ro,ah⟩=>?_⟩
  obtain⟨callee,args,ts⟩:=c;simp only at h
  split at h
  ·rename_i x
   split at h
   ·rename_i f p q hx
    cases h
    have c5:=ah.eval x
    rw[hx]at c5;generalize he:a.eval x=Eh at c5
    cases c5 with
    |fn _ _ _ c d ab ae _ _=>
     refine⟨c++args.map a.eval,d,by simp[ab,ae],?_⟩
     simp only[execOp,au,resolve,he,Deferred.ofValue,Sem.run_bind,Sem.run_pure,Result.andThen_ok]
   ·cases h
  ·cases h
 ·cases h
def Bg(P:Program)(G:aR)(bZ:fe)(ops:Array Oper):List Oper→bD→List (FuncId × Nat)→Option (bD × List (FuncId × Nat))
 |[],S,D=>some (S,D)
 |o::r,S,D=>match JG G o S with
  |some d=>Bg P G bZ ops r (S.put o.dst (.tuple [])) (d::D)
  |none=>match xZ P G bZ ops o S with
   |some aO=>Bg P G bZ ops r aO D
   |none=>none
def ZM(P:Program)(G:aR)(ops:Array Oper)(l:List Oper)(D kW:List (FuncId × Nat))(s s':aQ):Prop:=
 ∀E a w,Rel E G s a w→sN D E.d→∀Q:Exit→Act→World→Prop,(∀bb w' l,sN kW l→Rel ⟨E.w,E.ro,E.σ,E.β,E.n,l⟩ G s' bb w'→Q .normal bb w')→wpList P ops Q l a w
theorem EP{bZ:fe}(e4:hA P G bZ){ops:Array Oper}: ∀{l:List Oper} {S bP:bD} {D kW:List (FuncId × Nat)},Bg P G bZ ops l S D=some (bP,kW)→ZM P G ops l D kW S.den bP.den
 |[],S,bP,D,kW,h=>by
  cases h;exact fun E a w ah hd Q ed=>wpList_nil (ed a w E.d hd ah)
 |o::r,S,bP,D,kW,h=>by
  simp only[Bg]at h;intro E a w ah hd Q ed
  split at h
  ·rename_i d EO
   obtain⟨g,k⟩:=d;obtain⟨ai,cy⟩:=ZL (P:=P) EO;obtain⟨c,e,an,hex⟩:=cy E a w ah;refine wpList_plain ai fun K hK=>?_
   unfold Oper.wp;rw[hex,Oper.upon_defer];refine hK _ _ ?_
   have wc:Rel ⟨E.w,E.ro,E.σ,E.β,E.n,⟨.fn (.func g) e,c⟩::E.d⟩ G (S.put o.dst (.tuple [])).den ({a with defers:=⟨.fn (.func g) e,c⟩::a.defers}.put o.dst undef) w:=by
    rw[h1];refine Rel.x1 ?_ o.dst
    obtain⟨β,ro,kX⟩:=ah;refine⟨β,ro,by rw[kX.defers],kX.size,fun i x hx=>kX.slot i x hx,kX.heap,kX.hL,?_,kX.base⟩
    have t:=kX.trans
    exact⟨t.os,t.tape,t.output,t.size,t.frame,t.hz,t.gA,t.fU,t.ea,t.new,t.le⟩
   exact EP e4 h _ _ _ wc ⟨c,e,E.d,rfl,an,hd⟩ Q fun bb w' l av dF=>ed bb w' l av dF
  ·split at h
   ·rename_i aO ab
    have ao:=Ro e4 ab E a w ah
    refine wpList_step fun K hK=>?_
    rcases ao with⟨hw,ao⟩|⟨hw,ao⟩
    ·rw[if_pos hw]
     exact ao K Q fun bb w' dF _=>hK bb w' (EP e4 h E bb w' dF hd Q ed)
    ·rw[if_neg (by rw[hw];decide)]
     exact hK _ _ (EP e4 h E _ w ao hd Q ed)
   ·cases h
def defers(ops:Array Oper):Bool:=ops.toList.any fun o=>match o.op with
 | .defer _=>true
 |_=>false
def uz(P:Program)(G:aR)(bZ:fe)(rec:Rec):Code→bD→List (FuncId × Nat)→Option (lQ × bD × List (FuncId × Nat))
 | .seq a b,S,D=>match uz P G bZ rec a S D with
  |some (.b8,aO,oc)=>uz P G bZ rec b aO oc
  |r=>r
 | .region id ops mi,S,D=>match defers ops,mi with
  |true,false=>match Bg P G bZ ops ops.toList S D with
   |some (aO,oc)=>some (.b8,aO,oc)
   |none=>none
  |true,true=>none
  |false,_=>match rec (.region id ops mi) S with
   |some (e,aO)=>some (e,aO,D)
   |none=>none
 |c,S,D=>match rec c S with
  |some (e,aO)=>some (e,aO,D)
  |none=>none
theorem ZN{bZ:fe}{rec:Rec}(e4:hA P G bZ)(mT:rr P G rec): ∀{c:Code} {S bP:bD} {D kW:List (FuncId × Nat)} {e:lQ},uz P G bZ rec c S D=some (e,bP,kW)→nC P G D kW c e S.den bP.den:=fun {c}=>by
 have base: ∀{c:Code} {S bP:bD} {D kW:List (FuncId × Nat)} {e:lQ},(match rec c S with
  |some (e,aO)=>some (e,aO,D)
  |none=>none)=some (e,bP,kW)→nC P G D kW c e S.den bP.den:=fun {c S bP D kW e} h=>by
  split at h
  ·rename_i aD aO ab
   cases h;exact nC.of (mT _ _ _ _ ab)
  ·cases h
 induction c with
 |seq a b A6 EA=>
  intro S bP D kW e h;simp only[uz]at h
  split at h
  ·rename_i aO oc ab
   exact nC.seq (A6 ab) (EA h)
  ·rename_i bW
   have bW: ∀aO oc,uz P G bZ rec a S D≠some (.b8,aO,oc):=bW
   refine nC.ZK (fun he=>?_) (A6 h)
   subst he;exact bW _ _ h
 |region id ops mi=>
  intro S bP D kW e h;simp only[uz]at h
  split at h
  ·split at h
   ·rename_i aO oc ab
    cases h;intro E a w ah hd
    have h4:ops=ops.toList.toArray:=by simp
    have:=EP e4 ab E a w ah hd (fun ex bb w'=>ex=lQ.b8.ex∧∃l,sN kW l∧Rel ⟨E.w,E.ro,E.σ,E.β,E.n,l⟩ G bP.den bb w') fun bb w' l av dF=>⟨rfl,l,av,dF⟩
    rw[h4];refine wp_region_lit ?_
    rw[←h4];exact this
   ·cases h
  ·cases h
  ·exact base h
 |_=>
  intro S bP D kW e h;simp only[uz]at h;exact base h
def isRec(o:Oper):Bool:=
 match o.op,o.guard with
 | .call c,none=>match c.callee with
  | .builtin .recover=>c.args.size==0
  |_=>false
 |_,_=>false
theorem ZO{o:Oper}(h:isRec o=true):o.guard=none∧∀(a:Act) (w:World),(execOp a.eval o).run P w= .ok .recover w:=by
 unfold isRec at h
 split at h
 ·rename_i c au ai
  refine⟨ai,fun a w=>?_⟩
  obtain⟨callee,args,ts⟩:=c;simp only at h
  split at h
  ·have aT:args= #[]:=by simpa using h
   subst aT;simp[execOp,au,resolve,invoke,builtin]
  ·cases h
 ·cases h
theorem we{ops:Array Oper}{Q':Exit→Act→World→Prop}{Q:Exit→Act→List Frame→World→Prop}{cs:List Frame}(iI: ¬LetsOut Q')(ed: ∀e a w,Q' e a w→Q e a cs w):
 ∀(l:List Oper) (k:Nat) (a:Act) (w:World),(∀j,l[j]? =ops[k+j]?)→wpList P ops Q' l a w→wpOpsS P ops Q (List.range' k l.length) a cs w
 |[],k,a,w,_,h=>ed _ _ _ h
 |o::r,k,a,w,av,h=>by
  have aS:ops[k]? =some o:=by simpa using (av 0).symm
  have j2: ∀j,r[j]? =ops[k+1+j]? :=fun j=>by
   have:=av (j+1)
   rw[show k+1+j=k+(j+1)from by omega]
   simpa using this
  simp only[List.length_cons,List.range'_succ,wpOpsS,aS];unfold wpList at h
  split at h
  ·rename_i hw
   rw[if_pos hw]
   rcases h with h|⟨_,h⟩
   ·unfold Oper.wp at h
    generalize ko:(execOp a.eval o).run P w=res at h⊢
    cases res with
    |ok yb w'=>
     cases yb with
     |recover=>exact h.elim
     |value v=>exact we iI ed r (k+1) _ _ j2 h
     |skip=>exact we iI ed r (k+1) _ _ j2 h
     |enter f xs=>
      simp only[Oper.upon]at h⊢;refine Calls.mono h fun e dV he=>?_
      cases e with
      |returned v=>exact we iI ed r (k+1) _ _ j2 he
      |panicked c=>exact ed _ _ _ he
      |outgrown=>exact absurd he iI
     |row x y=>
      simp only[Oper.upon]at h⊢;exact Rows.mono h fun v dV he=>we iI ed r (k+1) _ _ j2 he
     |defer d=>exact we iI ed r (k+1) _ _ j2 h
     |_=>exact h.elim
    |halt x w'=>
     cases x with
     |panic v=>exact ed _ _ _ h
     |_=>exact h.elim
   ·exact absurd h iI
  ·rename_i hw
   rw[if_neg hw];exact we iI ed r (k+1) _ _ j2 h
def JH(P:Program)(G:aR)(bZ:fe)(rec:Rec)(g:FuncId)(k:Nat)(h:et)(n:Nat):Option (et × Nat):=
 match P.funcs[g]? with
 |some fn=>match fn.body with
  |some (.seq (.region _ ops false) B)=>match ops.toList with
   |o::r=>match isRec o&&Nat.ble k fn.ntmps with
    |true=>match A9 P G bZ ops r (bD.put ⟨.emp,fn.ntmps,h,n,n⟩ o.dst (.ad (.v .nilIface)))with
     |some aO=>match rec B aO with
      |some (.ext _,_)=>none
      |some (_,dr)=>match rk P fn dr.den with
       |some _=>some (dr.h,dr.n)
       |none=>none
      |none=>none
     |none=>none
    |false=>none
   |[]=>none
  |_=>none
 |none=>none
theorem ZP{bZ:fe}{rec:Rec}(e4:hA P G bZ)(mT:rr P G rec){g:FuncId}{k:Nat}{h h':et}{n bL:Nat}(hc:JH P G bZ rec g k h n=some (h',bL)):Rx P G g k (cX h) n (cX h') bL:=by
 unfold JH at hc
 split at hc
 rotate_left
 ·cases hc
 rename_i fn hf
 split at hc
 rotate_left
 ·cases hc
 rename_i id ops B ag
 split at hc
 rotate_left
 ·cases hc
 rename_i o r JI
 split at hc
 rotate_left
 ·cases hc
 rename_i h2
 simp only[Bool.and_eq_true]at h2
 obtain⟨ZQ,nD⟩:=h2
 have nD:=Nat.le_of_ble_eq_true nD
 split at hc
 rotate_left
 ·cases hc
 rename_i aO ab
 split at hc
 ·cases hc
 ·rename_i e dr bW ae
  split at hc
  ·rename_i ad ko
   cases hc;obtain⟨ai,cy⟩:=ZO (P:=P) ZQ;intro w β ro dJ bT aV kY bE;refine callsD_of_wpS hf ag fun Bh cs hm=>?_
   have hQ:({Bh with mode:=.returning}:Frame)=Bh:=by rw[←hm]
   let E:Entry:=⟨w,ro,cX h,β,n,[]⟩
   have ZR:Rel E G (bD.den ⟨.emp,fn.ntmps,h,n,n⟩) {tmps:=dJ++Array.replicate (fn.ntmps-dJ.size) undef,defers:=[]} w:=by
    refine⟨β,ro,rfl,?_,fun i x hx=>?_,aV,kY,⟨rfl,rfl,rfl,Nat.le_refl _,fun _ _ _=>rfl,fun _ h=>.inl h,fun _ h=>h,fun _ h=>.inl h,fun id _ o au=>⟨by have au:aE (cX h) id=some o:=au;show aE (cX h) id≠none;rw[au];simp,rfl⟩,bE,Nat.le_refl _⟩,Nat.le_refl _⟩
    ·simp only[bD.den,ID,Array.size_append,Array.size_replicate]
     omega
    ·simp only[bD.den,ue]at hx
     split at hx
     ·simp only[bd.get,Option.some.injEq]at hx
      subst hx;exact .top _
     ·cases hx
   refine wpS_seq (wpS_region ?_)
   have hR:ops.size=r.length+1:=by rw[←Array.length_toList,JI];rfl
   rw[hR,List.range_eq_range',List.range'_succ]
   have au:ops[0]? =some o:=by
    rw[←Array.getElem?_toList,JI]
    rfl
   simp only[wpOpsS,au]
   have hw:Region.wanted o (yielded ops (dJ++Array.replicate (fn.ntmps-dJ.size) undef))=true:=by
    unfold Region.wanted;rw[ai]
   rw[if_pos hw,cy]
   have ZS:recoverD (Bh::cs)=none:=by simp[recoverD,hm]
   simp only[ZS]
   have JJ:Rel E G (bD.put ⟨.emp,fn.ntmps,h,n,n⟩ o.dst (.ad (.v .nilIface))).den (Act.put {tmps:=dJ++Array.replicate (fn.ntmps-dJ.size) undef,defers:=[]} o.dst .nilIface) w:=by
    rw[h1];obtain⟨β,ro,ah⟩:=ZR;exact⟨β,ro,ah.put _ _ _ (.e3 rfl)⟩
   have ZT:=Jr (Q:=fun ex st=>ex= .normal∧st=aO.den) e4 ab ⟨rfl,rfl⟩ E _ w JJ
   refine we (Q':=lift E G fun ex st=>ex= .normal∧st=aO.den) (fun⟨a,w,s,⟨hn,_⟩,_⟩=>by cases hn) (fun ex bb w' ⟨s,⟨aw,aM⟩,bn⟩=>?_) r 1 _ _ (fun j=>?_) ZT
   ·rw[←Array.getElem?_toList,JI,show 1+j=j+1 from by omega]
    rfl
   ·subst aw aM
    refine wpS_of_wp (wp_mono (mT _ _ _ _ ae E bb w' bn) fun ex a2 dV ⟨s2,⟨dp,di⟩,sO,uy,hN⟩=>?_)
    subst dp di;obtain⟨v,az,_⟩:=D6 hN ko
    have lR: ∃x8,Bh::cs={Bh with mode:=x8}::cs∧∃v,(results fn a2.tmps).run P dV= .ok v dV∧(x8=FrameMode.returning∧∃v1 cK ro',Ending.returned v=Ending.returned v1∧gI dV ro' (cX dr.h) cK dr.n∧Trans ⟨w,ro,cX h,β,n,[]⟩ dV ro' (cX dr.h) cK dr.n):=
     ⟨.returning,by rw[hQ],v,az,rfl,v,sO,uy,rfl,hN.heap,hN.trans⟩
    cases e with
    |b8=>exact⟨hN.defers,lR⟩
    |ret=>exact⟨hN.defers,lR⟩
    |ext id=>exact(bW id rfl).elim
  ·cases hc
 ·cases hc
def ER(P:Program)(G:aR)(bZ:fe)(rec:Rec):List (FuncId × Nat)→et→Nat→Option (et × Nat)
 |[],h,n=>some (h,n)
 |(g,k)::D,h,n=>match JH P G bZ rec g k h n,nr P g with
  |some (ab,hM),true=>ER P G bZ rec D ab hM
  |_,_=>none
theorem RB{bZ:fe}{rec:Rec}(e4:hA P G bZ)(mT:rr P G rec): ∀{D:List (FuncId × Nat)} {h h':et} {n bL:Nat},ER P G bZ rec D h n=some (h',bL)→EN P G D (cX h) n (cX h') bL
 |[],h,h',n,bL,hc=>by
  cases hc;exact⟨rfl,rfl⟩
 |(g,k)::D,h,h',n,bL,hc=>by
  simp only[ER]at hc
  split at hc
  ·rename_i ab hM dp di
   exact⟨_,_,ZP e4 mT dp,di,RB e4 mT hc⟩
  ·cases hc
def ES(P:Program)(G:aR)(bZ:fe)(rec:Rec)(f:FuncId)(args:List aC)(h:et)(n:Nat):Option (aC × et × Nat):=
 match P.funcs[f]? with
 |some fn=>match fn.body with
  |some c=>match uz P G bZ rec c ⟨vP args 0 .emp,args.length+(fn.ntmps-args.length),h,n,n⟩ []with
   |some (.ext _,_,_)=>none
   |some (_,S,D)=>match ER P G bZ rec D S.h S.n with
    |some (aw,mS)=>match uf (cX S.h) S.n (cX aw),rk P fn ⟨mc S.l 0 S.N,cX aw,mS,S.b⟩,Bb (aw.map (·.1))with
     |true,some r,true=>some (r,Rs n r aw,mS)
     |_,_,_=>none
    |none=>none
   |none=>none
  |none=>none
 |none=>none
theorem RD{bZ:fe}{rec:Rec}(e4:hA P G bZ)(mT:rr P G rec):hA P G (ES P G bZ rec):=by
 intro f args h n r h' bL hc
 unfold ES at hc
 split at hc
 ·rename_i fn hf
  split at hc
  ·rename_i c ag
   split at hc
   ·cases hc
   ·rename_i e S D bW ab
    split at hc
    ·rename_i aw mS ae
     split at hc
     ·rename_i eG an ko eE
      cases hc
      have ir:=ZN e4 mT ab
      simp only[bD.den,QQ]at ir;refine lO.ZH (s2:=S.den) hf ag (fun E a w ah hd=>wp_mono (ir E a w ah (by rw[hd];rfl)) fun ex bb w' ⟨dp,l,di,hN⟩=>⟨?_,l,di,hN⟩) (RB e4 mT ae) an ko fun id o ai=>EI (Jw eE) ai
      subst dp
      cases e with
      |b8=>exact .inl rfl
      |ret=>exact .inr rfl
      |ext id=>exact(bW id rfl).elim
     ·cases hc
    ·cases hc
   ·cases hc
  ·cases hc
 ·cases hc
def JK(f:FuncId):List FuncId→Bool
 |[]=>false
 |g::r=>Nat.beq g f||JK f r
def uA(P:Program)(G:aR)(known:fe)(ds:List FuncId):Nat→Rec
 |0=>fun _ _=>none
 |n+1=>EF P G (je known fun f xs h m=>match JK f ds with
  |true=>ES P G (je known (uv P (uA P G known ds n))) (uA P G known ds n) f xs h m
  |false=>uv P (uA P G known ds n) f xs h m) (uA P G known ds n)
theorem RE{known:fe}{ds:List FuncId}(an:hA P G known): ∀n,rr P G (uA P G known ds n)
 |0=>fun _ _ _ _ h=>by cases h
 |n+1=>by
  have aY:=RE (ds:=ds) an n
  have ag:=jG an (x3 aY)
  refine Rr (jG an fun f xs h m r h' o6 hc=>?_) aY
  split at hc
  ·exact RD ag aY _ _ _ _ _ _ _ hc
  ·exact x3 aY _ _ _ _ _ _ _ hc
def RF(P:Program)(G:aR)(known:fe)(ds:List FuncId)(n:Nat):fe:=je known fun f xs h m=>match JK f ds with
 |true=>ES P G (je known (uv P (uA P G known ds n))) (uA P G known ds n) f xs h m
 |false=>uv P (uA P G known ds n) f xs h m
theorem ZU{known:fe}{ds:List FuncId}(an:hA P G known)(n:Nat):hA P G (RF P G known ds n):=by
 have aY:=RE (ds:=ds) an n
 have ag:=jG an (x3 aY)
 refine jG an fun f xs h m r h' o6 hc=>?_
 split at hc
 ·exact RD ag aY _ _ _ _ _ _ _ hc
 ·exact x3 aY _ _ _ _ _ _ _ hc
theorem fw.mU{k:fe}{ds:List FuncId}(an:hA P G k){e:fw}(N:Nat)(h:RF P G k ds N e.f e.xs e.h e.n=some (e.r,e.h',e.bL)):e.ok P G:=ZU an N _ _ _ _ _ _ _ h
end
end Go.aK
