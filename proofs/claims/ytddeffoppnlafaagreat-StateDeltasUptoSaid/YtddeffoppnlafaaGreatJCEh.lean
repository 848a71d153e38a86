/- Conditions: none. -/
import Derived.Test.YtddeffoppnlafaaGreatJCEg
import Derived.Recover
open Array renaming getElem?_toList->zZn,replicate->zZo
open Nat renaming le_refl->zZv
namespace Go.aH
open Go
def uX:List (FuncId × Nat)->List Deferred->Prop
 |[],l=>l=[]|(g,k)::D,l=>∃c e r,l=⟨.fn (.func g) e,c⟩::r/\c.size+e.size=k/\uX D r
def Uc(P:Program)(G:aV)(g:FuncId)(k:Nat)(σ:bK)(n:Nat)(cZ:bK)(b0:Nat):Prop:=
 ∀w β ro (dY:Array Value),dY.size=k->hA w ro σ β n->qI w ro G->(∀id o,aF σ id=some o->id<n)->
  CallsD P g dY .returning w λe AQ w'=>AQ= .returning/\∃v cS ro',e= .returned v/\hA w' ro' cZ cS b0/\Trans ⟨w,ro,σ,β,n,[]⟩ w' ro' cZ cS b0
def HH(P:Program)(G:aV):List (FuncId × Nat)->bK->Nat->bK->Nat->Prop
 |[],σ,n,cZ,b0=>cZ=σ/\b0=n|(g,k)::D,σ,n,cZ,b0=>∃MU ib,Uc P G g k σ n MU ib/\o6 P g=true/\HH P G D MU ib cZ b0
section
variable {P:Program} {G:aV}
theorem Ud{fn:Func}{tmps:Array Value}{R:Ending->World->Prop}{cZ:bK}{b0:Nat}: ∀{D:List (FuncId × Nat)} {l:List Deferred} {w:World} {ro:Nat->Prop} {σ:bK} {β:Nat->Value} {n:Nat},uX D l->HH P G D σ n cZ b0->hA w ro σ β n->qI w ro G->(∀id o,aF σ id=some o->id<n)->
 (∀w' cS ro',hA w' ro' cZ cS b0->Trans ⟨w,ro,σ,β,n,[]⟩ w' ro' cZ cS b0->∃v,(results fn tmps).run P w'= .ok v w'/\R (.returned v) w')->Leaves P fn tmps R l .returning w
 |[],l,w,ro,σ,β,n,au,hd,a8,ai,bR,h=>by
  simp only[uX]at au;subst au;obtain⟨rfl,rfl⟩:=hd;exact h w β ro a8 ⟨rfl,rfl,rfl,zZv _,λ_ _ _=>rfl,λ_ h=>.inl h,λ_ h=>h,λ_ h=>.inl h,λid _ o av=>⟨by rw[av];simp,rfl⟩,bR,zZv _⟩
 |(g,k)::D,l,w,ro,σ,β,n,au,hd,a8,ai,bR,h=>by
  obtain⟨c,e,r,rfl,an,ah⟩:=au;obtain⟨MU,ib,hc,iw,wK⟩:=hd;refine leaves_cons (f:=g) (args:=c++e) (by simp) (by simp only[invoke];exact Dg iw _ w) (CallsD.mono (hc w β ro (c++e) (by simpa using an) a8 ai bR) λaD AQ w' aB=>?_)
  obtain⟨rfl,v,cS,ro',rfl,gk,cP⟩:=aB;have cA: ∀b,ro b->w'.heap[b]? =w.heap[b]? :=λb af=>cP.frame b (a8.lt b af) (a8.fy b af);show Leaves P fn tmps R r .returning w';exact Ud ah wK gk (ai.keep cA cP.hp) cP.new λec uY wL ae t2=>h ec uY wL ae (cP.trans t2)
theorem m6.zdM{f:FuncId}{fn:Func}{c:Code}{args:List aC}{σ:bK}{n:Nat}{r:aC}{cZ AR:bK}{nM:Nat}{D:List (FuncId × Nat)}{s2:aS}(hf:P.funcs[f]? =some fn)(af:fn.body=some c)
 (h: ∀E a w,Rel E G ⟨args++List.replicate (fn.ntmps-args.length) .top,σ,n,n⟩ a w->E.d=[]->c.wp P (λe bo w'=>(e= .normal\/e= .ret)/\∃l,uX D l/\Rel ⟨E.w,E.ro,E.σ,E.β,E.n,l⟩ G s2 bo w') a w)
 (kA:HH P G D s2.heap s2.next AR nM)(an:wx s2.heap s2.next AR=true)(ly:tk P fn ⟨s2.dn,AR,nM,s2.base⟩=some r)(gb: ∀id o,aF cZ id=some o->aF AR id=some o):m6 P G f args σ n r cZ nM:=by
 intro w β ro dY b4 jV a8 ai bR;refine calls_of_wp_defers hf af (wp_mono (h ⟨w,ro,σ,β,n,[]⟩ _ w ⟨β,ro,rfl,?_,?_,a8,ai,?_,zZv _⟩ rfl) ?_)
 ·simp[b4]
 ·intro i x hi
  simp only at hi
  by_cases yb:i<args.length
  ·rw[List.getElem?_append_left yb]at hi
   have:=jV i x hi;have aa:i<dY.size:=by omega
   simpa[Array.getElem?_append_left aa,aa,Array.getElem_append_left aa]using this
  ·rw[List.getElem?_append_right (by omega)]at hi
   rw[List.getElem?_replicate]at hi
   split at hi
   ·simp only[Option.some.injEq]at hi;subst hi;exact .top _
   ·cases hi
 ·exact⟨rfl,rfl,rfl,zZv _,λ_ _ _=>rfl,λ_ h=>.inl h,λ_ h=>h,λ_ h=>.inl h,λid _ o av=>⟨by rw[av];simp,rfl⟩,bR,zZv _⟩
 ·intro e bo w' ⟨he,l,au,zdN,zdO,ah⟩
  have Ue:Leaves P fn bo.tmps (λe w'=>∃v cS ro',e= .returned v/\bN w' ro' cZ cS nM r v/\hA w' ro' cZ cS nM/\Trans ⟨w,ro,σ,β,n,[]⟩ w' ro' cZ cS nM) bo.defers .returning w':=by
   have HI:bo.defers=l:=ah.defers;rw[HI];refine Ud au kA ah.heap ah.ix ah.trans.new λec uY wL ae t2=>?_;have cA: ∀b,zdO b->ec.heap[b]? =w'.heap[b]? :=λb af=>t2.frame b (ah.heap.lt b af) (ah.heap.fy b af)
   have kind: ∀id ct,id<s2.next->aF AR id=some ct->uY id=zdN id/\∃o,aF s2.heap id=some o/\G0 o ct=true:=λid ct au ai=>by
    obtain⟨o,g1,g2⟩:=LY an (LX ai) au;exact⟨(t2.er id au ct ai).2,o,g1,g2⟩
   have m9:dy ⟨w,ro,σ,β,n,l⟩ G ⟨s2.dn,AR,nM,s2.base⟩ bo ec uY wL:=by
    refine⟨HI,ah.size,λi x hx=>(ah.slot i x hx).Tx cA t2.hp t2.le (λid au t cs ai=>?_) (λid au z t n es ai=>?_) (λid au bU ai=>?_),ae,ah.ix.keep cA t2.hp,?_,ah.base⟩
    ·obtain⟨aa,o,ae,aw⟩:=kind id _ au ai
     cases o with
     |box br cs'=>exact⟨aa,_,_,ae⟩|_=>cases aw
    ·obtain⟨aa,o,ae,aw⟩:=kind id _ au ai
     cases o with
     |row h5 br b0 e2=>
      have:=Nat.eq_of_beq_eq_true aw;subst this;exact⟨aa,_,_,_,ae⟩
     |_=>cases aw
    ·obtain⟨aa,o,ae,aw⟩:=kind id _ au ai
     cases o with
     |bW lv=>exact⟨aa,_,ae⟩|_=>cases aw
    ·have t1:=ah.trans
     have t3:=Trans.trans t1 t2;exact⟨t3.os,t3.tape,t3.output,t3.size,t3.frame,t3.h9,t3.hp,t3.gG,t3.er,t3.new,t3.le⟩
   obtain⟨v,az,dO⟩:=G1 m9 ly;have t4:=m9.trans.sub gb;exact⟨v,az,v,uY,wL,rfl,dO.sub gb,m9.heap.sub gb,⟨t4.os,t4.tape,t4.output,t4.size,t4.frame,t4.h9,t4.hp,t4.gG,t4.er,t4.new,t4.le⟩⟩
  rcases he with rfl|rfl
  ·exact Ue
  ·exact Ue
def pg(P:Program)(G:aV)(D l3:List (FuncId × Nat))(c:Code)(e:m8)(s s':aS):Prop:=
 ∀E a w,Rel E G s a w->uX D E.d->c.wp P (λex bo w'=>ex=e.ex/\∃l,uX l3 l/\Rel ⟨E.w,E.ro,E.σ,E.β,E.n,l⟩ G s' bo w') a w
theorem pg.of{D:List (FuncId × Nat)}{c:Code}{e:m8}{s s':aS}(h:cb P G c (λex st=>ex=e.ex/\st=s') s):pg P G D D c e s s':=λE a w ah hd=>
 wp_mono (h E a w ah) λex bo w' ⟨st,⟨aa,ae⟩,aw⟩=>⟨aa,E.d,hd,by subst ae;exact aw⟩
theorem pg.seq{D pV Uf:List (FuncId × Nat)}{x y:Code}{e:m8}{s s1 s2:aS}(h:pg P G D pV x .cp s s1)(k:pg P G pV Uf y e s1 s2):pg P G D Uf (.seq x y) e s s2:=λE a w ah hd=>
 wp_seq (wp_mono (h E a w ah hd) λex bo w' ⟨aa,l,ae,aw⟩=>by
  subst aa
  exact wp_mono (k ⟨E.w,E.ro,E.σ,E.β,E.n,l⟩ bo w' aw ae) λex a2 ec ⟨dp,yp,dP,hT⟩=>by
   exact⟨dp,yp,dP,hT⟩)
theorem pg.zdP{D pV:List (FuncId × Nat)}{x y:Code}{e:m8}{s s1:aS}(he:e≠ .cp)(h:pg P G D pV x e s s1):pg P G D pV (.seq x y) e s s1:=λE a w ah hd=>
 wp_seq (wp_mono (h E a w ah hd) λex bo w' ⟨aa,l,ae,aw⟩=>by
  subst aa
  cases e with
  |cp=>exact absurd rfl he|ext id=>exact⟨rfl,l,ae,aw⟩
  |ret=>exact⟨rfl,l,ae,aw⟩)
def MV(G:aV)(o:Oper)(S:bS):Option (FuncId × Nat):=
 match o.op,o.guard with
 | .defer c,none=>match c.callee with
  | .value x=>match fA G S x with
   | .fn (.func f) p q=>some (f,p.length+c.args.size+q.length)|_=>none
  |_=>none
 |_,_=>none
theorem zdQ{o:Oper}{S:bS}{g:FuncId}{k:Nat}(h:MV G o S=some (g,k)):o.guard=none/\∀E a w,Rel E G S.den a w->∃c e,c.size+e.size=k/\(execOp a.eval o).run P w= .ok (.defer ⟨.fn (.func g) e,c⟩) w:=by
 unfold MV at h;rw[wA]at h
 split at h
 ·rename_i c av ai
  refine⟨ai,λE a w ⟨β,ro,ah⟩=>?_⟩;obtain⟨callee,args,ts⟩:=c;simp only at h
  split at h
  ·rename_i x
   split at h
   ·rename_i f p q hx
    cases h
    have dh:=ah.eval x;rw[hx]at dh;generalize he:a.eval x=Hc at dh
    cases dh with
    |fn _ _ _ c d aa ae _ _=>
     refine⟨c++args.map a.eval,d,by simp[aa,ae],?_⟩
     simp only[execOp,av,resolve,he,Deferred.ofValue,Sem.run_bind,Sem.run_pure,Result.andThen_ok]
   ·cases h
  ·cases h
 ·cases h
def DO(P:Program)(G:aV)(bX:fB)(ops:Array Oper):List Oper->bS->List (FuncId × Nat)->Option (bS × List (FuncId × Nat))
 |[],S,D=>some (S,D)|o::r,S,D=>match MV G o S with
  |some d=>DO P G bX ops r (S.put o.dst (.tuple [])) (d::D)|none=>match AI P G bX ops o S with
   |some aM=>DO P G bX ops r aM D|none=>none
def zdR(P:Program)(G:aV)(ops:Array Oper)(l:List Oper)(D l3:List (FuncId × Nat))(s s':aS):Prop:=
 ∀E a w,Rel E G s a w->uX D E.d->∀Q:Exit->Act->World->Prop,(∀bo w' l,uX l3 l->Rel ⟨E.w,E.ro,E.σ,E.β,E.n,l⟩ G s' bo w'->Q .normal bo w')->wpList P ops Q l a w
theorem HJ{bX:fB}(fv:ia P G bX){ops:Array Oper}: ∀{l:List Oper} {S bV:bS} {D l3:List (FuncId × Nat)},DO P G bX ops l S D=some (bV,l3)->zdR P G ops l D l3 S.den bV.den
 |[],S,bV,D,l3,h=>by
  cases h;exact λE a w ah hd Q ez=>wpList_nil (ez a w E.d hd ah)
 |o::r,S,bV,D,l3,h=>by
  simp only[DO]at h;intro E a w ah hd Q ez
  split at h
  ·rename_i d HI
   obtain⟨g,k⟩:=d;obtain⟨ai,cE⟩:=zdQ (P:=P) HI;obtain⟨c,e,an,hex⟩:=cE E a w ah;refine wpList_plain ai λK hK=>?_;unfold Oper.wp;rw[hex,Oper.upon_defer];refine hK _ _ ?_
   have yq:Rel ⟨E.w,E.ro,E.σ,E.β,E.n,⟨.fn (.func g) e,c⟩::E.d⟩ G (S.put o.dst (.tuple [])).den ({a with defers:=⟨.fn (.func g) e,c⟩::a.defers}.put o.dst undef) w:=by
    rw[iR];refine Rel.AJ ?_ o.dst;obtain⟨β,ro,l4⟩:=ah;refine⟨β,ro,by rw[l4.defers],l4.size,λi x hx=>l4.slot i x hx,l4.heap,l4.ix,?_,l4.base⟩
    have t:=l4.trans;exact⟨t.os,t.tape,t.output,t.size,t.frame,t.h9,t.hp,t.gG,t.er,t.new,t.le⟩
   exact HJ fv h _ _ _ yq ⟨c,e,E.d,rfl,an,hd⟩ Q λbo w' l au dW=>ez bo w' l au dW
  ·split at h
   ·rename_i aM aa
    have ao:=T3 fv aa E a w ah;refine wpList_step λK hK=>?_
    rcases ao with⟨hw,ao⟩|⟨hw,ao⟩
    ·rw[if_pos hw]
     exact ao K Q λbo w' dW _=>hK bo w' (HJ fv h E bo w' dW hd Q ez)
    ·rw[if_neg (by rw[hw];decide)]
     exact hK _ _ (HJ fv h E _ w ao hd Q ez)
   ·cases h
def defers(ops:Array Oper):Bool:=ops.toList.any λo=>match o.op with
 | .defer _=>true|_=>false
def wM(P:Program)(G:aV)(bX:fB)(rec:Rec):Code->bS->List (FuncId × Nat)->Option (m8 × bS × List (FuncId × Nat))
 | .seq a b,S,D=>match wM P G bX rec a S D with
  |some (.cp,aM,pV)=>wM P G bX rec b aM pV|r=>r
 | .region id ops nK,S,D=>match defers ops,nK with
  |true,false=>match DO P G bX ops ops.toList S D with
   |some (aM,pV)=>some (.cp,aM,pV)|none=>none
  |true,true=>none|false,_=>match rec (.region id ops nK) S with
   |some (e,aM)=>some (e,aM,D)|none=>none
 |c,S,D=>match rec c S with
  |some (e,aM)=>some (e,aM,D)|none=>none
theorem zdS{bX:fB}{rec:Rec}(fv:ia P G bX)(ox:tt P G rec): ∀{c:Code} {S bV:bS} {D l3:List (FuncId × Nat)} {e:m8},wM P G bX rec c S D=some (e,bV,l3)->pg P G D l3 c e S.den bV.den:=λ{c}=>by
 have base: ∀{c:Code} {S bV:bS} {D l3:List (FuncId × Nat)} {e:m8},(match rec c S with
  |some (e,aM)=>some (e,aM,D)
  |none=>none)=some (e,bV,l3)->pg P G D l3 c e S.den bV.den:=λ{c S bV D l3 e} h=>by
  split at h
  ·rename_i aE aM aa
   cases h;exact pg.of (ox _ _ _ _ aa)
  ·cases h
 induction c with
 |seq a b DE Hu=>
  intro S bV D l3 e h;simp only[wM]at h
  split at h
  ·rename_i aM pV aa
   exact pg.seq (DE aa) (Hu h)
  ·rename_i b6
   have b6: ∀aM pV,wM P G bX rec a S D≠some (.cp,aM,pV):=b6;refine pg.zdP (λhe=>?_) (DE h);subst he;exact b6 _ _ h
 |region id ops nK=>
  intro S bV D l3 e h;simp only[wM]at h
  split at h
  ·split at h
   ·rename_i aM pV aa
    cases h;intro E a w ah hd
    have hQ:ops=ops.toList.toArray:=by simp
    have:=HJ fv aa E a w ah hd (λex bo w'=>ex=m8.cp.ex/\∃l,uX l3 l/\Rel ⟨E.w,E.ro,E.σ,E.β,E.n,l⟩ G bV.den bo w') λbo w' l au dW=>⟨rfl,l,au,dW⟩;rw[hQ];refine wp_region_lit ?_;rw[<-hQ];exact this
   ·cases h
  ·cases h
  ·exact base h
 |_=>
  intro S bV D l3 e h;simp only[wM]at h;exact base h
def isRec(o:Oper):Bool:=
 match o.op,o.guard with
 | .call c,none=>match c.callee with
  | .builtin .recover=>c.args.size==0|_=>false
 |_,_=>false
theorem zdT{o:Oper}(h:isRec o=true):o.guard=none/\∀(a:Act) (w:World),(execOp a.eval o).run P w= .ok .recover w:=by
 unfold isRec at h
 split at h
 ·rename_i c av ai
  refine⟨ai,λa w=>?_⟩;obtain⟨callee,args,ts⟩:=c;simp only at h
  split at h
  ·have aW:args= #[]:=by simpa using h
   subst aW;simp[execOp,av,resolve,invoke,builtin]
  ·cases h
 ·cases h
theorem yr{ops:Array Oper}{Q':Exit->Act->World->Prop}{Q:Exit->Act->List Frame->World->Prop}{cs:List Frame}(jD: ¬LetsOut Q')(ez: ∀e a w,Q' e a w->Q e a cs w):
 ∀(l:List Oper) (k:Nat) (a:Act) (w:World),(∀j,l[j]? =ops[k+j]?)->wpList P ops Q' l a w->wpOpsS P ops Q (List.range' k l.length) a cs w
 |[],k,a,w,_,h=>ez _ _ _ h|o::r,k,a,w,au,h=>by
  have aP:ops[k]? =some o:=by simpa using (au 0).symm
  have kW: ∀j,r[j]? =ops[k+1+j]? :=λj=>by
   have:=au (j+1);rw[show k+1+j=k+(j+1)from by omega]
   simpa using this
  simp only[List.length_cons,List.range'_succ,wpOpsS,aP];unfold wpList at h
  split at h
  ·rename_i hw
   rw[if_pos hw]
   rcases h with h|⟨_,h⟩
   ·unfold Oper.wp at h
    generalize ly:(execOp a.eval o).run P w=res at h⊢
    cases res with
    |ok AS w'=>
     cases AS with
     |recover=>exact h.elim|value v=>exact yr jD ez r (k+1) _ _ kW h|skip=>exact yr jD ez r (k+1) _ _ kW h|enter f xs=>
      simp only[Oper.upon]at h⊢;refine Calls.mono h λe ec he=>?_
      cases e with
      |returned v=>exact yr jD ez r (k+1) _ _ kW he|panicked c=>exact ez _ _ _ he|outgrown=>exact absurd he jD
     |row x y=>
      simp only[Oper.upon]at h⊢;exact Rows.mono h λv ec he=>yr jD ez r (k+1) _ _ kW he
     |defer d=>exact yr jD ez r (k+1) _ _ kW h|_=>exact h.elim
    |halt x w'=>
     cases x with
     |panic v=>exact ez _ _ _ h|_=>exact h.elim
   ·exact absurd h jD
  ·rename_i hw
   rw[if_neg hw];exact yr jD ez r (k+1) _ _ kW h
def MW(P:Program)(G:aV)(bX:fB)(rec:Rec)(g:FuncId)(k:Nat)(h:eM)(n:Nat):Option (eM × Nat):=
 match P.funcs[g]? with
 |some fn=>match fn.body with
  |some (.seq (.region _ ops false) B)=>match ops.toList with
   |o::r=>match isRec o&&Nat.ble k fn.ntmps with
    |true=>match DH P G bX ops r (bS.put ⟨.emp,fn.ntmps,h,n,n⟩ o.dst (.ad (.v .nilIface)))with
     |some aM=>match rec B aM with
      |some (.ext _,_)=>none|some (_,dC)=>match tk P fn dC.den with
       |some _=>some (dC.h,dC.n)|none=>none
      |none=>none
     |none=>none
    |false=>none
   |[]=>none
  |_=>none
 |none=>none
theorem zdU{bX:fB}{rec:Rec}(fv:ia P G bX)(ox:tt P G rec){g:FuncId}{k:Nat}{h h':eM}{n b0:Nat}(hc:MW P G bX rec g k h n=some (h',b0)):Uc P G g k (c7 h) n (c7 h') b0:=by
 unfold MW at hc
 split at hc
 rotate_left
 ·cases hc
 rename_i fn hf
 split at hc
 rotate_left
 ·cases hc
 rename_i id ops B af
 split at hc
 rotate_left
 ·cases hc
 rename_i o r MX
 split at hc
 rotate_left
 ·cases hc
 rename_i hJ;simp only[Bool.and_eq_true]at hJ;obtain⟨zdV,ph⟩:=hJ;have ph:=Nat.le_of_ble_eq_true ph
 split at hc
 rotate_left
 ·cases hc
 rename_i aM aa
 split at hc
 ·cases hc
 ·rename_i e dC b6 ae
  split at hc
  ·rename_i ad ly
   cases hc;obtain⟨ai,cE⟩:=zdT (P:=P) zdV;intro w β ro dY b4 a8 l5 bR;refine callsD_of_wpS hf af λDQ cs hm=>?_
   have iD:({DQ with mode:=.returning}:Frame)=DQ:=by rw[<-hm]
   let E:Entry:=⟨w,ro,c7 h,β,n,[]⟩
   have zdW:Rel E G (bS.den ⟨.emp,fn.ntmps,h,n,n⟩) {tmps:=dY++zZo (fn.ntmps-dY.size) undef,defers:=[]} w:=by
    refine⟨β,ro,rfl,?_,λi x hx=>?_,a8,l5,⟨rfl,rfl,rfl,zZv _,λ_ _ _=>rfl,λ_ h=>.inl h,λ_ h=>h,λ_ h=>.inl h,λid _ o av=>⟨by have av:aF (c7 h) id=some o:=av;show aF (c7 h) id≠none;rw[av];simp,rfl⟩,bR,zZv _⟩,zZv _⟩
    ·simp only[bS.den,LU,Array.size_append,Array.size_replicate]
     omega
    ·simp only[bS.den,wv]at hx
     split at hx
     ·simp only[bn.get,Option.some.injEq]at hx
      subst hx;exact .top _
     ·cases hx
   refine wpS_seq (wpS_region ?_);have iF:ops.size=r.length+1:=by rw[<-Array.length_toList,MX];rfl
   rw[iF,List.range_eq_range',List.range'_succ]
   have av:ops[0]? =some o:=by
    rw[<-zZn,MX];rfl
   simp only[wpOpsS,av]
   have hw:Region.wanted o (yielded ops (dY++zZo (fn.ntmps-dY.size) undef))=true:=by
    unfold Region.wanted;rw[ai]
   rw[if_pos hw,cE];have zdX:recoverD (DQ::cs)=none:=by simp[recoverD,hm]
   simp only[zdX]
   have MY:Rel E G (bS.put ⟨.emp,fn.ntmps,h,n,n⟩ o.dst (.ad (.v .nilIface))).den (Act.put {tmps:=dY++zZo (fn.ntmps-dY.size) undef,defers:=[]} o.dst .nilIface) w:=by
    rw[iR];obtain⟨β,ro,ah⟩:=zdW;exact⟨β,ro,ah.put _ _ _ (.fu rfl)⟩
   have zdY:=MG (Q:=λex st=>ex= .normal/\st=aM.den) fv aa ⟨rfl,rfl⟩ E _ w MY;refine yr (Q':=lift E G λex st=>ex= .normal/\st=aM.den) (λ⟨a,w,s,⟨hn,_⟩,_⟩=>by cases hn) (λex bo w' ⟨s,⟨aw,aN⟩,bx⟩=>?_) r 1 _ _ (λj=>?_) zdY
   ·rw[<-zZn,MX,show 1+j=j+1 from by omega]
    rfl
   ·subst aw aN
    refine wpS_of_wp (wp_mono (ox _ _ _ _ ae E bo w' bx) λex a2 ec ⟨s2,⟨dp,dP⟩,uY,wL,hT⟩=>?_);subst dp dP;obtain⟨v,az,_⟩:=G1 hT ly
    have m9: ∃AQ,DQ::cs={DQ with mode:=AQ}::cs/\∃v,(results fn a2.tmps).run P ec= .ok v ec/\(AQ=FrameMode.returning/\∃v1 cS ro',Ending.returned v=Ending.returned v1/\hA ec ro' (c7 dC.h) cS dC.n/\Trans ⟨w,ro,c7 h,β,n,[]⟩ ec ro' (c7 dC.h) cS dC.n):=
     ⟨.returning,by rw[iD],v,az,rfl,v,uY,wL,rfl,hT.heap,hT.trans⟩
    cases e with
    |cp=>exact⟨hT.defers,m9⟩|ret=>exact⟨hT.defers,m9⟩|ext id=>exact(b6 id rfl).elim
  ·cases hc
 ·cases hc
def HK(P:Program)(G:aV)(bX:fB)(rec:Rec):List (FuncId × Nat)->eM->Nat->Option (eM × Nat)
 |[],h,n=>some (h,n)|(g,k)::D,h,n=>match MW P G bX rec g k h n,o6 P g with
  |some (aa,ib),true=>HK P G bX rec D aa ib|_,_=>none
theorem Ug{bX:fB}{rec:Rec}(fv:ia P G bX)(ox:tt P G rec): ∀{D:List (FuncId × Nat)} {h h':eM} {n b0:Nat},HK P G bX rec D h n=some (h',b0)->HH P G D (c7 h) n (c7 h') b0
 |[],h,h',n,b0,hc=>by
  cases hc;exact⟨rfl,rfl⟩
 |(g,k)::D,h,h',n,b0,hc=>by
  simp only[HK]at hc
  split at hc
  ·rename_i aa ib dp dP
   exact⟨_,_,zdU fv ox dp,dP,Ug fv ox hc⟩
  ·cases hc
def HL(P:Program)(G:aV)(bX:fB)(rec:Rec)(f:FuncId)(args:List aC)(h:eM)(n:Nat):Option (aC × eM × Nat):=
 match P.funcs[f]? with
 |some fn=>match fn.body with
  |some c=>match wM P G bX rec c ⟨ya args 0 .emp,args.length+(fn.ntmps-args.length),h,n,n⟩ []with
   |some (.ext _,_,_)=>none|some (_,S,D)=>match HK P G bX rec D S.h S.n with
    |some (aw,nM)=>match wx (c7 S.h) S.n (c7 aw),tk P fn ⟨nG S.l 0 S.N,c7 aw,nM,S.b⟩,DJ (aw.map (·.1))with
     |true,some r,true=>some (r,T7 n r aw,nM)|_,_,_=>none
    |none=>none
   |none=>none
  |none=>none
 |none=>none
theorem Uh{bX:fB}{rec:Rec}(fv:ia P G bX)(ox:tt P G rec):ia P G (HL P G bX rec):=by
 intro f args h n r h' b0 hc;unfold HL at hc
 split at hc
 ·rename_i fn hf
  split at hc
  ·rename_i c af
   split at hc
   ·cases hc
   ·rename_i e S D b6 aa
    split at hc
    ·rename_i aw nM ae
     split at hc
     ·rename_i e5 an ly e3
      cases hc
      have jj:=zdS fv ox aa;simp only[bS.den,Tw]at jj;refine m6.zdM (s2:=S.den) hf af (λE a w ah hd=>wp_mono (jj E a w ah (by rw[hd];rfl)) λex bo w' ⟨dp,l,dP,hT⟩=>⟨?_,l,dP,hT⟩) (Ug fv ox ae) an ly λid o ai=>HC (ML e3) ai
      subst dp
      cases e with
      |cp=>exact .inl rfl|ret=>exact .inr rfl|ext id=>exact(b6 id rfl).elim
     ·cases hc
    ·cases hc
   ·cases hc
  ·cases hc
 ·cases hc
def MZ(f:FuncId):List FuncId->Bool
 |[]=>false|g::r=>Nat.beq g f||MZ f r
def wN(P:Program)(G:aV)(known:fB)(ds:List FuncId):Nat->Rec
 |0=>λ_ _=>none
 |n+1=>Hz P G (jX known λf xs h m=>match MZ f ds with
  |true=>HL P G (jX known (wI P (wN P G known ds n))) (wN P G known ds n) f xs h m
  |false=>wI P (wN P G known ds n) f xs h m) (wN P G known ds n)
theorem Ui{known:fB}{ds:List FuncId}(an:ia P G known): ∀n,tt P G (wN P G known ds n)
 |0=>λ_ _ _ _ h=>by cases h
 |n+1=>by
  have bb:=Ui (ds:=ds) an n;have af:=ky an (AL bb);refine T6 (ky an λf xs h m r h' qK hc=>?_) bb
  split at hc
  ·exact Uh af bb _ _ _ _ _ _ _ hc
  ·exact AL bb _ _ _ _ _ _ _ hc
def Uj(P:Program)(G:aV)(known:fB)(ds:List FuncId)(n:Nat):fB:=jX known λf xs h m=>match MZ f ds with
 |true=>HL P G (jX known (wI P (wN P G known ds n))) (wN P G known ds n) f xs h m|false=>wI P (wN P G known ds n) f xs h m
theorem zdZ{known:fB}{ds:List FuncId}(an:ia P G known)(n:Nat):ia P G (Uj P G known ds n):=by
 have bb:=Ui (ds:=ds) an n;have af:=ky an (AL bb);refine ky an λf xs h m r h' qK hc=>?_
 split at hc
 ·exact Uh af bb _ _ _ _ _ _ _ hc
 ·exact AL bb _ _ _ _ _ _ _ hc
theorem fV.oy{k:fB}{ds:List FuncId}(an:ia P G k){e:fV}(N:Nat)(h:Uj P G k ds N e.f e.xs e.h e.n=some (e.r,e.h',e.b0)):e.ok P G:=zdZ an N _ _ _ _ _ _ _ h
end
end Go.aH
