/- Conditions: none. -/
import Derived.Test.YtddeffoppnlafaaGreatJTDy
open Bool renaming and_eq_true->zZr,and_self->zVg,false_or->zWm,not_eq_true'->zZb,true_and->zVf
open Int renaming toNat_natCast->zW8,toNat_of_nonneg->zW7
open List renaming all_eq_true->zZ2,getElem?_cons_succ->zXd,length->zZ5,length_cons->zVi,length_map->zXe,map->zVn,map_cons->zXq,mem_cons->zZf,mem_cons_of_mem->zVj,mem_cons_self->zVa,mem_map->zXs,mem_map_of_mem->zV0,mem_singleton->zW0
open Nat renaming add_zero->zYh,beq->zZu,eq_of_beq_eq_true->zWi,le_add_right->zY8,le_refl->zZv,lt_succ_self->zYi,zero_add->zZ0
namespace Go.aH
open Go
def CG(v:ag):Bool:=
 match v.rt with
 |some (.int _)=>true|some .bool=>true|some .str=>true|_=>false
def Q8(P:Program)(S:ax)(t:TypeId)(id:Nat)(i:ag):Option eC:=
 match i.rt,lY P t,dG S.h id with
 |some (.int k),some n,some (.rw _ c y)=>match zZu n (dE c)with
  |true=>some ⟨[],sC S.g (.la c) (.mR c k) y i,.iM id i 0⟩|false=>none
 |_,_,_=>none
def Q9(P:Program)(S:ax)(t:TypeId)(x i:ag):Option eC:=
 match i.rt,lY P t,zA x with
 |some (.int k),some n,some c=>match zZu n (dE c)with
  |true=>some ⟨[.f2 (.mR c k) x i],sC S.g (.la c) (.mR c k) x i,.ip c S.k 0⟩|false=>none
 |_,_,_=>none
def Ra(P:Program)(S:ax)(t:TypeId)(id off:Nat)(i:ag):Option eC:=
 match i.rt,wq P t,zw S (.fi id off)with
 |some (.int _),some (len,n),some _=>match i with
  | .cs (.int _ (.ofNat j))=>match Nat.blt j len,B2 (j*n) (.fi id off)with
   |true,some p=>some ⟨[],[],p⟩|_,_=>none
  |i=>some ⟨[],B0 S.g len i,.iY id off i n⟩
 |_,_,_=>none
def KV(P:Program)(N:Nat)(S:ax)(t:TypeId)(x:ag)(lo hi:Option Operand):Option eC:=
 match B7 N S lo,B7 N S hi,x.rt,lY P t with
 |some l,some h,some (.li c),some n=>match zZu n (dE c)with
  |true=>some ⟨[.fC c x l h],[.fC c x l h],.bE (.li c) S.k⟩|false=>none
 |_,_,_,_=>none
def vP(P:Program)(N:Nat)(S:ax)(o:Oper):Option eC:=
 match o.op with
 | .move x=>some ⟨[],[],S.bj N x⟩| .assign x=>some ⟨[],[],S.bj N x⟩| .nilCheck x=>match xu S (S.bj N x)with
  |true=>some ⟨[],[],S.bj N x⟩|false=>none
 | .fieldAddr t x f=>match uK P t f,xu S (S.bj N x)with
  |some k,true=>match B2 k (S.bj N x)with
   |some p=>some ⟨[],[],p⟩|none=>none
  |_,_=>none
 | .load t x=>match zw S (S.bj N x)with
  |some l=>match vB P t l with
   |some v=>some ⟨[],[],v⟩|none=>none
  |none=>match uf P N S o with
   |some r=>match CG r.v with
    |true=>some r|false=>none
   |none=>none
 | .indexAddr t x i=>match S.bj N x with
  | .aq id=>Q8 P S t id (S.bj N i)| .fi id off=>Ra P S t id off (S.bj N i)|y=>Q9 P S t y (S.bj N i)
 | .slice t x lo hi none=>match KV P N S t (S.bj N x) lo hi with
  |some r=>some r|none=>match uf P N S o with
   |some r=>match CG r.v with
    |true=>some r|false=>none
   |none=>none
 |_=>match uf P N S o with
  |some r=>match CG r.v with
   |true=>some r|false=>none
  |none=>none
def Rb(P:Program):Nat->TypeId->Bool
 |0,_=>false|n+1,t=>match P.underlying t with
  |some (.pointer _)=>false|some (.slice e)=>match P.underlying e with
   |some (.pointer _)=>false|_=>true
  |some (.array _ e)=>Rb P n e|some (.struct fs)=>fs.toList.all λf=>Rb P n f.type
  |_=>true
def qy(P:Program)(o:Oper):Bool:=
 match o.op with
 | .store _ _ _=>true| .alloc _=>true| .box _ _=>true| .buildSlice _ _ _=>true| .mapUpdate _ _ _ _=>true| .call c=>match c.callee with
  | .builtin .append=>true| .builtin .copy=>true| .value _=>!(c.argTypes.toList.all (Rb P 6))|_=>false
 |_=>false
mutual
def ag.pure:ag->Bool
 | .bE _ _=>true| .fd _ _ _ _=>true| .cs _=>true| .ip _ _ _=>true| .cH l=>ag.gI l| .tp l=>ag.gI l| .fn _ a b=>ag.gI a&&ag.gI b|_=>false
def ag.gI:List ag->Bool
 |[]=>true|x::r=>ag.pure x&&ag.gI r
end
def Rc(S:ax)(dst:Option Nat)(C:ax):aG:=
 match ag.pure (C.at 0)with
 |true=>.db .cp ((⟨S.l,S.h,S.n,C.k,C.g⟩:ax).put dst (C.at 0))|false=>.bad 74
def zkX(B N:Nat)(S:ax)(dst:Option Nat)(C:ax):aG:=.db .cp (vK B N S (vJ B S C) dst)
def vQ(P:Program)(N B:Nat)(T:List (Nat × bZ))(inl:Nat->List ag->ax->aG)(o:Oper)(S:ax):aG:=
 match qy P o with
 |true=>match Kl P N B T S o with
  |some r=>match jt S.k r.xs&&(r.v.lt (S.k+r.xs.length)&&fT (S.k+r.xs.length) r.h)with
   |true=>emit S.k r.xs r.ns (.db .cp ((r.st S o.dst).fZ S.k r.xs))|false=>.bad 31
  |none=>match Ci P N S o with
   |some (f,aI)=>match o6 P f with
    |true=>((inl f aI S).fe (uo S o.dst) none).fe (zkX B N S o.dst) none|false=>.bad 33
   |none=>.bad (100+Qh o)
 |false=>match uf P N S o with
  |some r=>match jt S.k r.xs&&r.v.lt (S.k+r.xs.length)with
   |true=>emit S.k r.xs r.ns (.db .cp ((S.fZ S.k r.xs).put o.dst r.v))|false=>.bad 30
  |none=>match Ci P N S o with
   |some (f,aI)=>match o6 P f&&ag.gI aI with
    |true=>(inl f aI ⟨.emp,[],0,S.k,S.g⟩).fe (Rc S o.dst) none|false=>.bad 32
   |none=>.bad (100+Qh o)
def uu(P:Program)(N B:Nat)(T:List (Nat × bZ))(inl:Nat->List ag->ax->aG)(ops:Array Oper)(o:Oper)(S:ax):aG:=
 match guardOf N ops S o with
 | .yes=>vQ P N B T inl o S| .no=>match qy P o with
  |false=>.db .cp (S.put o.dst (.tp []))|true=>.bad 73
 | .on gs=>match oV S.k gs&& !(qy P o)with
  |true=>match uf P N {S with g:=ju gs S.g} o with
   |some r=>match jt S.k r.xs&&r.v.lt (S.k+r.xs.length)with
    |true=>emit S.k r.xs (r.ns.map (uk gs)) (.db .cp ((S.fZ S.k r.xs).put o.dst (mU gs r.v)))|false=>.bad 35
   |none=>xD (vL S o.dst) gs (vQ P N B T inl o {S with g:=ju gs S.g}) S.g
  |false=>.bad 36
 | .bad=>.bad 37
def xL(P:Program)(N:Nat)(ops:Array Oper)(o:Oper)(S:ax)(k:ax->aG):aG:=
 match guardOf N ops S o with
 | .yes=>match vP P N S o with
  |some r=>match jt S.k r.xs&&r.v.lt (S.k+r.xs.length)with
   |true=>emit S.k r.xs r.ns (k ((S.fZ S.k r.xs).put o.dst r.v))|false=>.bad 30
  |none=>.bad 76
 | .no=>k (S.put o.dst (.tp []))| .on gs=>match oV S.k gs with
  |true=>match vP P N {S with g:=ju gs S.g} o with
   |some r=>match jt S.k r.xs&&r.v.lt (S.k+r.xs.length)with
    |true=>emit S.k r.xs (r.ns.map (uk gs)) (k ((S.fZ S.k r.xs).put o.dst (mU gs r.v)))|false=>.bad 35
   |none=>.bad 76
  |false=>.bad 36
 | .bad=>.bad 37
def pop(P:Program)(N:Nat)(S:ax)(o:Oper):Bool:=
 match o.op with
 | .move _=>true| .assign _=>true| .nilCheck _=>true| .fieldAddr _ _ _=>true| .indexAddr _ _ _=>true| .slice t x lo hi none=>(KV P N S t (S.bj N x) lo hi).isSome|_=>false
def CH(P:Program)(N:Nat)(ops:Array Oper)(S:ax)(o:Oper):Bool:=
 match guardOf N ops S o with
 | .yes=>pop P N S o| .no=>true| .on gs=>pop P N {S with g:=ju gs S.g} o| .bad=>false
def zkY(P:Program)(N:Nat)(ops:Array Oper)(wr m:List Bool)(S:ax)(i:Nat):Bool:=
 match ops[i]? with
 |some o=>(Region.free .any ops m.toArray i&&(!(wr.getD i false)&&(CH P N ops S o||KS ops wr m i)))&&(match guardOf N ops S o with
  | .yes=>(vP P N S o).isSome| .no=>true| .on gs=>(vP P N {S with g:=ju gs S.g} o).isSome
  | .bad=>false)
 |none=>false
def Z6(P:Program)(N:Nat)(ops:Array Oper)(wr m:List Bool)(S:ax):List Nat->Option Nat
 |[]=>none|i::r=>match zkY P N ops wr m S i with
  |true=>some i|false=>Z6 P N ops wr m S r
def KW(N:Nat)(ops:Array Oper)(S:ax)(o:Oper):List (ag × Bool):=
 match guardOf N ops S o with
 | .on gs=>gs|_=>[]
def Re:cv->cv->Bool
 | .d1 i f x,.d1 j g y=>zZu i j&&(decide (f=g)&&eF x y)| .d2 i f x y,.d2 j g u v=>(zZu i j&&decide (f=g))&&(eF x u&&eF y v)| .rg i b,.rg j c=>zZu i j&&eF b c| .fb g b,.fb h c=>eF g h&&decide (b=c)|_,_=>false
def KX:List cv->List cv->Bool
 |[],[]=>true|x::l,y::m=>Re x y&&KX l m|_,_=>false
def Rf:b1->b1->Bool
 | .dQ t l,.dQ u m=>zZu t u&&pG l m| .rw t c x,.rw u d y=>zZu t u&&(decide (c=d)&&eF x y)| .it u x p,.it v y q=>decide (u=v)&&(eF x y&&eF p q)|_,_=>false
def KY:List (Nat × b1)->List (Nat × b1)->Bool
 |[],[]=>true|(i,x)::l,(j,y)::m=>zZu i j&&(Rf x y&&KY l m)|_,_=>false
def Gc:bn ag->bn ag->Bool
 | .emp,.emp=>true
 | .n v l r,.n w m s=>(match v,w with
  |some x,some y=>eF x y|none,none=>true
  |_,_=>false)&&(Gc l m&&Gc r s)
 |_,_=>false
def Rg(S U:ax):Bool:=(Gc S.l U.l&&KY S.h U.h)&&((zZu S.n U.n&&zZu S.k U.k)&&KX S.g U.g)
def vR:Option ag->Option ag->Bool
 |none,none=>true|some x,some y=>eF x y|_,_=>false
def Rh:cf->cf->Bool
 | .ca j aI,.ca i cM=>zZu j i&&pG aI cM| .vw rs p i,.vw qs q j=>decide (rs=qs)&&(zZu p q&&zZu i j)| .f1 f x,.f1 g y=>decide (f=g)&&eF x y| .f2 f x y,.f2 g u v=>decide (f=g)&&(eF x u&&eF y v)| .BS k v m x,.BS bl bC qK mm=>(decide (k=bl)&&decide (v=bC))&&(eF m qK&&eF x mm)| .zp k v m x,.zp bl bC qK mm=>(decide (k=bl)&&decide (v=bC))&&(eF m qK&&eF x mm)| .su r x,.su s y=>decide (r=s)&&eF x y| .fC c x a b,.fC d y u v=>(decide (c=d)&&eF x y)&&(vR a u&&vR b v)| .sv x a b,.sv y u v=>eF x y&&(vR a u&&vR b v)| .ri c l,.ri d m=>decide (c=d)&&pG l m| .up c l i x,.up d m j y=>(decide (c=d)&&eF l m)&&(eF i j&&eF x y)| .cD c x,.cD d y=>decide (c=d)&&eF x y| .nth r l i,.nth s m j=>decide (r=s)&&(pG l m&&eF i j)|_,_=>false
def Ri:hj->hj->Bool
 | .f2 n f x y,.f2 m g u v=>(zZu n m&&decide (f=g))&&(eF x u&&eF y v)| .ca j aI,.ca i cM=>zZu j i&&pG aI cM| .nth n x,.nth m y=>zZu n m&&eF x y| .fC c x a b,.fC d y u v=>(decide (c=d)&&eF x y)&&(vR a u&&vR b v)| .sv x a b,.sv y u v=>eF x y&&(vR a u&&vR b v)| .up c l i,.up d m j=>decide (c=d)&&(eF l m&&eF i j)| .mk n x y,.mk m u v=>zZu n m&&(eF x u&&eF y v)|_,_=>false
def uv:aG->aG->Bool
 | .db .cp S,.db .cp U=>Rg S U| .lt i x t,.lt j y u=>zZu i j&&(Rh x y&&uv t u)| .fF n t,.fF m u=>Ri n m&&uv t u|_,_=>false
def Gd:List aG->aG
 |t::r=>match r.all (uv t)with
  |true=>t|false=>.bad 71
 |[]=>.bad 71
def zV{α:Type}:List Bool->(List Bool->α)->α
 |[],k=>k []|true::r,k=>zV r λs=>k (true::s)
 |false::r,k=>zV r λs=>k (false::s)
theorem KZ{α:Type}: ∀(m:List Bool) (k:List Bool->α),zV m k=k m
 |[],_=>rfl|true::r,_=>KZ r _|false::r,_=>KZ r _
def uw(P:Program)(N B:Nat)(T:List (Nat × bZ))(inl:Nat->List ag->ax->aG)(ops:Array Oper)(wr:List Bool):Nat->List Bool->ax->aG
 |0,m,S=>match Region.ready .any ops m.toArray with
  |[]=>.db .cp S|_=>.bad 70
 |n+1,m,S=>match Region.ready .any ops m.toArray with
  |[]=>.db .cp S|i::rd=>match Z6 P N ops wr m S (i::rd)with
   |some j=>match ops[j]?,(Region.ready .any ops m.toArray).contains j&&(Region.free .any ops m.toArray j&& !(wr.getD j false))with
    |some o,true=>match CH P N ops S o||KS ops wr m j with
     |true=>xL P N ops o S (zV (m.set j true) (uw P N B T inl ops wr n))|false=>.bad 79
    |_,_=>.bad 77
   |none=>match rd,ops[i]? with
    |[],some o=>match decide (wr.getD i false=qy P o)with
     |true=>ui N S o.dst (KW N ops S o) (uu P N B T inl ops o S) (zV (m.set i true) (uw P N B T inl ops wr n))|false=>.bad 78
    |_,_=>Gd ((i::rd).map λj=>match ops[j]? with
     |some o=>match decide (wr.getD j false=qy P o)with
      |true=>ui N S o.dst (KW N ops S o) (uu P N B T inl ops o S) (zV (m.set j true) (uw P N B T inl ops wr n))|false=>.bad 78
     |none=>.bad 77)
def Rj(P:Program)(N B:Nat)(T:List (Nat × bZ))(inl:Nat->List ag->ax->aG)(ops:Array Oper)(S:ax):aG:=
 match P.follows .mixedOrders&&Region.noSelect ops with
 |true=>zV (List.replicate ops.size false) (uw P N B T inl ops (ops.toList.map (qy P)) ops.size) S|false=>.bad 75
section
variable {P:Program} {G:aV} {N B:Nat} {M:List bs} {T:List (Nat × bZ)} {inl:Nat->List ag->ax->aG}
theorem zkZ{v:ag}{e:Env}(h:CG v=true): ∃c,v.den G e= .ad (.v c):=by
 unfold CG at h
 split at h
 ·rename_i ah;exact⟨_,hH ah⟩
 ·rename_i ah;exact⟨_,hH ah⟩
 ·rename_i ah;exact⟨_,hH ah⟩
 ·cases h
theorem zk0{t:TypeId}{n:Nat}(h:nF P t=some n):scalar P t=false:=by
 unfold nF at h;unfold scalar
 split at h<;>simp_all
theorem jW.vS{ops:Array Oper}{o:Oper}{s:aS}{v:aC}(h:pz P G o s v)(ai:fh ops s o=some true):jW P G ops o s (s.put o.dst v):=by
 intro E a w ⟨β,ro,ah⟩;have hw:=nJ (ops:=ops) ⟨β,ro,ah⟩ ai;obtain⟨c,aa,ae⟩:=h E a w β ro ah;exact⟨c,.inl ⟨hw,λbA _=>aa bA⟩,β,ro,ah.put _ _ _ ae⟩
theorem Z7{o:Oper}{S:ax}{t:TypeId}{x i:Operand}{r:eC}{e:Env}(av:o.op= .indexAddr t x i)(h:Q9 P S t (S.bj N x) (S.bj N i)=some r)(hf:S.cV e)(hx: ∀(j:Nat) (x:cf),r.xs[j]? =some x->Env.at e (S.k+j)=x.den M e)(hn: ∀n∈r.ns,n.ok M e):pz P G o (S.den G N B e) (r.v.den G e):=by
 unfold Q9 at h
 split at h
 ·rename_i k n c hi oT hc
  split at h
  ·rename_i af
   cases h
   have af:=zWi af;rw[af]at oT;have il:aR G (S.den G N B e) i=_:=(b3 hf i).trans (mr hi);obtain⟨hd,zC⟩:=Pk (G:=G) (e:=e) hc;obtain⟨g1,g2⟩:=B1 hf hi hn;have:=XA c _ k _ av oT il ((b3 hf x).trans hd) g1 g2;have aP:Env.at e S.k=_:=hx 0 _ rfl;have aa:=X6 (G:=G) (x:=List.getD ((S.bj N x).aL e (.li c)) (Int.toNat ((S.bj N i).aL e (.int k))) (aZ c)) aP;show pz P G o _ ((ag.ip c S.k 0).den G e);rw[aa];exact this
  ·cases h
 ·cases h
theorem zk1{o:Oper}{s:aS}(t:TypeId)(x i:Operand)(av:o.op= .indexAddr t x i){n:Nat}(aJ:lY P t=some n){k:IntKind}{j:Nat}(hi:aR G s i= .ad (.v (.int k (j:Int)))){p:aC}(ar:oo s.heap n j (aR G s x)=some p):
 pz P G o s p:=
 λ_ a w β ro ah=>by
  obtain⟨dj,len,cap,hc,aj,dO⟩:=WO ah.heap (ah.eval x) ar;obtain⟨e,hu,b4⟩:=zg aJ;refine⟨_,λbA=>?_,dO⟩;have o9:(0:Int)<=j/\(j:Int)<len:=⟨by omega,by omega⟩
  simp[execOp,av,hc,ah.ef hi,Instr.indexAt,asIntOf,run_underlying hu,aj,b4]
theorem Z8{o:Oper}{S:ax}{t:TypeId}{x i:Operand}{id:Nat}{r:eC}{e:Env}(av:o.op= .indexAddr t x i)(bq:S.bj N x= .aq id)(h:Q8 P S t id (S.bj N i)=some r)(hf:S.cV e)(hx: ∀(j:Nat) (x:cf),r.xs[j]? =some x->Env.at e (S.k+j)=x.den M e)(hn: ∀n∈r.ns,n.ok M e):pz P G o (S.den G N B e) (r.v.den G e):=by
 unfold Q8 at h
 split at h
 ·rename_i k n br c y hi oT ai
  split at h
  ·rename_i af
   cases h
   have af:=zWi af;have il:aR G (S.den G N B e) i=_:=(b3 hf i).trans (mr hi);obtain⟨g1,g2⟩:=B1 hf hi hn;obtain⟨j,aj⟩: ∃j:Nat,(S.bj N i).aL e (.int k)=(j:Int):=⟨_,(zW7 g1).symm⟩;rw[aj]at il g2;have g2:(j:Int)<((zZ5 (y.aL e (.li c)):Nat):Int):=g2
   have:=zk1 (P:=P) (o:=o) t x i av oT il (p:=.du id j 0) (by
    rw[b3 hf,bq];simp only[ag.den,oo,ax.den,fx,ai,Option.map_some,b1.den]
    rw[if_pos ⟨af.symm,by rw[zXe];omega⟩])
   simp only[ag.den,pD hi,aj,zW8];exact this
  ·cases h
 ·cases h
theorem Z9{o:Oper}{s:aS}(t:TypeId)(x i:Operand)(av:o.op= .indexAddr t x i){len n:Nat}(aJ:wq P t=some (len,n)){k:IntKind}{j:Nat}(hi:aR G s i= .ad (.v (.int k (j:Int))))(aj:j<len)
 {cs:List aC}(fH:gj s.heap (aR G s x)=some cs){p:aC}(ar:ku (j*n) (aR G s x)=some p):
 pz P G o s p:=
 λ_ a w β ro ah=>by
  obtain⟨dj,hc,dO⟩:=Wf ar fH (ah.eval x);unfold wq at aJ
  split at aJ
  ·rename_i m e hu
   cases zh:P.info? e with
   |none=>simp[zh]at aJ|some dA=>
    simp[zh]at aJ;obtain⟨rfl,rfl⟩:=aJ;refine⟨_,λbA=>?_,dO⟩;simp[execOp,av,hc,ah.ef hi,Instr.indexAt,asIntOf,run_underlying hu,Instr.sureAddr,aj,sizeOf,typeInfo,zh]
  ·cases aJ
theorem zaa{o:Oper}{S:ax}{t:TypeId}{x i:Operand}{id off:Nat}{r:eC}{e:Env}(av:o.op= .indexAddr t x i)(bq:S.bj N x= .fi id off)(h:Ra P S t id off (S.bj N i)=some r)(hf:S.cV e)(hn: ∀n∈r.ns,n.ok M e):pz P G o (S.den G N B e) (r.v.den G e):=by
 unfold Ra at h
 split at h
 ·rename_i k len n l hi ba au
  have il:aR G (S.den G N B e) i=_:=(b3 hf i).trans (mr hi);have fH:=Fy (G:=G) (N:=N) (B:=B) (e:=e) au;have lN:aR G (S.den G N B e) x=(ag.fi id off).den G e:=by rw[b3 hf,bq]
  rw[<-lN]at fH
  split at h
  ·rename_i bl j aj
   split at h
   ·rename_i p dv ar
    cases h;refine Z9 t x i av ba (k:=bl) (j:=j) (by rw[b3 hf,aj];rfl) (fz dv) fH ?_
    have ao:=Fz (G:=G) (e:=e) ar;rw[<-ao,lN];rfl
   ·cases h
  ·cases h
   have lI:0<=cQ ((S.bj N i).dyn e)/\cQ ((S.bj N i).dyn e)<(len:Int):=JK hf hn;obtain⟨j,aj⟩: ∃j:Nat,cQ ((S.bj N i).dyn e)=(j:Int):=⟨_,(zW7 lI.1).symm⟩;rw[<-pD hi,aj]at il;refine Z9 t x i av ba il (by omega) fH ?_
   rw[lN];simp only[ag.den,ku,aj,zW8]
 ·cases h
theorem zab{o:Oper}{S:ax}{t:TypeId}{x:Operand}{lo hi:Option Operand}{r:eC}{e:Env}(av:o.op= .slice t x lo hi none)(h:KV P N S t (S.bj N x) lo hi=some r)(hf:S.cV e)(hx: ∀(j:Nat) (x:cf),r.xs[j]? =some x->Env.at e (S.k+j)=x.den M e)(hn: ∀n∈r.ns,n.ok M e):pz P G o (S.den G N B e) (r.v.den G e):=by
 unfold KV at h
 split at h
 ·rename_i l h' c n au a8 ah oT
  split at h
  ·rename_i af
   cases h;rw[zWi af]at oT
   have aP:Env.at e S.k=_:=hx 0 _ rfl;simp only[ag.den,aP,cf.den,df];exact XP c _ av oT ((b3 hf x).trans (hH ah)) (B8 hf au) (B8 hf a8) (hn _ (zW0.2 rfl))
  ·cases h
 ·cases h
theorem zk2{ops:Array Oper}{o:Oper}{S:ax}{r:eC}{e:Env}(h:vP P N S o=some r)(hf:S.cV e)(hx: ∀(j:Nat) (x:cf),r.xs[j]? =some x->Env.at e (S.k+j)=x.den M e)(hn: ∀n∈r.ns,n.ok M e)(ai:fh ops (S.den G N B e) o=some true):
 jW P G ops o (S.den G N B e) ((S.den G N B e).put o.dst (r.v.den G e)):=by
 have key:(match uf P N S o with
  |some r=>match CG r.v with
   |true=>some r|false=>none
  |none=>none)=some r->jW P G ops o (S.den G N B e) ((S.den G N B e).put o.dst (r.v.den G e)):=λh=>by
  split at h
  ·rename_i e5 az
   split at h
   ·rename_i hc
    cases h
    have e1:=zD (G:=G) (B:=B) (M:=M) az e hf hx hn;obtain⟨c,zk3⟩:=zkZ (G:=G) (e:=e) hc;rw[zk3]at e1⊢;exact jW.uW e1 ai
   ·cases h
  ·cases h
 unfold vP at h
 split at h
 ·rename_i x av
  cases h
  have:mO P G o (S.den G N B e)=some ((S.bj N x).den G e):=by unfold mO;rw[av,<-b3 hf]
  exact(hC.val this ai).l
 ·rename_i x av
  cases h
  have:mO P G o (S.den G N B e)=some ((S.bj N x).den G e):=by unfold mO;rw[av,<-b3 hf]
  exact(hC.val this ai).l
 ·rename_i x av
  split at h
  ·rename_i ar
   cases h
   have:mO P G o (S.den G N B e)=some ((S.bj N x).den G e):=by
    unfold mO;rw[av];simp only[b3 hf,zy ar]
   exact(hC.val this ai).l
  ·cases h
 ·rename_i t x f av
  split at h
  ·rename_i k an ar
   split at h
   ·rename_i p ao
    cases h
    have:mO P G o (S.den G N B e)=some (p.den G e):=by
     unfold mO;rw[av];simp only[an,b3 hf,zy ar,Fz ao]
    exact(hC.val this ai).l
   ·cases h
  ·cases h
 ·rename_i t x av
  split at h
  ·rename_i l au
   split at h
   ·rename_i v az
    cases h
    have hc:=Fy (G:=G) (N:=N) (B:=B) (e:=e) au
    have:Js P G o (S.den G N B e)=some (v.den G e):=by
     unfold Js;rw[av];simp only[b3 hf,hc]
     rcases Zs (G:=G) (e:=e) az with⟨n,g1,g2,g3,g4⟩|⟨g1,g2,e5,g3⟩
     ·cases l with
      |nil=>simp at g2;omega|cons y l=>
       have ao:scalar P t=false:=zk0 g1;rw[g4];simp only[ag.cc,ao,g1];rw[if_pos ⟨by simpa[qq]using g2,g3⟩]
     ·subst g3
      simp only[ag.cc,g2]
    exact jW.load this ai
   ·cases h
  ·exact key h
 ·rename_i t x i av
  split at h
  ·rename_i id bq
   exact jW.vS (Z8 av bq h hf hx hn) ai
  ·rename_i id off bq
   exact jW.vS (zaa av bq h hf hn) ai
  ·exact jW.vS (Z7 av h hf hx hn) ai
 ·rename_i t x lo hi av
  split at h
  ·rename_i e5 ao
   cases h;exact jW.vS (zab av ao hf hx hn) ai
  ·exact key h
 ·exact key h
mutual
theorem zac{e:Env}: ∀{x:ag},ag.pure x=true->jF (x.den G e)=true:=λ{x} h=>by
 cases x with
 |cH l=>simp only[ag.den,jF];exact CI (l:=l) h|tp l=>simp only[ag.den,jF];exact CI (l:=l) h|fn f a b=>
  simp only[ag.pure,zZr]at h;simp only[ag.den,jF,CI h.1,CI h.2,zVg]
 |fi k o=>cases h
 |iM k x o=>cases h
 |iY k o x n=>cases h
 |cM k n=>cases h
 |gC g i o=>cases h
 |aq k=>cases h
 |jb k=>cases h
 |hg g b x=>cases h
 |mo g o=>cases h
 |top=>cases h
 |_=>rfl
theorem CI{e:Env}: ∀{l:List ag},ag.gI l=true->gI (ag.cc G e l)=true:=λ{l} h=>by
 match l with
 |[]=>rfl|x::r=>
  simp only[ag.gI,zZr]at h;simp only[ag.cc,gI,zac h.1,CI h.2,zVg]
end
def xM(G:aV)(N B:Nat)(M:List bs)(t:aG)(e:Env)(aX:Nat):aS->Prop:=λst=>
 ∃aM aE,run M t e=some (.cp,aM,aE)/\aM.cU/\aM.cV aE/\cy aX e aE/\aX<=aM.k/\st=aM.den G N B aE
theorem zad(cO:gK P G M inl){ops:Array Oper}{o:Oper}{S:ax}{e:Env}(af:S.cU)(hf:S.cV e)(ao:(vQ P N B T inl o S).safe M e)(ai:fh ops (S.den G N B e) o=some true):
 (qy P o=true->Q7 P G ops o (S.den G N B e) (xM G N B M (vQ P N B T inl o S) e S.k))/\(qy P o=false->mW P G ops o (S.den G N B e) (xM G N B M (vQ P N B T inl o S) e S.k)):=by
 refine⟨λhw=>?_,λhw=>?_⟩
 ·unfold vQ at ao⊢
  rw[hw]at ao⊢;simp only at ao⊢
  split at ao
  ·rename_i r aB
   split at ao
   ·rename_i hc
    simp only[zZr]at hc;obtain⟨ib,hq⟩:=pF ao;have ck:cy S.k e (ed M e S.k r.xs):=mv (zZv _);have e1:=YW (G:=G) (M:=M) aB (ed M e S.k r.xs) (kL ck af.g hf) (lO hc.1) ib;rw[nu ck af]at e1;obtain⟨bA,ec⟩:=Y3 (M:=M) (o:=o) af hf hc.1 hc.2.1 hc.2.2;exact λE a w ah=>⟨nJ ah ai,λK Q hK=>e1 E a w ah K Q λbo w' dW=>hK _ ⟨(r.st S o.dst).fZ S.k r.xs,_,oU,bA,ec,ck,zY8 _ _,rfl⟩ bo w' dW⟩
   ·exact ao.elim
  ·split at ao
   ·rename_i f aI uR
    split at ao
    ·rename_i iw
     obtain⟨t1,t2,_⟩:=kK ((inl f aI S).fe (uo S o.dst) none) none ao;obtain⟨g1,g2,g3⟩:=kK (inl f aI S) none t1;obtain⟨p,jA,args,qv,pT,bR⟩:=Qk (G:=G) (B:=B) uR hf af;have hP:=cO f _ S e af bR hf g1;rw[qv]at hP;refine λE a w ah=>⟨nJ ah ai,λK Q hK=>Yd pT iw hP (s':=λt=>∃C aD,run M (inl f aI S) e=some (.cp,C,aD)/\C.cU/\C.cV aD/\cy S.k e aD/\S.k<=C.k/\zK S C=true/\t=(S.back o.dst C).den G N B aD) (λr cu ⟨C,aD,aO,bz,bd,dV,eK,ij,gg⟩=>?_) E a w ah K Q λt ⟨C,aD,aO,dV,eK,ij,gg,bp,aJ⟩ bo w' dW=>?_⟩
     ·have ai:=(g3 C aD aO).1
      have bp:zK S C=true:=by
       unfold uo at ai
       split at ai
       ·assumption
       ·exact ai.elim
      have e7:=bp;simp only[zK,zZr]at e7;refine⟨C.n,Nat.le_of_ble_eq_true e7.2.1,?_,?_,?_,C,aD,aO,dV,eK,ij,gg,bp,?_⟩
      ·rw[bz];exact FP e7.1.1
      ·rw[bd];exact zL e7.1.2
      ·rw[bd];exact Y2 e7.2.2
      ·rw[bz,bd,ax.back,gu]
       have:=nu (G:=G) (N:=N) (B:=B) ij af;have xa:lb G aD S.l 0 N=lb G e S.l 0 N:=congrArg aS.dn this;simp only[ax.den,xa]
     ·subst aJ
      have cE:run M ((inl f aI S).fe (uo S o.dst) none) e=some (.cp,S.back o.dst C,aD):=by
       rw[g2,aO];simp only[ki,uo,bp];rfl
      have rv:(S.back o.dst C).cU:=by
       unfold ax.back;refine lR ⟨λi x hx=>iq gg (af.l i x hx),dV.h,dV.g⟩ ?_;show(C.at 0).lt C.k=true;unfold ax.at
       cases iD:C.l.get 0 with
       |none=>rfl|some y=>exact dV.l 0 y iD
      have fJ:(S.back o.dst C).cV aD:=lS eK;have uO:S.k<=(S.back o.dst C).k:=by unfold ax.back;rw[lT];exact gg
      obtain⟨ib,hq,nM,Kr⟩:=Y4 (G:=G) (N:=N) (B:=B) (S:=S) rv fJ;obtain⟨ji,mg,zM,sP⟩:=Y6 (G:=G) (N:=N) (B:=B) (S:=S) (dst:=o.dst) ib hq;refine hK _ ⟨vK B N S (vJ B S (S.back o.dst C)) o.dst,aD,?_,ji,mg,ij,by rw[zM,nM];exact uO,rfl⟩ bo w' (b5.trans Kr sP E G bo w' dW)
      rw[t2,cE];rfl
    ·exact ao.elim
   ·exact ao.elim
 ·unfold vQ at ao⊢
  rw[hw]at ao⊢;simp only at ao⊢
  split at ao
  ·rename_i r az
   split at ao
   ·rename_i hc
    simp only[zZr]at hc;obtain⟨ib,hq⟩:=pF ao;obtain⟨cw,a2,a3⟩:=vM (M:=M) (G:=G) (N:=N) (B:=B) af hf hc.1;have ck:cy S.k e (ed M e S.k r.xs):=mv (zZv _);have e1:=zD (G:=G) (B:=B) (M:=M) az (ed M e S.k r.xs) (kL ck af.g hf) (lO hc.1) ib;rw[nu ck af]at e1;exact mW.v e1 ai ⟨(S.fZ S.k r.xs).put o.dst r.v,_,oU,lR cw hc.2,lS a2,ck,by rw[lT];exact zY8 _ _,by rw[gu,a3]⟩
   ·exact ao.elim
  ·split at ao
   ·rename_i f aI uR
    split at ao
    ·rename_i iw
     simp only[zZr]at iw;obtain⟨iw,DA⟩:=iw;obtain⟨g1,g2,g3⟩:=kK (inl f aI ⟨.emp,[],0,S.k,S.g⟩) none ao;obtain⟨p,jA,args,qv,pT,bR⟩:=Qk (G:=G) (B:=B) uR hf af;have zk4:(⟨.emp,[],0,S.k,S.g⟩:ax).cU:=⟨λi x hx=>by simp[bn.get]at hx,rfl,af.g⟩
     have hP:=cO f _ ⟨.emp,[],0,S.k,S.g⟩ e zk4 bR hf g1;have CJ:=CI (G:=G) (e:=e) DA;rw[qv]at hP CJ;refine mW.call pT iw ai CJ hP λr cu ⟨C,aD,aO,bz,bd,dV,eK,ij,gg⟩=>?_;have ar:=(g3 C aD aO).1
     have lx:ag.pure (C.at 0)=true:=by
      unfold Rc at ar
      split at ar
      ·assumption
      ·exact ar.elim
     refine⟨by rw[bz];exact zac lx,(⟨S.l,S.h,S.n,C.k,C.g⟩:ax).put o.dst (C.at 0),aD,?_,?_,lS eK,ij,by rw[lT];exact gg,?_⟩
     ·rw[g2,aO]
      simp only[ki,Rc,lx];rfl
     ·refine lR ⟨λi x hx=>iq gg (af.l i x hx),zu gg af.h,dV.g⟩ ?_
      show(C.at 0).lt C.k=true;unfold ax.at
      cases iD:C.l.get 0 with
      |none=>rfl|some y=>exact dV.l 0 y iD
     ·rw[gu,bz]
      have:=nu (G:=G) (N:=N) (B:=B) (S:=S) ij af;have ae:(ax.mk S.l S.h S.n C.k C.g).den G N B aD=S.den G N B e:=this;rw[ae]
    ·exact ao.elim
   ·exact ao.elim
theorem zk5{o:Oper}{S:ax}{e:Env}(af:S.cU)(hf:S.cV e):xM G N B M (.db .cp (S.put o.dst (.tp []))) e S.k ((S.den G N B e).put o.dst (.tuple [])):=
 ⟨S.put o.dst (.tp []),e,rfl,lR af rfl,lS hf,cy.refl _ _,by rw[lT];exact zZv _,by rw[gu];rfl⟩
theorem mW.mono{ops:Array Oper}{o:Oper}{s:aS}{A zae:aS->Prop}(h:mW P G ops o s A)(ej: ∀t,A t->zae t):mW P G ops o s zae:=λE a w ah=>by
 rcases h E a w ah with⟨aa,ae⟩|⟨aa,t,ae,aw⟩
 ·exact .inl ⟨aa,λK Q hK=>ae K Q λt aJ=>hK t (ej t aJ)⟩
 ·exact .inr ⟨aa,t,ej t ae,aw⟩
theorem zaf(cO:gK P G M inl){ops:Array Oper}{o:Oper}{S:ax}{e:Env}(af:S.cU)(hf:S.cV e)(ao:(uu P N B T inl ops o S).safe M e):
 (qy P o=true->Q7 P G ops o (S.den G N B e) (xM G N B M (uu P N B T inl ops o S) e S.k))/\(qy P o=false->mW P G ops o (S.den G N B e) (xM G N B M (uu P N B T inl ops o S) e S.k)):=by
 have ai:=Qn (G:=G) (N:=N) (B:=B) (ops:=ops) (o:=o) hf;unfold uu at ao⊢
 cases lg:guardOf N ops S o with
 |yes=>
  rw[lg]at ai ao;exact zad cO af hf ao ai
 |no=>
  rw[lg]at ai ao;simp only at ao⊢
  split at ao
  ·rename_i hw
   exact⟨λh=>(by rw[hw]at h;cases h),λ_=>.no ai (zk5 af hf)⟩
  ·exact ao.elim
 |bad=>rw[lg]at ao;exact ao.elim|on gs=>
  rw[lg]at ai ao;simp only at ao⊢;obtain⟨g1,g2⟩:=ai
  split at ao
  ·rename_i zag
   simp only[zZr,zZb]at zag;obtain⟨l5,hw⟩:=zag;refine⟨λh=>(by rw[hw]at h;cases h),λ_=>?_⟩
   split at ao
   ·rename_i q az
    split at ao
    ·rename_i hc
     simp only[zZr]at hc;obtain⟨ib,hq⟩:=pF ao;obtain⟨cw,a2,a3⟩:=vM (M:=M) (G:=G) (N:=N) (B:=B) af hf hc.1;have ck:cy S.k e (ed M e S.k q.xs):=mv (zZv _);have kG:ho (ed M e S.k q.xs) gs=ho e gs:=Kv ck l5;have an:S.k<=S.k+q.xs.length:=zY8 _ _;have sH:(mU gs q.v).lt (S.k+q.xs.length)=true:=Kt (Ku an l5) hc.2
     have ik: ∀t,t=(S.den G N B e).put o.dst ((mU gs q.v).den G (ed M e S.k q.xs))->xM G N B M (emit S.k q.xs (q.ns.map (uk gs)) (.db .cp ((S.fZ S.k q.xs).put o.dst (mU gs q.v)))) e S.k t:=λt aJ=>
      ⟨(S.fZ S.k q.xs).put o.dst (mU gs q.v),_,oU,lR cw sH,lS a2,ck,by rw[lT];exact zY8 _ _,by rw[gu,a3,aJ]⟩
     cases gP:ho e gs with
     |true=>
      have kz:=Cp hf gP;have jj:=Co af l5;have e1:=zD (G:=G) (B:=B) (M:=M) az (ed M e S.k q.xs) (kL ck jj.g kz) (lO hc.1) λn hn=>Ky (ib (uk gs n) (zXs.2 ⟨n,hn,rfl⟩)) (kG.trans gP);have Ct:({S with g:=ju gs S.g}:ax).den G N B (ed M e S.k q.xs)=S.den G N B e:=nu (S:={S with g:=ju gs S.g}) ck jj
      rw[Ct]at e1;exact mW.v e1 (g1 gP) (ik _ (by rw[Kw (kG.trans gP)]))
     |false=>exact mW.no (g2 gP) (ik _ (by rw[Kx (kG.trans gP)]))
    ·exact ao.elim
   ·cases gP:ho e gs with
    |false=>
     obtain⟨dF,dp,dP,hT⟩:=Qq (M:=M) (x:=vQ P N B T inl o {S with g:=ju gs S.g}) (y:=vL S o.dst) (l:=S.g) gP l5 af.g hf
     obtain⟨aM,vG,sQ,Qt,A5,r4⟩:=Zd (G:=G) (N:=N) (B:=B) (dst:=o.dst) af dP hT;exact mW.no (g2 gP) ⟨aM,e,by rw[dp,vG];rfl,sQ,Qt,cy.refl _ _,A5,r4.symm⟩
    |true=>
     have kz:=Cp hf gP;have jj:=Co af l5;obtain⟨f1,f2⟩:=Qp (M:=M) (x:=vQ P N B T inl o {S with g:=ju gs S.g}) (y:=vL S o.dst) (l:=S.g) gP
     refine mW.mono ((zad cO (S:={S with g:=ju gs S.g}) jj kz (f2 ao) (g1 gP)).2 hw) λt ⟨aM,aE,aa,ae⟩=>⟨aM,aE,?_,ae⟩
     rw[f1];exact aa
  ·exact ao.elim
theorem zah{ops:Array Oper}{o:Oper}{S:ax}{e:Env}{k:ax->aG}(X:aS->aS->Prop)(c:ax->Prop)
 (au: ∀(S:ax) (r:eC) (e:Env),c S->vP P N S o=some r->S.cV e->(∀(j:Nat) (x:cf),r.xs[j]? =some x->Env.at e (S.k+j)=x.den M e)->(∀n∈r.ns,n.ok M e)->fh ops (S.den G N B e) o=some true->X (S.den G N B e) ((S.den G N B e).put o.dst (r.v.den G e)))
 (an: ∀s,fh ops s o=some false->X s (s.put o.dst (.tuple [])))(iD:guardOf N ops S o= .yes->c S)(By: ∀gs,guardOf N ops S o= .on gs->c {S with g:=ju gs S.g})(af:S.cU)(hf:S.cV e)(ao:(xL P N ops o S k).safe M e):
 ∃aM aE,aM.cU/\aM.cV aE/\cy S.k e aE/\S.k<=aM.k/\(k aM).safe M aE/\run M (xL P N ops o S k) e=run M (k aM) aE/\X (S.den G N B e) (aM.den G N B aE):=by
 have ai:=Qn (G:=G) (N:=N) (B:=B) (ops:=ops) (o:=o) hf;unfold xL at ao⊢
 cases lg:guardOf N ops S o with
 |bad=>rw[lg]at ao;exact ao.elim|no=>
  rw[lg]at ai ao;have:=an _ ai;exact⟨S.put o.dst (.tp []),e,lR af rfl,lS hf,cy.refl _ _,by rw[lT];exact zZv _,ao,rfl,by rw[gu];exact this⟩
 |yes=>
  rw[lg]at ai ao;simp only at ao⊢
  split at ao
  ·rename_i q az
   split at ao
   ·rename_i hc
    simp only[zZr]at hc;obtain⟨ib,hq⟩:=pF ao;obtain⟨cw,a2,a3⟩:=vM (M:=M) (G:=G) (N:=N) (B:=B) af hf hc.1;have ck:cy S.k e (ed M e S.k q.xs):=mv (zZv _);have hd:=nu (G:=G) (N:=N) (B:=B) ck af;have e1:=au _ _ _ (iD lg) az (kL ck af.g hf) (lO hc.1) ib (by rw[hd];exact ai)
    rw[hd]at e1;exact⟨(S.fZ S.k q.xs).put o.dst q.v,_,lR cw hc.2,lS a2,ck,by rw[lT];exact zY8 _ _,hq,oU,by rw[gu,a3];exact e1⟩
   ·exact ao.elim
  ·exact ao.elim
 |on gs=>
  rw[lg]at ai ao;simp only at ao⊢;obtain⟨g1,g2⟩:=ai
  split at ao
  ·rename_i l5
   split at ao
   ·rename_i q az
    split at ao
    ·rename_i hc
     simp only[zZr]at hc;obtain⟨ib,hq⟩:=pF ao;obtain⟨cw,a2,a3⟩:=vM (M:=M) (G:=G) (N:=N) (B:=B) af hf hc.1;have ck:cy S.k e (ed M e S.k q.xs):=mv (zZv _);have kG:ho (ed M e S.k q.xs) gs=ho e gs:=Kv ck l5;have uO:S.k<=S.k+q.xs.length:=zY8 _ _;have sH:(mU gs q.v).lt (S.k+q.xs.length)=true:=Kt (Ku uO l5) hc.2;refine⟨(S.fZ S.k q.xs).put o.dst (mU gs q.v),_,lR cw sH,lS a2,ck,by rw[lT];exact zY8 _ _,hq,oU,?_⟩
     rw[gu,a3]
     cases gP:ho e gs with
     |true=>
      have kz:=Cp hf gP;have jj:=Co af l5;have Ct:({S with g:=ju gs S.g}:ax).den G N B (ed M e S.k q.xs)=S.den G N B e:=nu (S:={S with g:=ju gs S.g}) ck jj
      have e1:=au _ _ _ (By gs lg) az (kL ck jj.g kz) (lO hc.1) (λn hn=>Ky (ib (uk gs n) (zXs.2 ⟨n,hn,rfl⟩)) (kG.trans gP)) (by rw[Ct];exact g1 gP)
      rw[Ct]at e1;rw[Kw (kG.trans gP)];exact e1
     |false=>
      rw[Kx (kG.trans gP)];exact an _ (g2 gP)
    ·exact ao.elim
   ·exact ao.elim
  ·exact ao.elim
theorem zk6{ops:Array Oper}{o:Oper}{S:ax}{e:Env}{k:ax->aG}(af:S.cU)(hf:S.cV e)(ao:(xL P N ops o S k).safe M e):
 ∃aM aE,aM.cU/\aM.cV aE/\cy S.k e aE/\S.k<=aM.k/\(k aM).safe M aE/\run M (xL P N ops o S k) e=run M (k aM) aE/\jW P G ops o (S.den G N B e) (aM.den G N B aE):=
 zah (jW P G ops o) (λ_=>True) (λ_ _ _ _ az hf hx hn ai=>zk2 az hf hx hn ai) (λ_ h=>(hC.skip h).l) (λ_=>trivial) (λ_ _=>trivial) af hf ao
theorem hC.vS{ops:Array Oper}{o:Oper}{s:aS}{v:aC}(h:pz P G o s v)(ai:fh ops s o=some true):hC P G ops o s (s.put o.dst v):=by
 intro E a w ⟨β,ro,ah⟩;have hw:=nJ (ops:=ops) ⟨β,ro,ah⟩ ai;obtain⟨c,aa,ae⟩:=h E a w β ro ah;exact⟨c,.inl ⟨hw,aa⟩,β,ro,ah.put _ _ _ ae⟩
theorem zk7{ops:Array Oper}{o:Oper}{S:ax}{r:eC}{e:Env}(ar:pop P N S o=true)(h:vP P N S o=some r)(hf:S.cV e)(hx: ∀(j:Nat) (x:cf),r.xs[j]? =some x->Env.at e (S.k+j)=x.den M e)(hn: ∀n∈r.ns,n.ok M e)(ai:fh ops (S.den G N B e) o=some true):
 hC P G ops o (S.den G N B e) ((S.den G N B e).put o.dst (r.v.den G e)):=by
 unfold vP at h;unfold pop at ar
 split at h
 ·rename_i x av
  cases h
  have:mO P G o (S.den G N B e)=some ((S.bj N x).den G e):=by unfold mO;rw[av,<-b3 hf]
  exact hC.val this ai
 ·rename_i x av
  cases h
  have:mO P G o (S.den G N B e)=some ((S.bj N x).den G e):=by unfold mO;rw[av,<-b3 hf]
  exact hC.val this ai
 ·rename_i x av
  split at h
  ·rename_i aB
   cases h
   have:mO P G o (S.den G N B e)=some ((S.bj N x).den G e):=by
    unfold mO;rw[av];simp only[b3 hf,zy aB]
   exact hC.val this ai
  ·cases h
 ·rename_i t x f av
  split at h
  ·rename_i k an aB
   split at h
   ·rename_i p ao
    cases h
    have:mO P G o (S.den G N B e)=some (p.den G e):=by
     unfold mO;rw[av];simp only[an,b3 hf,zy aB,Fz ao]
    exact hC.val this ai
   ·cases h
  ·cases h
 ·rename_i t x av
  rw[av]at ar;cases ar
 ·rename_i t x i av
  split at h
  ·rename_i id bq
   exact hC.vS (Z8 av bq h hf hx hn) ai
  ·rename_i id off bq
   exact hC.vS (zaa av bq h hf hn) ai
  ·exact hC.vS (Z7 av h hf hx hn) ai
 ·rename_i t x lo hi av
  split at h
  ·rename_i e5 ao
   cases h;exact hC.vS (zab av ao hf hx hn) ai
  ·rename_i ao
   rw[av]at ar;simp only[ao,Option.isSome_none]at ar;cases ar
 ·rename_i aa ae aw aN bx cB eN
  split at ar
  ·rename_i x av;exact absurd av (aa x)
  ·rename_i x av;exact absurd av (ae x)
  ·rename_i x av;exact absurd av (aw x)
  ·rename_i t x f av;exact absurd av (aN t x f)
  ·rename_i t x i av;exact absurd av (cB t x i)
  ·rename_i t x lo hi av;exact absurd av (eN t x lo hi)
  ·cases ar
theorem zk8{ops:Array Oper}{o:Oper}{S:ax}{e:Env}{k:ax->aG}(ar:CH P N ops S o=true)(af:S.cU)(hf:S.cV e)(ao:(xL P N ops o S k).safe M e):
 ∃aM aE,aM.cU/\aM.cV aE/\cy S.k e aE/\S.k<=aM.k/\(k aM).safe M aE/\run M (xL P N ops o S k) e=run M (k aM) aE/\hC P G ops o (S.den G N B e) (aM.den G N B aE):=
 zah (hC P G ops o) (λS=>pop P N S o=true) (λ_ _ _ hc az hf hx hn ai=>zk7 hc az hf hx hn ai) (λ_ h=>hC.skip h)
  (λai=>by unfold CH at ar;rw[ai]at ar;exact ar) (λgs ai=>by unfold CH at ar;rw[ai]at ar;exact ar) af hf ao
theorem zk9{x y:cv}(h:Re x y=true):x=y:=by
 unfold Re at h
 split at h
 ·simp only[zZr,decide_eq_true_eq]at h;rw[zWi h.1,h.2.1,eQ h.2.2]
 ·simp only[zZr,decide_eq_true_eq]at h
  obtain⟨⟨aa,ae⟩,aw,aN⟩:=h
  cases zWi aa;cases ae;rw[eQ aw,eQ aN]
 ·simp only[zZr]at h;rw[zWi h.1,eQ h.2]
 ·simp only[zZr,decide_eq_true_eq]at h;rw[eQ h.1,h.2]
 ·cases h
theorem zai: ∀{l m:List cv},KX l m=true->l=m
 |[],[],_=>rfl|[],_::_,h=>by cases h
 |_::_,[],h=>by cases h
 |x::l,y::m,h=>by
  simp only[KX,zZr]at h;rw[zk9 h.1,zai h.2]
theorem zla{x y:b1}(h:Rf x y=true):x=y:=by
 unfold Rf at h
 split at h
 ·simp only[zZr]at h;rw[zWi h.1,sJ h.2]
 ·simp only[zZr,decide_eq_true_eq]at h;rw[zWi h.1,h.2.1,eQ h.2.2]
 ·simp only[zZr,decide_eq_true_eq]at h;rw[h.1,eQ h.2.1,eQ h.2.2]
 ·cases h
theorem zaj: ∀{l m:List (Nat × b1)},KY l m=true->l=m
 |[],[],_=>rfl|[],_::_,h=>by cases h
 |_::_,[],h=>by cases h
 |(i,x)::l,(j,y)::m,h=>by
  simp only[KY,zZr]at h;rw[zWi h.1,zla h.2.1,zaj h.2.2]
theorem Rk: ∀{l m:bn ag},Gc l m=true->l=m
 | .emp,.emp,_=>rfl| .emp,.n _ _ _,h=>by cases h
 | .n _ _ _,.emp,h=>by cases h
 | .n v l r,.n w m s,h=>by
  simp only[Gc,zZr]at h;rw[Rk h.2.1,Rk h.2.2];have aa:=h.1
  cases v<;>cases w<;>first|rfl|(cases aa;done)|(rw[eQ aa])
theorem zlb{S U:ax}(h:Rg S U=true):S=U:=by
 obtain⟨cw,a2,a3,a4,a5⟩:=S;obtain⟨e6,gl,iB,sG,Ca⟩:=U;simp only[Rg,zZr]at h;obtain⟨⟨aa,ae⟩,⟨aw,aN⟩,bx⟩:=h;rw[Rk aa,zaj ae,zWi aw,zWi aN,zai bx]
theorem xN: ∀{x y:Option ag},vR x y=true->x=y
 |none,none,_=>rfl|some x,some y,h=>by rw[eQ (x:=x) (y:=y) h]|none,some _,h=>by cases h
 |some _,none,h=>by cases h
theorem zlc{x y:cf}(h:Rh x y=true):x=y:=by
 unfold Rh at h
 split at h<;>(try simp only[zZr,decide_eq_true_eq]at h)
 ·rw[zWi h.1,sJ h.2]
 ·rw[h.1,zWi h.2.1,zWi h.2.2]
 ·obtain⟨aa,ae⟩:=h;subst aa;rw[eQ ae]
 ·obtain⟨aa,ae,aw⟩:=h;subst aa;rw[eQ ae,eQ aw]
 ·obtain⟨⟨aa,ae⟩,aw,aN⟩:=h;subst aa ae;rw[eQ aw,eQ aN]
 ·obtain⟨⟨aa,ae⟩,aw,aN⟩:=h;subst aa ae;rw[eQ aw,eQ aN]
 ·obtain⟨aa,ae⟩:=h;subst aa;rw[eQ ae]
 ·obtain⟨⟨aa,ae⟩,aw,aN⟩:=h;subst aa;rw[eQ ae,xN aw,xN aN]
 ·obtain⟨ae,aw,aN⟩:=h;rw[eQ ae,xN aw,xN aN]
 ·obtain⟨aa,ae⟩:=h;subst aa;rw[sJ ae]
 ·obtain⟨⟨aa,ae⟩,aw,aN⟩:=h;subst aa;rw[eQ ae,eQ aw,eQ aN]
 ·obtain⟨aa,ae⟩:=h;subst aa;rw[eQ ae]
 ·obtain⟨aa,ae,aw⟩:=h;subst aa;rw[sJ ae,eQ aw]
 ·cases h
theorem zld{x y:hj}(h:Ri x y=true):x=y:=by
 unfold Ri at h
 split at h<;>(try simp only[zZr,decide_eq_true_eq]at h)
 ·obtain⟨⟨aa,ae⟩,aw,aN⟩:=h;subst ae;rw[zWi aa,eQ aw,eQ aN]
 ·rw[zWi h.1,sJ h.2]
 ·rw[zWi h.1,eQ h.2]
 ·obtain⟨⟨aa,ae⟩,aw,aN⟩:=h;subst aa;rw[eQ ae,xN aw,xN aN]
 ·obtain⟨ae,aw,aN⟩:=h;rw[eQ ae,xN aw,xN aN]
 ·obtain⟨aa,ae,aw⟩:=h;subst aa;rw[eQ ae,eQ aw]
 ·rw[zWi h.1,eQ h.2.1,eQ h.2.2]
 ·cases h
theorem zle: ∀{t u:aG},uv t u=true->t=u:=λ{t}=>by
 induction t with
 |db x S=>
  intro u h;unfold uv at h
  split at h<;>first|(cases h;done)|skip
  all_goals rename_i heq
  all_goals first|(cases heq;rw[zlb h];done)|cases heq
 |lt i x t bb=>
  intro u h
  cases u with
  |lt j y u=>
   simp only[uv,zZr]at h;rw[zWi h.1,zlc h.2.1,bb h.2.2]
  |_=>simp[uv]at h
 |fF n t bb=>
  intro u h
  cases u with
  |fF m u=>
   simp only[uv,zZr]at h;rw[zld h.1,bb h.2]
  |_=>simp[uv]at h
 |_=>intro u h;simp[uv]at h
theorem zlf{l:List aG}{e:Env}(h:(Gd l).safe M e): ∃S,Gd l=S/\∀t∈l,t=S:=by
 unfold Gd at h⊢
 split at h
 ·rename_i t r
  split at h
  ·rename_i ao
   refine⟨t,by simp only[ao],λu hu=>?_⟩
   rcases zZf.1 hu with rfl|hu
   ·rfl
   ·exact(zle (zZ2.1 ao u hu)).symm
  ·exact h.elim
 ·exact h.elim
theorem Ge(cO:gK P G M inl){L:List Oper}{wr:List Bool}(l7:Region.noSelect L.toArray=true){Q:Exit->aS->Prop}: ∀(n:Nat) (m:List Bool) {S:ax} {e:Env},S.cU->S.cV e->(uw P N B T inl L.toArray wr n m S).safe M e->(∀st,lQ G N B M (uw P N B T inl L.toArray wr n m S) e S.k .normal st->Q .normal st)->fg P G L Q wr n m (S.den G N B e)
 |0,m,S,e,af,hf,ao,ez=>by
  unfold uw at ao ez
  split at ao
  ·rename_i ah
   rw[ah]at ez;exact fg.done (ez _ ⟨.cp,S,e,rfl,trivial,b5.refl _,af,hf,cy.refl _ _,zZv _⟩) ah
  ·exact ao.elim
 |n+1,m,S,e,af,hf,ao,ez=>by
  unfold uw at ao ez;simp only[KZ]at ao ez
  cases ah:Region.ready .any L.toArray m.toArray with
  |nil=>
   rw[ah]at ez;exact fg.done (ez _ ⟨.cp,S,e,rfl,trivial,b5.refl _,af,hf,cy.refl _ _,zZv _⟩) ah
  |cons i rd=>
   rw[ah]at ao ez;simp only at ao ez
   split at ao
   ·rename_i j sj
    rw[sj]at ez;simp only at ez
    split at ao
    ·rename_i o av hc
     rw[av,hc]at ez;simp only[zZr,zZb]at hc;simp only at ez
     split at ao
     ·rename_i CJ
      rw[CJ]at ez;simp only at ez
      cases zak:CH P N L.toArray S o with
      |true=>
       obtain⟨aM,aE,s1,s2,jc,jI,jv,kO,pH⟩:=zk8 (G:=G) (B:=B) zak af hf ao;exact fg.Uu j (by simpa using av) pH (Ge cO l7 n (m.set j true) s1 s2 jv λst ar=>ez st (ar.sub kO jc jI)) l7 hc.2.1 (by rw[ah];exact hc.1) hc.2.2
      |false=>
       rw[zak,zWm]at CJ;obtain⟨aM,aE,s1,s2,jc,jI,jv,kO,pH⟩:=zk6 (G:=G) (B:=B) af hf ao;exact fg.zkU j (by simpa using av) pH (Ge cO l7 n (m.set j true) s1 s2 jv λst ar=>ez st (ar.sub kO jc jI)) l7 hc.2.1 (by rw[ah];exact hc.1) CJ
     ·exact ao.elim
    ·exact ao.elim
   ·rename_i sj
    rw[sj]at ez;simp only at ez
    split at ao
    ·rename_i o av
     rw[av]at ez;simp only at ez
     split at ao
     ·rename_i ux
      rw[ux]at ez;have ux:=of_decide_eq_true ux;simp only at ez;obtain⟨t1,_,t3⟩:=P7 (G:=G) (B:=B) af hf ao
      have next: ∀t,xM G N B M (uu P N B T inl L.toArray o S) e S.k t->fg P G L Q wr n (m.set i true) t:=λt ⟨aM,aE,aa,ae,aw,aN,bx,cB⟩=>by
       subst cB;obtain⟨dC,bc,dp,dP,hT,u0,A9,D0,Rl⟩:=t3 aM aE aa ae aw aN bx;have:=Ge cO l7 n (m.set i true) dP hT D0 λst ar=>ez st (ar.sub Rl u0 A9);exact λE a w ah=>this E a w (dp E G a w ah)
      obtain⟨aU,iW⟩:=zaf (G:=G) (B:=B) (T:=T) cO af hf t1
      cases hw:qy P o with
      |true=>exact fg.zkV (by simpa using av) ah (ux.trans hw) (aU hw) next
      |false=>exact fg.one (by simpa using av) ah (ux.trans hw) (iW hw) next
     ·exact ao.elim
    ·rename_i _ rd _ _ hI
     have zal: ∀st,lQ G N B M (Gd ((i::rd).map λj=>match L.toArray[j]? with
      |some o=>match decide (wr.getD j false=qy P o)with
       |true=>ui N S o.dst (KW N L.toArray S o) (uu P N B T inl L.toArray o S) (uw P N B T inl L.toArray wr n (m.set j true))|false=>.bad 78
      |none=>.bad 77)) e S.k .normal st->Q .normal st:=λst ar=>ez st (by
      split
      ·rename_i ct l6;exact(hI ct rfl l6).elim
      ·exact ar)
     clear ez;obtain⟨U,xq,fE⟩:=zlf ao;rw[xq]at zal ao;refine fg.any (by rw[ah];simp) λj aj=>?_
     rw[ah]at aj;have CK:=fE _ (zXs.2 ⟨j,aj,rfl⟩)
     split at CK
     ·rename_i o av
      split at CK
      ·rename_i ux
       have ux:=of_decide_eq_true ux;have gr:(ui N S o.dst (KW N L.toArray S o) (uu P N B T inl L.toArray o S) (uw P N B T inl L.toArray wr n (m.set j true))).safe M e:=by rw[CK];exact ao
       obtain⟨t1,_,t3⟩:=P7 (G:=G) (B:=B) af hf gr;refine⟨o,by simpa using av,xM G N B M (uu P N B T inl L.toArray o S) e S.k,λt ⟨aM,aE,aa,ae,aw,aN,bx,cB⟩=>?_,λE a w dO=>?_⟩
       ·subst cB
        obtain⟨dC,bc,dp,dP,hT,u0,A9,D0,Rl⟩:=t3 aM aE aa ae aw aN bx;have:=Ge cO l7 n (m.set j true) dP hT D0 λst ar=>zal st (by rw[<-CK];exact ar.sub Rl u0 A9)
        exact λE a w ah=>this E a w (dp E G a w ah)
       ·obtain⟨aU,iW⟩:=zaf (G:=G) (B:=B) (T:=T) cO af hf t1
        cases hw:qy P o with
        |true=>
         obtain⟨y1,ir⟩:=aU hw E a w dO;exact .inl ⟨y1,λK Q hK=>ir K Q λt aJ bo w' dW=>hK t aJ bo w' dW (.inl (ux.trans hw))⟩
        |false=>
         rcases iW hw E a w dO with⟨y1,ir⟩|⟨y1,ir⟩
         ·exact .inl ⟨y1,λK Q hK=>ir K Q λt aJ bo w' dW an=>hK t aJ bo w' dW (.inr an)⟩
         ·exact .inr ⟨ux.trans hw,y1,ir⟩
      ·rw[<-CK]at ao;exact ao.elim
     ·rw[<-CK]at ao;exact ao.elim
theorem zlg(cO:gK P G M inl):Qz P G N B M (Rj P N B T inl):=by
 intro id ops S e af hf ao;have hQ:ops=ops.toList.toArray:=by simp
 rw[hQ]at ao⊢;generalize ops.toList=L at ao⊢;unfold Rj at ao⊢
 split at ao
 ·rename_i hc
  simp only[zZr]at hc;rw[KZ]at ao⊢;refine cb.Uv _ (Ge cO hc.2 _ _ af hf ao λst ar=>ar) hc.1 (by simp)
 ·exact ao.elim
def tL.all(P:Program)(T:List (Nat × bZ)):tL:=⟨λN B _=>Q3 N B,λN B inl=>Rj P N B T inl⟩
theorem zfE:QD P G M (tL.all P T):=λ_ cO _ _=>⟨zkR,zlg cO⟩
end
end Go.aH
namespace Go.aH
open Go
section
variable {P:Program} {G:aV} {f:FuncId} {args:List aC} {σ:bK} {n:Nat} {R:aC->bK->Prop}
theorem fa.arg{vu:List aC}(h:fa P G f args σ n R)(ba:h1 vu args):fa P G f vu σ n R:=by
 intro w β ro dY aa ae aw aN bx;refine h w β ro dY (by rw[aa,ba.at.1]) (λi x hx=>?_) aw aN bx
 obtain⟨y,aA,ao⟩:=ba.at.2 i x hx;exact ao _ _ _ _ _ _ (ae i y aA)
theorem fa.res{q1:aC->bK->Prop}(h:fa P G f args σ n R)(aB: ∀r cu,R r cu->q1 r cu):fa P G f args σ n q1:=by
 intro w β ro dY aa ae aw aN bx;refine Calls.mono (h w β ro dY aa ae aw aN bx) λe w' ⟨v,ji,cZ,cS,ro',b0,he,cB,oN⟩=>?_;exact⟨v,ji,cZ,cS,ro',b0,he,aB _ _ cB,oN⟩
theorem pw(β:Nat->Value)(b:Nat): ¬Own ([]:bK) β b:=λ⟨_,_,ai,_⟩=>by simp[aF]at ai
theorem fa.frame(h:fa P G f args [] 0 R)(ar:gI args=true)(iZ: ∀r cu,R r cu->jF r=true):fa P G f args σ n λr cu=>cu=σ/\∃gW,R r gW:=by
 intro w β ro dY aa ae aw aN bx;refine Calls.mono (h w β ro dY aa (λi x hx=>ra (ae i x hx) (q9 ar hx)) ⟨by simp[aF],by simp[aF],λb _=>pw β b,aw.lt⟩ aN (by simp[aF])) λe w' ⟨v,r,gW,cS,ro',b0,he,ah,dO,gk,cP⟩=>?_
 have qg: ∀b,b<w.heap.size->w'.heap[b]? =w.heap[b]? :=λb af=>cP.frame b af (pw β b);have hR:dy ⟨w,ro,σ,β,n,[]⟩ G ⟨[],σ,n,n⟩ ⟨#[],[]⟩ w β ro:=⟨rfl,rfl,by simp,aw,aN,⟨rfl,rfl,rfl,zZv _,λ_ _ _=>rfl,λ_ h=>.inl h,λ_ h=>h,λ_ h=>.inl h,λid _ o ai=>⟨by simp[ai],rfl⟩,bx,zZv _⟩,zZv _⟩
 have dX:=hR.grow (w':=w') (ro':=ro') cP.os cP.tape cP.output cP.size qg cP.hp (λb af=>by
  rcases cP.h9 b af with q|q|q
  ·exact .inl q
  ·exact absurd q (pw β b)
  ·exact .inr ⟨q,gk.lt b af⟩)
 exact⟨v,r,σ,β,ro',n,he,⟨rfl,gW,ah⟩,ra dO (iZ r gW ah),dX.heap,dX.trans⟩
theorem fa.zlh{vu:List aC}(h:fa P G f args [] 0 R)(ba:h1 (k6 σ vu) args)(ar:gI (k6 σ vu)=true)(iZ: ∀r cu,R r cu->n5 r=true):fa P G f vu σ n λr cu=>cu=σ/\∃gW,R r gW:=by
 have h:=h.arg ba;intro w β ro dY aa ae aw aN bx;have tM: ∀b,Own σ β b->b<w.heap.size:=λb ⟨k,p,an,ar,bp⟩=>(aw.dB k p an).jB ar bp
 refine Calls.mono (h w β (BF ro σ β) dY (by rw[BD];exact aa) (λi x hx=>?_) ⟨by simp[aF],by simp[aF],λb _=>pw β b,λb af=>af.elim (aw.lt b) (tM b)⟩
  (aN.keep (λ_ _=>rfl) λ_ h=>.inl h) (by simp[aF])) λe w' ⟨v,r,gW,cS,ro',b0,he,ah,dO,gk,cP⟩=>?_
 ·obtain⟨z,aW,rfl⟩:=BE _ hx
  exact ra (Xa aw (ae i z aW)) (q9 ar hx)
 have qg: ∀b,b<w.heap.size->w'.heap[b]? =w.heap[b]? :=λb af=>cP.frame b af (pw β b);have hR:dy ⟨w,ro,σ,β,n,[]⟩ G ⟨[],σ,n,n⟩ ⟨#[],[]⟩ w β ro:=⟨rfl,rfl,by simp,aw,aN,⟨rfl,rfl,rfl,zZv _,λ_ _ _=>rfl,λ_ h=>.inl h,λ_ h=>h,λ_ h=>.inl h,λid _ o ai=>⟨by simp[ai],rfl⟩,bx,zZv _⟩,zZv _⟩
 have dX:=hR.grow (w':=w') (ro':=ro) cP.os cP.tape cP.output cP.size qg (λ_ h=>h) (λ_ h=>.inl h);exact⟨v,r,σ,β,ro,n,he,⟨rfl,gW,ah⟩,Xb dO (iZ r gW ah),dX.heap,dX.trans⟩
end
def aK.cI(d:aK):aC:=
 match d with
 |⟨.st c,x⟩=>.agg ((dr c x).map .ad)|⟨r,x⟩=>.ad (hb r x)
def qz(rs:List a6)(x:(gi rs).den):List aC:=(eH rs x).map aK.cI
def oF(rs:List a6)(x:(gi rs).den):aC:=
 match qz rs x with
 |[v]=>v|l=>.tuple l
structure kD where
 f:Nat
 j:Nat
 ps:List a6
 rs:List a6
 bX:Bool
def eU(P:Program)(G:aV)(f:Nat)(m:bs):Prop:=
 ∀x:(gi m.ps).den,p3 m.pre x->fa P G f (qz m.ps x) [] 0 λv _=>v=oF m.rs (m.m x)
def zam(P:Program)(G:aV)(M:List bs)(c:kD):Prop:=
 (fQ bs.d M c.j).ps=c.ps/\(fQ bs.d M c.j).rs=c.rs/\eU P G c.f (fQ bs.d M c.j)/\(c.bX=true->(fQ bs.d M c.j).pre=none)
def w7(P:Program)(G:aV)(M:List bs)(C:List kD):Prop:=∀c∈C,zam P G M c
def Gf(f:Nat):List kD->Option kD
 |[]=>none|c::r=>match zZu c.f f with
  |true=>some c|false=>Gf f r
def Gg(r:a6)(i:Nat):ag:=
 match r with
 | .st c=>.cH (k9 c i 0 (fR c))|r=>.bE r i
def jM:Nat->List a6->List ag
 |_,[]=>[]|i,r::rs=>Gg r i::jM (i+1) rs
def rz(rs:List a6)(p:Nat):Nat->List a6->List cf
 |_,[]=>[]|i,_::r=>.vw rs p i::rz rs p (i+1) r
def a6.kJ:a6->Bool
 | .st _=>true|r=>r.one
def a6.zW:a6->Bool
 | .int _=>true| .bool=>true| .str=>true| .st c=>(fR c).all a6.cmp|_=>false
def Rm(S:ax)(r:a6)(a:ag):Option ag:=
 match r,a with
 | .st c,.cH l=>match js (fR c) l with
  |true=>some a|false=>none
 | .li c,.aq id=>match dG S.h id with
  |some (.rw _ d x)=>match decide (c=d)&&x.fN (.li c)with
   |true=>some x|false=>none
  |_=>none
 | .mp k v,.jb id=>match dG S.h id with
  |some (.it (.mp bl bC) _ x)=>match(jO bl k&&jO bC v)&&x.fN (.mp k v)with
   |true=>some x|false=>none
  |_=>none
 |r,a=>match r.one&&a.fN r with
  |true=>some a|false=>none
def vT(S:ax):List a6->List ag->Option (List ag)
 |[],[]=>some []|r::rs,a::aI=>match Rm S r a,vT S rs aI with
  |some x,some l=>some (x::l)|_,_=>none
 |_,_=>none
def xO:List ag->Bool
 |[]=>true| .aq _::_=>false| .jb _::_=>false|_::r=>xO r
def kP(c:kD)(aI:List ag)(k:Nat):List cf:=
 match c.rs with
 |[_]=>[.ca c.j aI]|rs=>.ca c.j aI::rz rs k 0 rs
def CL(c:kD)(k:Nat):ag:=
 match c.rs with
 |[r]=>Gg r k|rs=>.tp (jM (k+1) rs)
def K0(S:ax)(xs:List cf)(v:ag):ax:={S with l:=bn.put .emp 0 v,k:=S.k+xs.length}
def K1(c:kD)(xs:List ag):List hj:=
 match c.bX with
 |true=>[]|false=>[.ca c.j xs]
def Rn(C:List kD)(inl:Nat->List ag->ax->aG)(f:Nat)(aI:List ag)(S:ax):aG:=
 match Gf f C with
 |none=>inl f aI S|some c=>match vT S c.ps aI with
  |none=>inl f aI S|some xs=>match c.rs.all a6.kJ&&(xO aI||c.rs.all a6.zW)&&(ag.c6 S.k xs&&ag.vI S.n (CL c S.k))with
   |true=>emit S.k (kP c xs S.k) (K1 c xs) (.db .cp (K0 S (kP c xs S.k) (CL c S.k)))|false=>inl f aI S
theorem zX: ∀{rs:List a6} {ds:List aK},ds.map aK.r=rs->eH rs (cr rs ds)=ds
 |[],[],_=>rfl|[],_::_,h=>by cases h
 |[r],ds,h=>by
  obtain⟨d,sr,rfl,aa,ae⟩:=oP h
  cases py ae
  subst aa;show[⟨d.r,d.aI d.r⟩]=[d];rw[E3]
 |r::s::l,ds,h=>by
  obtain⟨d,sr,rfl,aa,ae⟩:=oP h;subst aa;show(⟨d.r,d.aI d.r⟩:aK)::eH (s::l) (cr (s::l) sr)=d::sr;rw[E3,zX ae]
theorem xP: ∀{rs:List a6} {x:(gi rs).den},(eH rs x).map aK.r=rs
 |[],_=>rfl|[_],_=>rfl|r::s::l,x=>by
  show r::(eH (s::l) x.2).map aK.r=_;rw[xP]
section
variable {G:aV} {e:Env} {S:ax}
theorem zan{r:a6}{x:r.den}(h: ∀c,r≠ .st c):(⟨r,x⟩:aK).cI= .ad (hb r x):=by
 cases r with
 |st c=>exact absurd rfl (h c)|_=>rfl
theorem zao{r:a6}(h:r.one=true): ∀c,r≠ .st c:=λc hc=>by subst hc;cases h
theorem zap{r:a6}{a:ag}(h:a.fN r=true): ∃y,a.den G e= .ad y:=by
 unfold ag.fN at h
 split at h<;>first|exact⟨_,rfl⟩|cases h
theorem zaq: ∀{rs:List a6} {l:List ag},js rs l=true->∃ys:List a7,ag.cc G e l=ys.map .ad
 |[],[],_=>⟨[],rfl⟩|[],_::_,h=>by cases h
 |_::_,[],h=>by cases h
 |r::rs,x::xs,h=>by
  simp only[js,zZr]at h;obtain⟨y,aA⟩:=zap (G:=G) (e:=e) h.1;obtain⟨ys,pq⟩:=zaq (rs:=rs) h.2;exact⟨y::ys,by simp only[ag.cc,aA,pq,zXq]⟩
theorem zar{σ:bK}: ∀{ys:List a7},k6 σ (ys.map .ad)=ys.map .ad
 |[]=>rfl|y::ys=>by simp only[zXq,k6,mj,zar]
theorem zli{r:a6}{a x:ag}(h:Rm S r a=some x):
 Sub (mj (di G e S.h) (a.den G e)) (aK.cI ⟨r,x.get e r⟩)/\jF (mj (di G e S.h) (a.den G e))=true/\((∀id,a≠ .aq id/\a≠ .jb id)->mj (di G e S.h) (a.den G e)=a.den G e):=by
 unfold Rm at h
 split at h
 ·rename_i c l
  split at h
  ·rename_i au
   cases h;obtain⟨ys,aA⟩:=zaq (G:=G) (e:=e) au
   have ao:=Fa (G:=G) (e:=e) au;have hd:mj (di G e S.h) ((ag.cH l).den G e)=(ag.cH l).den G e:=by simp only[ag.den,mj,aA,zar]
   rw[hd];refine⟨?_,by simp only[ag.den,aA,jF,EO],λ_=>rfl⟩
   simp only[ag.den];exact ao.agg
  ·cases h
 ·rename_i c id
  split at h
  ·rename_i t d y ai
   split at h
   ·rename_i hc
    cases h;simp only[zZr,decide_eq_true_eq]at hc;obtain⟨rfl,hx⟩:=hc
    have a8:aF (di G e S.h) id=some (.row false t (dE c) (zVn (dr c) (x.aL e (.li c)))):=by rw[fx,ai];rfl
    have hd:mj (di G e S.h) ((ag.aq id).den G e)= .ad (.aq (dE c) (zVn (dr c) (x.aL e (.li c)))):=by simp only[ag.den,mj,a8]
    rw[hd];exact⟨oQ.cI λ_ _ _ h=>.li _ _ _ h,rfl,λh=>absurd rfl (h id).1⟩
   ·cases h
  ·cases h
 ·rename_i k v id
  split at h
  ·rename_i bl bC dD y ai
   split at h
   ·rename_i hc
    cases h;simp only[zZr]at hc
    cases jr hc.1.1
    cases jr hc.1.2
    have a8:aF (di G e S.h) id=some (.bW (lz v.agg (h0 (n6 k) (kI v) (x.aL e (.mp k v))))):=by rw[fx,ai];rfl
    have hd:mj (di G e S.h) ((ag.jb id).den G e)= .ad (BI v.agg (h0 (n6 k) (kI v) (x.aL e (.mp k v)))):=by simp only[ag.den,mj,a8]<;>rfl
    rw[hd];refine⟨?_,rfl,λh=>absurd rfl (h id).2⟩;show Sub _ (.ad (hb (.mp k v) (x.aL e (.mp k v))));rw[X2];exact Sub.refl _
   ·cases h
  ·cases h
 ·split at h
  ·rename_i hc
   cases h;simp only[zZr]at hc;obtain⟨y,aA⟩:=zap (G:=G) (e:=e) hc.2
   have hd:mj (di G e S.h) (a.den G e)=a.den G e:=by rw[aA];rfl
   rw[hd];refine⟨?_,by rw[aA];rfl,λ_=>rfl⟩
   rw[zan (zao hc.1),JT hc.1];exact zo hc.2
  ·cases h
theorem CM: ∀{rs:List a6} {aI xs:List ag},vT S rs aI=some xs->
 h1 (k6 (di G e S.h) (ag.cc G e aI)) ((iA e rs xs).map aK.cI)/\gI (k6 (di G e S.h) (ag.cc G e aI))=true/\(xO aI=true->k6 (di G e S.h) (ag.cc G e aI)=ag.cc G e aI)/\(iA e rs xs).map aK.r=rs
 |[],[],_,h=>by cases h;exact⟨.nil,rfl,λ_=>rfl,rfl⟩
 |[],_::_,_,h=>by cases h
 |_::_,[],_,h=>by cases h
 |r::rs,a::aI,xs,h=>by
  simp only[vT]at h
  split at h
  ·rename_i x l aa ae
   cases h;obtain⟨cw,a2,a3⟩:=zli (G:=G) (e:=e) aa;obtain⟨e6,gl,iB,sG⟩:=CM ae;refine⟨.cons cw e6,by simp only[ag.cc,k6,gI,a2,gl,zVg],λhn=>?_,by simp only[iA,zXq,sG]⟩
   have:(∀id,a≠ .aq id/\a≠ .jb id)/\xO aI=true:=by
    cases a<;>first|(cases hn;done)|exact⟨λid=>⟨λbq=>(by cases bq),λbq=>(by cases bq)⟩,hn⟩
   simp only[ag.cc,k6,a3 this.1,iB this.2]
  ·cases h
end
section
variable {G:aV} {e:Env}
theorem zlj(d:aK):jF d.cI=true:=by
 unfold aK.cI
 split
 ·simp only[jF,EO]
 ·rfl
theorem K2: ∀l:List aK,gI (l.map aK.cI)=true
 |[]=>rfl|d::l=>by simp only[zXq,gI,zlj,K2 l,zVg]
theorem Ro{rs:List a6}{x:(gi rs).den}:jF (oF rs x)=true:=by
 have h:=K2 (eH rs x);unfold oF qz
 split
 ·rename_i v az
  rw[az]at h;simpa[gI]using h
 ·exact h
theorem zas: ∀{ds:List aK},(∀d∈ds,d.r.zW=true/\∀c,d.r≠ .st c)->sn (ds.map λd=>.ad d.ad)=true
 |[],_=>rfl|d::ds,h=>by
  have aa:=h d (zVa ..);have ae:=zas (ds:=ds) λx hx=>h x (zVj _ hx);obtain⟨r,x⟩:=d
  cases r<;>first|(exact absurd rfl (aa.2 _))|(cases aa.1;done)|exact ae
theorem zat{d:aK}(h:d.r.zW=true):n5 d.cI=true:=by
 obtain⟨r,x⟩:=d
 cases r with
 |st c=>
  show n5 (.agg ((dr c x).map .ad))=true;have hc:dr c x=(hN c x).map aK.ad:=by unfold dr;rfl
  rw[hc,List.map_map];simp only[n5];refine zas λd hd=>?_
  have ah:d.r∈fR c:=by
   have:=Oo c x;rw[<-this];exact zV0 hd
  have ba:d.r.cmp=true:=zZ2.1 (show(fR c).all _=true from h) d.r ah
  cases hd:d.r<;>rw[hd]at ba<;>first|(cases ba;done)|exact⟨rfl,λc hc=>by cases hc⟩
 |_=>first|rfl|cases h
theorem zau: ∀{l:List aK},(∀d∈l,d.r.zW=true)->sn (l.map aK.cI)=true
 |[],_=>rfl|d::l,h=>by
  simp only[zXq,sn,zat (h d (zVa ..)),zau (l:=l) λx hx=>h x (zVj _ hx),zVg]
theorem zlk{rs:List a6}{x:(gi rs).den}(h:rs.all a6.zW=true):n5 (oF rs x)=true:=by
 have h:=zau (l:=eH rs x) λd hd=>by
  have ah:d.r∈rs:=by
   have:=xP (rs:=rs) (x:=x);rw[<-this];exact zV0 hd
  exact zZ2.1 h d.r ah
 unfold oF qz
 split
 ·rename_i v az
  rw[az]at h;simpa[sn]using h
 ·exact h
end
section
variable {P:Program} {G:aV} {M:List bs} {C:List kD} {inl:Nat->List ag->ax->aG}
theorem zav{f:Nat}{c:kD}: ∀{C:List kD},Gf f C=some c->c∈C/\c.f=f
 |[],h=>by cases h
 |d::r,h=>by
  unfold Gf at h
  split at h
  ·rename_i hd;cases h;exact⟨zVa ..,zWi hd⟩
  ·obtain⟨aa,ae⟩:=zav h;exact⟨zVj _ aa,ae⟩
theorem Rp(rs:List a6)(p:Nat): ∀(l:List a6) (i j:Nat),(rz rs p i l)[j]? =if j<l.length then some (.vw rs p (i+j))else none
 |[],i,j=>by simp[rz]|_::l,i,0=>by simp[rz]|_::l,i,j+1=>by
  simp only[rz,zXd,Rp rs p l (i+1) j,zVi,Nat.add_lt_add_iff_right];have:i+1+j=i+(j+1):=by omega
  rw[this]
theorem zaw(rs:List a6)(p:Nat): ∀(l:List a6) (i k:Nat),p<k->jt k (rz rs p i l)=true
 |[],_,_,_=>rfl|_::l,i,k,h=>by
  simp only[rz,jt,cf.lt,nq h,zVf];exact zaw rs p l (i+1) (k+1) (by omega)
theorem K3{c:kD}{xs:List ag}{k:Nat}(h:ag.c6 k xs=true):jt k (kP c xs k)=true:=by
 unfold kP
 split
 ·simp only[jt,cf.lt,h,zVg]
 ·simp only[jt,cf.lt,h,zVf]
  exact zaw _ _ _ _ _ (zYi k)
theorem Rq(rs:List a6)(p:Nat): ∀(l:List a6) (i:Nat),(rz rs p i l).length=l.length
 |[],_=>rfl|_::l,i=>by simp[rz,Rq rs p l (i+1)]
theorem Rr{e:Env}{r:a6}{i:Nat}{x:r.den}(h:Env.at e i=⟨r,x⟩):(Gg r i).den G e=aK.cI ⟨r,x⟩:=by
 have ba:(Env.at e i).aI r=x:=by rw[h,df]
 cases r with
 |st c=>
  show aC.agg (ag.cc G e (k9 c i 0 (fR c)))= .agg ((dr c x).map .ad);rw[xk,ba]
 |_=>show aC.ad (hb _ ((Env.at e i).aI _))= .ad (hb _ x);rw[ba]
theorem Gh{e:Env}: ∀{rs:List a6} {i:Nat} {ds:List aK},ds.map aK.r=rs->(∀j d,ds[j]? =some d->Env.at e (i+j)=d)->ag.cc G e (jM i rs)=ds.map aK.cI
 |[],i,ds,h,_=>by cases py h;rfl
 |r::rs,i,ds,h,hd=>by
  obtain⟨d,sr,rfl,aa,ae⟩:=oP h;subst aa;have aP:=hd 0 d rfl;simp only[jM,ag.cc,zXq,List.cons.injEq];refine⟨Rr (x:=d.v) aP,Gh ae λj HR aj=>?_⟩;have:=hd (j+1) HR (by simpa using aj)
  rw[<-this];congr 1;omega
theorem K4{c:bZ}{i k:Nat}(h:i<k): ∀{rs:List a6} {j:Nat},ag.c6 k (k9 c i j rs)=true
 |[],_=>rfl|r::rs,j=>by simp only[k9,ag.c6,ag.lt,nq h,K4 h (rs:=rs),zVg]
theorem Rs{r:a6}{i k:Nat}(h:i<k):(Gg r i).lt k=true:=by
 cases r with
 |st c=>exact K4 h|_=>exact nq h
theorem Gi: ∀{rs:List a6} {i k:Nat},i+rs.length<=k->ag.c6 k (jM i rs)=true
 |[],_,_,_=>rfl|r::rs,i,k,h=>by
  simp only[zVi]at h;simp only[jM,ag.c6,Rs (r:=r) (show i<k by omega),Gi (rs:=rs) (show i+1+rs.length<=k by omega),zVg]
theorem Rt{α:Type}{d:α}: ∀{l:List α} {i:Nat} {x:α},l[i]? =some x->fQ d l i=x
 |[],_,_,h=>by cases h
 |y::l,0,x,h=>by simpa[fQ]using h|y::l,i+1,x,h=>by
  simp only[fQ];exact Rt (by simpa using h)
theorem zll{c:kD}{xs:List ag}{k:Nat}{e:Env}{y:(gi c.rs).den}(au:ag.c6 k xs=true)(aP:Env.at (ed M e k (kP c xs k)) k=⟨gi c.rs,y⟩):
 (CL c k).den G (ed M e k (kP c xs k))=oF c.rs y:=by
 have fM:=lO (M:=M) (e:=e) (K3 (c:=c) au);obtain⟨f,K5,ps,rs,bX⟩:=c;show(CL ⟨f,K5,ps,rs,bX⟩ k).den G _=oF rs y
 match rs,y,aP,fM with
 |[],y,aP,fM=>rfl|[r],y,aP,fM=>exact Rr aP|r::s::l,y,aP,fM=>
  have qh:(eH (r::s::l) y).map aK.r=r::s::l:=xP
  have ly:oF (r::s::l) y= .tuple ((eH (r::s::l) y).map aK.cI):=by
   unfold oF qz
   split
   ·rename_i v az
    have:=congrArg zZ5 qh;have ae:=congrArg zZ5 az;simp only[zXe,zVi]at this ae;simp only[List.length_nil]at ae;omega
   ·rfl
  rw[ly];show aC.tuple (ag.cc G _ (jM (k+1) (r::s::l)))=_
  congr 1
  refine Gh qh λj d aj=>?_
  have hlen:j<(r::s::l).length:=by
   have aa:=(List.getElem?_eq_some_iff.1 aj).1;have:=congrArg zZ5 qh;rw[zXe]at this;omega
  have aa:=fM (j+1) (.vw (r::s::l) k j) (by
   show(cf.ca K5 xs::rz (r::s::l) k 0 (r::s::l))[j+1]? =_
   rw[zXd,Rp,if_pos hlen,zZ0])
  rw[show k+1+j=k+(j+1)by omega,aa]
  simp only[cf.den,aP,df];exact Rt aj
theorem zlm(my:w7 P G M C)(cO:gK P G M inl):gK P G M (Rn C inl):=λf aI S e af au hf ao=>by
 unfold Rn at ao⊢
 cases hc:Gf f C with
 |none=>simp only[hc]at ao⊢;exact cO f aI S e af au hf ao|some c=>
  simp only[hc]at ao⊢
  cases hx:vT S c.ps aI with
  |none=>simp only[hx]at ao⊢;exact cO f aI S e af au hf ao|some xs=>
   simp only[hx]at ao⊢
   split at ao
   rotate_left
   ·exact cO f aI S e af au hf ao
   rename_i an;simp only[zZr]at an;obtain⟨⟨Qr,yq⟩,Gj,JV⟩:=an;obtain⟨hm,Gk⟩:=zav hc;obtain⟨g1,g2,g3,g4⟩:=my c hm;obtain⟨hn,_⟩:=pF ao;have zY:=K3 (c:=c) Gj;have ck:cy S.k e (ed M e S.k (kP c xs S.k)):=mv (zZv _);have b6:c.bX=false->hj.ok M (ed M e S.k (kP c xs S.k)) (.ca c.j xs):=λfv=>hn _ (by unfold K1;rw[fv];exact zW0.2 rfl)
   obtain⟨cw,a2,a3,a4⟩:=CM (G:=G) (e:=e) hx;have fM:=lO (M:=M) (e:=e) zY 0 (.ca c.j xs) (by unfold kP;split<;>rfl)
   obtain⟨zax,sT,zo4,zo5,zay⟩:=c;simp only at g1 g2 g3 g4 Gk Qr yq Gj JV zY ck b6 cw a2 a3 a4 fM hx;subst g1 g2 Gk;simp only[zYh,cf.den]at fM;simp only[hj.ok]at b6;rw[BX ck Gj]at fM
   have hP:=g3 (cr _ (iA e (fQ bs.d M sT).ps xs)) (by
    cases zay with
    |true=>rw[g4 rfl];trivial|false=>
     have:=b6 rfl;rw[BX ck Gj]at this
     exact this)
   have zR:qz (fQ bs.d M sT).ps (cr (fQ bs.d M sT).ps (iA e (fQ bs.d M sT).ps xs))=(iA e (fQ bs.d M sT).ps xs).map aK.cI:=by
    unfold qz;rw[zX a4]
   rw[zR]at hP;have az:=zll (G:=G) (c:=⟨zax,sT,(fQ bs.d M sT).ps,(fQ bs.d M sT).rs,zay⟩) Gj fM
   have m9:fa P G zax (ag.cc G e aI) (di G e S.h) S.n λr cu=>cu=di G e S.h/\∃_:bK,r=oF (fQ bs.d M sT).rs ((fQ bs.d M sT).m (cr _ (iA e (fQ bs.d M sT).ps xs))):=by
    cases BJ:xO aI with
    |true=>
     rw[a3 BJ]at cw a2;exact((hP.arg cw).frame a2 λr cu ah=>by rw[ah];exact Ro).res λr cu ⟨aa,gW,ae⟩=>⟨aa,gW,ae⟩
    |false=>
     rw[BJ,zWm]at yq;exact(hP.zlh cw a2 λr cu ah=>by rw[ah];exact zlk yq).res λr cu ⟨aa,gW,ae⟩=>⟨aa,gW,ae⟩
   refine m9.res λr cu ⟨aa,_,ae⟩=>⟨_,_,by rw[oU];rfl,?_,?_,?_,?_,ck,zY8 _ _⟩
   ·rw[ae,<-az]
    show _=ag.den G _ (ax.at (K0 S _ _) 0);unfold K0 ax.at
    simp only[bn.lu,if_true]
   ·rw[aa];exact(Fq ck af.h).symm
   ·refine⟨λi x hi=>?_,zu (zY8 _ _) af.h,sz (zY8 _ _) af.g⟩
    simp only[K0,bn.lu]at hi
    split at hi
    ·cases hi
     show(CL _ S.k).lt (S.k+_)=true;unfold CL kP
     split
     ·exact Rs (zYi _)
     ·simp only[ag.lt]
      refine Gi ?_;simp only[zVi,Rq];omega
    ·simp[bn.get]at hi
   ·exact kL ck af.g hf
end
end Go.aH
namespace Go.aH
open Go
section
variable {P:Program} {G:aV} {f:FuncId} {args:List aC} {R:aC->bK->Prop}
theorem fa.ret(e5:Prop->aC->Prop)(h:fa P G f args [] 0 R){Q:aC->Prop}(iZ: ∀r cu,R r cu->∃v,Sub (mj cu r) v/\jF v=true/\Q v):fa P G f args [] 0 λv _=>Q v:=by
 intro w β ro dY aa ae aw aN bx;refine Calls.mono (h w β ro dY aa ae aw aN bx) λe w' ⟨v,r,cu,cS,ro',b0,he,ah,dO,gk,cP⟩=>?_;obtain⟨u,hu,ar,aB⟩:=iZ r cu ah;have tM: ∀b,Own cu cS b->b<w'.heap.size:=λb ⟨k,p,an,ar,bp⟩=>(gk.dB k p an).jB ar bp
 refine⟨v,u,[],cS,BF ro' cu cS,b0,he,aB,ra (hu _ _ _ _ _ _ (Xa gk dO)) ar,⟨by simp[aF],by simp[aF],λb _=>pw cS b,λb af=>af.elim (gk.lt b) (tM b)⟩,
  ⟨cP.os,cP.tape,cP.output,cP.size,cP.frame,λb af=>?_,λb af=>.inl (cP.hp b af),λb af=>absurd af (pw cS b),by simp[aF],by simp[aF],cP.le⟩⟩
 rcases af with af|af
 ·exact cP.h9 b af
 ·exact .inr (cP.gG b af)
end
def iX:Nat->List aK->Env
 |_,[]=>.emp|i,d::ds=>bn.put (iX (i+1) ds) i d
theorem Ru: ∀{ds:List aK} {i j:Nat} {d:aK},ds[j]? =some d->Env.at (iX i ds) (i+j)=d
 |[],_,_,_,h=>by cases h
 |x::ds,i,0,d,h=>by
  have h:x=d:=by simpa using h
  simp only[iX,Env.mn,zYh,if_true,h]
 |x::ds,i,j+1,d,h=>by
  have:=Ru (i:=i+1) (show ds[j]? =some d by simpa using h)
  simp only[iX,Env.mn];rw[if_neg (by omega),<-this]
  congr 1
  omega
def zZ(rs:List a6)(v:ag):List ag:=
 match rs,v with
 |[_],v=>[v]|_,.tp l=>l|_,x=>[x]
def Rv(rs:List a6)(v:ag):Bool:=
 match rs,v with
 |[_],_=>true|_,.tp _=>true|_,_=>false
def K6(rs:List a6)(C:ax):Option (List ag):=
 match Rv rs (C.at 0)with
 |true=>vT C rs (zZ rs (C.at 0))|false=>none
def zb(rs:List a6)(C:ax):Bool:=(K6 rs C).isSome
def K7(rs:List a6)(C:ax)(e:Env):(gi rs).den:=
 match K6 rs C with
 |some l=>cr rs (iA e rs l)|none=>(gi rs).gL
def Rw(M:List bs)(t:aG)(rs:List a6)(e:Env):(gi rs).den:=t.fold M e (λ_ C aD=>K7 rs C aD) (gi rs).gL
def vg(n:Nat):ax:=⟨.emp,[],0,n,[]⟩
section
variable {P:Program} {G:aV} {M:List bs} {C:List kD} {inl:Nat->List ag->ax->aG}
theorem zln{rs:List a6}{S:ax}{e:Env}{l:List ag}(h:K6 rs S=some l):Sub (mj (di G e S.h) ((S.at 0).den G e)) (oF rs (cr rs (iA e rs l))):=by
 unfold K6 at h
 split at h
 rotate_left
 ·cases h
 rename_i aJ;obtain⟨cw,_,_,a4⟩:=CM (G:=G) (e:=e) h;have zR:qz rs (cr rs (iA e rs l))=(iA e rs l).map aK.cI:=by unfold qz;rw[zX a4]
 unfold oF;rw[zR]
 match rs,cw,a4,aJ with
 |[r],cw,a4,aJ=>
  obtain⟨d,sr,az,aa,ae⟩:=oP a4
  cases py ae
  rw[az]at cw⊢;simp only[zZ,ag.cc,k6,zXq,List.map_nil]at cw⊢
  cases cw with
  |cons h _=>exact h
 |[],cw,a4,aJ=>
  cases az:S.at 0 with
  |tp m=>
   rw[az]at cw;rw[py a4];rw[py a4]at cw;exact cw.tuple
  |_=>rw[az]at aJ;cases aJ
 |r::s::q,cw,a4,aJ=>
  cases az:S.at 0 with
  |tp m=>
   rw[az]at cw;have au:=congrArg zZ5 a4;simp only[zXe,zVi]at au;generalize iA e (r::s::q) l=ds at cw au⊢
   match ds,au with
   |d::d2::ds,_=>exact cw.tuple
  |_=>rw[az]at aJ;cases aJ
theorem zaz{t:aG}{p:ax->Bool}(h:t.gV.all p=true){e aD:Env}{S:ax}(ah:run M t e=some (.cp,S,aD)):p S=true:=zZ2.1 h S (qu ah)
theorem zaA(cO:gK P G M inl){f:Nat}{m:bs}(t:aG)(aJ:inl f (jM 0 m.ps) (vg m.ps.length)=t)(he:t.gV.all (zb m.rs)=true)
 (ao: ∀x,p3 m.pre x->t.safe M (iX 0 (eH m.ps x)))(hm: ∀x,p3 m.pre x->Rw M t m.rs (iX 0 (eH m.ps x))=m.m x):eU P G f m:=λx hx=>by
 subst aJ;have au:m.ps.length=(eH m.ps x).length:=by have:=congrArg zZ5 (xP (rs:=m.ps) (x:=x));rw[zXe]at this;exact this.symm
 have h:=cO f (jM 0 m.ps) (vg m.ps.length) (iX 0 (eH m.ps x)) ⟨λi x hi=>by simp[vg,bn.get]at hi,rfl,rfl⟩ (Gi (by show 0+_<=m.ps.length;omega)) (λc hc=>by cases hc) (ao x hx)
 have hd:ag.cc G (iX 0 (eH m.ps x)) (jM 0 m.ps)=qz m.ps x:=Gh xP λj d aj=>Ru aj;rw[hd]at h;refine(fa.ret (λ_ _=>True) h (Q:=λv=>v=oF m.rs (m.m x)) λr cu ah=>?_);obtain⟨aM,aD,cE,rfl,rfl,_⟩:=ah;have rr:=zaz he cE;obtain⟨l,pt⟩:=Option.isSome_iff_exists.1 rr;refine⟨_,zln pt,Ro,?_⟩;have:=hm x hx;unfold Rw at this;rw[mT cE]at this;unfold K7 at this;rw[pt]at this;rw[<-this]
theorem zlo(cO:gK P G M inl){f:Nat}{m:bs}(t:aG)(aJ:inl f (jM 0 m.ps) (vg m.ps.length)=t)(he:(t.clean&&t.gV.all (zb m.rs))=true)
 (hm: ∀x,Rw M t m.rs (iX 0 (eH m.ps x))=m.m x):eU P G f m:=by
 simp only[zZr]at he;exact zaA cO t aJ he.2 (λ_ _=>vA M he.1) λx _=>hm x
theorem w7.nil:w7 P G M []:=λ_ h=>by cases h
theorem w7.cons{c:kD}(h:zam P G M c)(my:w7 P G M C):w7 P G M (c::C):=λd hd=>by
 rcases zZf.1 hd with rfl|hd
 ·exact h
 ·exact my d hd
end
end Go.aH
namespace Go.aH
open Go
def aG.kl(M:List bs):aG->{X:Type}->Env->(cm->ax->Env->X)->X->X
 | .db x S,_,e,K,_=>K x S e| .lt i x t,_,e,K,d=>t.kl M (bn.put e i (x.den M e)) K d| .fF _ t,_,e,K,d=>t.kl M e K d| .it g a b,_,e,K,d=>bif g.aL e .bool then a.kl M e K d else b.kl M e K d| .eB n a ps k,_,e,K,d=>a.kl M e (λx S aD=>bif x.b9 n then k.kl M (gN e (λr p=>⟨r,(p.dR S).get aD r⟩) ps) K d else K x S aD) d
 | .fc m xid dM cn ca a k,X,e,K,d=>Sum.elim (λr=>r) (λv=>k.kl M (bD e ca v) K d)
  (bI (λi (v:cd ca)=>(a.kl M (bD (bn.put e cn ⟨.int .i64,(i:Int)⟩) ca v) (fj m xid ca K) (.c4 v):Step X (cd ca))) 0 (cQ (dM.den M e)).toNat (cr _ (ew e ca)))
 | .fG m xid ca a k,X,e,K,d=>Sum.elim (λr=>r) (λv=>k.kl M (bD e ca v) K d)
  (dk (λv=>(a.kl M (bD e ca v) (fj m xid ca K) (.c4 v):Step X (cd ca))) c5 (cr _ (ew e ca)))
 | .bad _,_,_,_,d=>d
section
variable {M:List bs}
theorem qA: ∀(t:aG) {X:Type} (e:Env) (K:cm->ax->Env->X) (d:X),t.kl M e K d=t.fold M e K d
 | .db _ _,_,_,_,_=>rfl| .lt i x t,_,e,K,d=>qA t _ K d| .fF _ t,_,e,K,d=>qA t _ K d| .it g a b,_,e,K,d=>by simp only[aG.kl,aG.fold,qA a,qA b]| .eB n a ps k,X,e,K,d=>by
  show a.kl M e (λx S aD=>bif x.b9 n then k.kl M (gN e (λr p=>⟨r,(p.dR S).get aD r⟩) ps) K d else K x S aD) d=(aG.eB n a ps k).fold M e K d
  rw[qA a]
  cases ah:run M a e with
  |none=>rw[Fk ah,xo ah]|some l=>
   obtain⟨x,S,aD⟩:=l;rw[mT ah]
   cases hx:x.b9 n with
   |true=>rw[cond_true,tZ ah hx,qA k]|false=>rw[cond_false,qm ah hx]
 | .fc m xid dM cn ca a k,X,e,K,d=>by
  rw[BW];simp only[aG.kl,qA a,qA k]
 | .fG m xid ca a k,X,e,K,d=>by
  simp only[aG.kl,aG.fold,qA a,qA k]
 | .bad _,_,_,_,_=>rfl
def aG.wp(M:List bs):aG->Env->(cm->ax->Env->Prop)->Prop
 | .db x S,e,Q=>Q x S e| .lt i x t,e,Q=>t.wp M (bn.put e i (x.den M e)) Q| .fF n t,e,Q=>n.ok M e/\t.wp M e Q| .it g a b,e,Q=>(g.aL e .bool=true->a.wp M e Q)/\(g.aL e .bool=false->b.wp M e Q)| .eB n a ps k,e,Q=>a.wp M e λx S aD=>bif x.b9 n then k.wp M (gN e (λr p=>⟨r,(p.dR S).get aD r⟩) ps) Q else Q x S aD
 | .fc m xid dM cn ca a k,e,Q=>∃I:Nat->cd ca->Prop,I 0 (cr _ (ew e ca))/\(∀(i:Nat) (v:cd ca),i<(cQ (dM.den M e)).toNat->I i v->
  a.wp M (bD (bn.put e cn ⟨.int .i64,(i:Int)⟩) ca v) λx S aD=>bif x.b9 m then I (i+1) (cr _ (fS S aD ca))else bif x.dw xid then k.wp M (bD e ca (cr _ (fS S aD ca))) Q else Q x S aD)/\
  ∀v,I (cQ (dM.den M e)).toNat v->k.wp M (bD e ca v) Q
 | .fG m xid ca a k,e,Q=>∃(I:cd ca->Prop) (j4:cd ca->Nat),I (cr _ (ew e ca))/\j4 (cr _ (ew e ca))<c5/\∀(v:cd ca),I v->
  a.wp M (bD e ca v) λx S aD=>bif x.b9 m then I (cr _ (fS S aD ca))/\j4 (cr _ (fS S aD ca))<j4 v else bif x.dw xid then k.wp M (bD e ca (cr _ (fS S aD ca))) Q else Q x S aD
 | .bad _,_,_=>False
theorem zaB{R A:Type}{b:Nat->A->Step R A}(I:Nat->A->Prop)(z1:R->Prop)(xQ:A->Prop)(n:Nat)(h: ∀i v,i<n->I i v->(∀r,b i v= .ret r->z1 r)/\(∀bC,b i v= .c4 bC->xQ bC)/\∀bC,b i v= .bJ bC->I (i+1) bC)
 (he: ∀v,I n v->xQ v): ∀(m k:Nat) (a:A),k+m=n->I k a->(∀r,bI b k m a= .inl r->z1 r)/\∀v,bI b k m a= .inr v->xQ v
 |0,k,a,hn,hi=>by
  have:k=n:=by omega
  subst this;exact⟨λr ah=>(by cases ah),λv az=>(by cases az;exact he a hi)⟩
 |m+1,k,a,hn,hi=>by
  obtain⟨aa,ae,aw⟩:=h k a (by omega) hi
  simp only[bI]
  cases af:b k a with
  |ret r=>exact⟨λe5 ah=>(by cases ah;exact aa r af),λv az=>(by cases az)⟩
  |c4 v=>exact⟨λe5 ah=>(by cases ah),λbC az=>(by cases az;exact ae v af)⟩
  |bJ v=>exact zaB I z1 xQ n h he m (k+1) v (by omega) (aw v af)
theorem zaC{R A:Type}{b:A->Step R A}(I:A->Prop)(j4:A->Nat)(z1:R->Prop)(xQ:A->Prop)(h: ∀v,I v->(∀r,b v= .ret r->z1 r)/\(∀bC,b v= .c4 bC->xQ bC)/\∀bC,b v= .bJ bC->I bC/\j4 bC<j4 v):
 ∀(m:Nat) (a:A),j4 a<m->I a->mQ b m a/\(∀r,dk b m a= .inl r->z1 r)/\∀v,dk b m a= .inr v->xQ v
 |0,a,hm,_=>absurd hm (Nat.not_lt_zero _)|m+1,a,hm,hi=>by
  obtain⟨aa,ae,aw⟩:=h a hi;simp only[dk,mQ]
  cases af:b a with
  |ret r=>exact⟨trivial,λe5 ah=>(by cases ah;exact aa r af),λv az=>(by cases az)⟩
  |c4 v=>exact⟨trivial,λe5 ah=>(by cases ah),λbC az=>(by cases az;exact ae v af)⟩
  |bJ v=>
   obtain⟨g1,g2⟩:=aw v af;exact zaC I j4 z1 xQ h m v (by omega) g1
def K8(M:List bs)(t:aG)(e:Env)(Q:cm->ax->Env->Prop):Prop:=∃x S aD,run M t e=some (x,S,aD)/\Q x S aD
theorem zaD{m xid:Nat}{ca:List jG}{a:aG}{e:Env}{v:cd ca}{J:cd ca->Prop}{B:cd ca->Prop}{Q:cm->ax->Env->Prop}
 (h:K8 M a e λx S aD=>bif x.b9 m then J (cr _ (fS S aD ca))else bif x.dw xid then B (cr _ (fS S aD ca))else Q x S aD):
 (∀r,dN M m xid ca a e v= .ret r->∃x S aD,r=some (x,S,aD)/\Q x S aD)/\(∀bC,dN M m xid ca a e v= .c4 bC->B bC)/\∀bC,dN M m xid ca a e v= .bJ bC->J bC:=by
 obtain⟨x,S,aD,ah,aB⟩:=h;unfold dN;rw[ah];simp only
 cases hx:x.b9 m with
 |true=>
  rw[hx,cond_true]at aB;rw[rk hx];exact⟨λr a8=>(by cases a8),λbC a8=>(by cases a8),λbC a8=>(by cases a8;exact aB)⟩
 |false=>
  rw[hx,cond_false]at aB
  cases aA:x.dw xid with
  |true=>
   rw[aA,cond_true]at aB;rw[rm hx aA];exact⟨λr a8=>(by cases a8),λbC a8=>(by cases a8;exact aB),λbC a8=>(by cases a8)⟩
  |false=>
   rw[aA,cond_false]at aB;rw[mS hx aA];exact⟨λr a8=>(by cases a8;exact⟨_,_,_,rfl,aB⟩),λbC a8=>(by cases a8),λbC a8=>(by cases a8)⟩
theorem ny: ∀(t:aG) {e:Env} {Q:cm->ax->Env->Prop},t.wp M e Q->t.safe M e/\K8 M t e Q
 | .db x S,e,Q,h=>⟨trivial,x,S,e,rfl,h⟩| .lt i x t,e,Q,h=>ny t (e:=bn.put e i (x.den M e)) h| .fF n t,e,Q,h=>⟨⟨h.1,(ny t h.2).1⟩,(ny t h.2).2⟩| .it g a b,e,Q,h=>by
  refine⟨⟨λai=>(ny a (h.1 ai)).1,λai=>(ny b (h.2 ai)).1⟩,?_⟩
  cases ai:g.aL e .bool with
  |true=>
   obtain⟨x,S,aD,aa,ae⟩:=(ny a (h.1 ai)).2;exact⟨x,S,aD,by rw[xE ai];exact aa,ae⟩
  |false=>
   obtain⟨x,S,aD,aa,ae⟩:=(ny b (h.2 ai)).2;exact⟨x,S,aD,by rw[xE ai];exact aa,ae⟩
 | .eB n a ps k,e,Q,h=>by
  obtain⟨aa,x,aM,aE,ah,aw⟩:=ny a h
  cases hx:x.b9 n with
  |true=>
   rw[hx,cond_true]at aw;obtain⟨eG,mm,bV,aD,eO,mL⟩:=ny k aw;refine⟨⟨aa,λ_=>?_⟩,mm,bV,aD,by unfold run;rw[tZ ah hx];exact eO,mL⟩
   have:(λ(r:a6) (p:e8)=>(⟨r,bif a.lM n
    then a.fold M e (λ_ S aD=>(p.dR S).get aD r) r.gL
    else a.fold M e (λx S aD=>bif x.b9 n then(p.dR S).get aD r else r.gL) r.gL⟩:aK))=λr p=>⟨r,(p.dR aM).get aE r⟩:=by
    funext r p
    simp only[mT ah,hx]
    cases a.lM n<;>rfl
   rw[this];exact eG
  |false=>
   rw[hx,cond_false]at aw;exact⟨⟨aa,λaj=>by rw[mT ah,hx]at aj;cases aj⟩,x,aM,aE,by unfold run;rw[qm ah hx],aw⟩
 | .fc m xid dM cn ca a k,e,Q,h=>by
  obtain⟨I,aP,af,he⟩:=h;have Gl:=λ(i:Nat) (v:cd ca) hi az=>ny a (af i v hi az);have Gm:=λ(i:Nat) (v:cd ca) hi az=>zaD (v:=v) (J:=I (i+1)) (B:=λbC=>k.wp M (bD e ca bC) Q) (Q:=Q) (Gl i v hi az).2;obtain⟨bA,ec⟩:=zaB I (λr=>∃x S aD,r=some (x,S,aD)/\Q x S aD) (λv=>k.wp M (bD e ca v) Q) (cQ (dM.den M e)).toNat Gm (λv az=>he v az) (cQ (dM.den M e)).toNat 0 _ (zZ0 _) aP
  have kX:(λ(i:Nat) (v:cd ca)=>(a.fold M (bD (bn.put e cn ⟨.int .i64,(i:Int)⟩) ca v) (fj m xid ca λ_ _ _=>()) (.c4 v):Step Unit (cd ca)))=λ(i:Nat) v=>kh (λ_=>()) (dN M m xid ca a (bD (bn.put e cn ⟨.int .i64,(i:Int)⟩) ca v) v):=by
   funext i v
   exact ld ..
  have Cm:=zq (λ_:Option ql=>()) (b:=λ(i:Nat) v=>dN M m xid ca a (bD (bn.put e cn ⟨.int .i64,(i:Int)⟩) ca v) v) (c:=λ(i:Nat) v=>kh (λ_=>()) (dN M m xid ca a (bD (bn.put e cn ⟨.int .i64,(i:Int)⟩) ca v) v)) (λ_ _=>rfl) (cQ (dM.den M e)).toNat 0 (cr _ (ew e ca));refine⟨⟨⟨I,aP,λi v hi az=>⟨(Gl i v hi az).1,λbC hn=>(Gm i v hi az).2.2 bC ?_⟩⟩,?_⟩,?_⟩
  ·rw[ld]at hn
   exact xp hn
  ·rw[kX,Cm]
   cases au:bI (λ(i:Nat) v=>dN M m xid ca a (bD (bn.put e cn ⟨.int .i64,(i:Int)⟩) ca v) v) 0 (cQ (dM.den M e)).toNat (cr _ (ew e ca))with
   |inl r=>trivial|inr v=>exact(ny k (ec v au)).1
  ·unfold K8
   rw[J5]
   cases au:bI (λ(i:Nat) v=>dN M m xid ca a (bD (bn.put e cn ⟨.int .i64,(i:Int)⟩) ca v) v) 0 (cQ (dM.den M e)).toNat (cr _ (ew e ca))with
   |inl r=>exact bA r au|inr v=>exact(ny k (ec v au)).2
 | .fG m xid ca a k,e,Q,h=>by
  obtain⟨I,j4,aP,hm,af⟩:=h;have Gl:=λ(v:cd ca) az=>ny a (af v az);have Gm:=λ(v:cd ca) az=>zaD (v:=v) (J:=λbC=>I bC/\j4 bC<j4 v) (B:=λbC=>k.wp M (bD e ca bC) Q) (Q:=Q) (Gl v az).2;obtain⟨A4,bA,ec⟩:=zaC I j4 (λr=>∃x S aD,r=some (x,S,aD)/\Q x S aD) (λv=>k.wp M (bD e ca v) Q) Gm c5 _ hm aP
  have kX:(λ(v:cd ca)=>(a.fold M (bD e ca v) (fj m xid ca λ_ _ _=>()) (.c4 v):Step Unit (cd ca)))=λv=>kh (λ_=>()) (dN M m xid ca a (bD e ca v) v):=by
   funext v
   exact ld ..
  have Cm:=BT (λ_:Option ql=>()) (b:=λv=>dN M m xid ca a (bD e ca v) v) (c:=λv=>kh (λ_=>()) (dN M m xid ca a (bD e ca v) v)) (λ_=>rfl) c5 (cr _ (ew e ca));have zlp:=OH (λ_:Option ql=>()) (b:=λv=>dN M m xid ca a (bD e ca v) v) (c:=λv=>kh (λ_=>()) (dN M m xid ca a (bD e ca v) v)) (λ_=>rfl) c5 (cr _ (ew e ca));refine⟨⟨⟨I,aP,λv az=>⟨(Gl v az).1,λbC hn=>((Gm v az).2.2 bC ?_).1⟩⟩,?_,?_⟩,?_⟩
  ·rw[ld]at hn
   exact xp hn
  ·rw[kX]
   exact zlp.2 A4
  ·rw[kX,Cm]
   cases au:dk (λv=>dN M m xid ca a (bD e ca v) v) c5 (cr _ (ew e ca))with
   |inl r=>trivial|inr v=>exact(ny k (ec v au)).1
  ·unfold K8
   rw[J6]
   cases au:dk (λv=>dN M m xid ca a (bD e ca v) v) c5 (cr _ (ew e ca))with
   |inl r=>exact bA r au|inr v=>exact(ny k (ec v au)).2
 | .bad _,_,_,h=>h.elim
end
def Rx(M:List bs)(t:aG)(rs:List a6)(e:Env):(gi rs).den:=t.kl M e (λ_ C aD=>K7 rs C aD) (gi rs).gL
section
variable {P:Program} {G:aV} {M:List bs} {inl:Nat->List ag->ax->aG}
theorem Bl(cO:gK P G M inl){f:Nat}{m:bs}(t:aG)(aJ:inl f (jM 0 m.ps) (vg m.ps.length)=t)(he:(t.clean&&t.gV.all (zb m.rs))=true:=by kernel_rfl)
 (hm: ∀x,Rx M t m.rs (iX 0 (eH m.ps x))=m.m x:=by intro x;kernel_rfl):eU P G f m:=
 zlo cO t aJ he λx=>by rw[<-hm x];exact(qA t _ _ _).symm
theorem zlq(cO:gK P G M inl){f:Nat}{m:bs}(t:aG)(aJ:inl f (jM 0 m.ps) (vg m.ps.length)=t)(he:t.gV.all (zb m.rs)=true)
 (ao: ∀x,p3 m.pre x->t.wp M (iX 0 (eH m.ps x)) λ_ _ _=>True)(hm: ∀x,Rx M t m.rs (iX 0 (eH m.ps x))=m.m x):eU P G f m:=
 zaA cO t aJ he (λx hx=>(ny t (ao x hx)).1) λx _=>by rw[<-hm x];exact(qA t _ _ _).symm
end
end Go.aH
