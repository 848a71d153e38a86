/- Conditions: none. -/
import Derived.Test.YtddeffoppnlafaaGreatJTDm2
open Bool renaming and_eq_true->zZr,and_self->zVg,and_true->zW4,true_and->zVf
open Int renaming toNat->zZ9
open List renaming cons_append->zVl,getElem?_map->zYo,map->zVn,map_append->zVr,map_congr_left->zW9,map_cons->zXq,map_map->zWq,mem_cons->zZf,mem_cons_of_mem->zVj,mem_singleton->zW0,set->zYy
open Nat renaming add_zero->zYh,beq->zZu,ble->zZt,blt->zZs,eq_of_beq_eq_true->zWi,le_add_right->zY8,le_of_ble_eq_true->zZq,le_of_eq->zVe,le_refl->zZv,le_succ->zVh,lt_succ_self->zYi,not_lt_zero->zVd,sub_zero->zVc,zero_add->zZ0
open Option renaming map_some->zXh
open Option.some renaming injEq->zYt
namespace Go.aH
open Go
def Ce(k:Nat):cf->List cv
 | .f1 .rh x=>[.d1 k .rh x]| .f1 (.la c) x=>[.d1 k (.la c) x]| .f1 .qk x=>[.d1 k .qk x]| .f2 (.lK .add .i64 .i64) x y=>[.d2 k (.lK .add .i64 .i64) x y]| .f2 (.ss .lss .i64) x y=>[.d2 k (.ss .lss .i64) x y]|_=>[]
def Cf(k:Nat):List cf->List cv->List cv
 |[],g=>g|x::r,g=>Cf (k+1) r (Ce k x++g)
def ax.fZ(S:ax)(k:Nat)(xs:List cf):ax:={S with k:=k+xs.length,g:=Cf k xs S.g}
inductive Kk where
 |yes
 |no
 |on (gs:List (ag × Bool))
 |bad
def zJ(l:List cv)(b:Bool):ag->Kk
 | .cs (.bool c)=>match decide (c=b)with
  |true=>.yes|false=>.no
 | .tp _=>.no| .hg h c v=>match h.rt with
  |some .bool=>match zJ l b v with
   | .yes=>.on [(h,c)]| .no=>.no| .on gs=>.on ((h,c)::gs)| .bad=>.bad
  |_=>.bad
 |g=>match g.rt,n9 g l with
  |some .bool,some c=>match decide (c=b)with
   |true=>.yes|false=>.no
  |some .bool,none=>.on [(g,b)]|_,_=>.bad
def guardOf(N:Nat)(ops:Array Oper)(S:ax)(o:Oper):Kk:=
 match o.guard with
 |none=>.yes|some (j,b)=>match ov ops j with
  |some d=>match zZs d N with
   |true=>zJ S.g b ((S.at d).res S.g)|false=>.bad
  |none=>.bad
def ju:List (ag × Bool)->List cv->List cv
 |[],l=>l|(g,b)::r,l=>.fb g b::ju r l
def uk:List (ag × Bool)->hj->hj
 |[],n=>n|(g,b)::r,n=>.XF g b (uk r n)
def oV(k:Nat):List (ag × Bool)->Bool
 |[]=>true|(g,_)::r=>g.lt k&&oV k r
def ho(e:Env):List (ag × Bool)->Bool
 |[]=>true|(g,b)::r=>(g.aL e .bool==b)&&ho e r
def Qb(P:Program)(B:Nat)(S:ax)(t:TypeId)(x:ag):Option dZ:=
 match x.rt,isStr P t&&zZt B S.n with
 |some .str,true=>some ⟨[],[],none,(S.n,.it .st x (.cs (.int .i64 0)))::S.h,S.n+1,.jb S.n⟩|_,_=>none
def Kl(P:Program)(N B:Nat)(T:List (Nat × bZ))(S:ax)(o:Oper):Option dZ:=
 match o.op with
 | .alloc t=>Pp P B S t| .box t x=>Pq B S t (S.bj N x)| .store t p x=>Pr P S t (S.bj N p) (S.bj N x)| .buildSlice t len ps=>match PA P N B T S t len ps.toList with
  |some r=>some r|none=>match PB P B T S t len ps.toList with
   |some r=>some r|none=>match Pz P N T S t len ps.toList with
    |some r=>some r|none=>PC P N B S t len ps.toList
 | .makeSlice t x y=>PD P B T S t (S.bj N x) (S.bj N y)| .range t x=>Qb P B S t (S.bj N x)| .makeMap t none=>P9 P B T S t| .mapUpdate t m x y=>Qa P T S t (S.bj N m) (S.bj N x) (S.bj N y)| .call c=>match c.callee,c.args.toList,c.argTypes.toList with
  | .builtin .append,[x,y],[t,br]=>match zZu t br with
   |true=>PF P B S t (S.bj N x) (S.bj N y)|false=>PG P B S t br (S.bj N x) (S.bj N y)
  |_,_,_=>none
 |_=>none
structure um where
 xs:List cf
 g:ag
 h:List (Nat × b1)
 v:ag
 bC:ag
def YR(S:ax)(x:ag):Option um:=
 match x with
 | .jb id=>match dG S.h id with
  |some (.it .st s p)=>match s.rt,p.rt with
   |some .str,some (.int .i64)=>some ⟨[.f2 .Fe s p,.f2 .Ff s p,.f2 .Fg s p,.f2 .Fh s p],.bE .bool S.k,lL S.h id (.it .st s (.bE (.int .i64) (S.k+3))),
    .tp [.cs (.bool true),.bE (.int .i64) (S.k+1),.bE (.int .i32) (S.k+2)],.tp [.cs (.bool false)]⟩
   |_,_=>none
  |_=>none
 |_=>none
def Qc(N:Nat)(S:ax)(o:Oper):Option um:=
 match o.op with
 | .next x true=>YR S (S.bj N x)|_=>none
def um.ok(q:um)(S:ax):Bool:=(jt S.k q.xs&&q.g.lt (S.k+q.xs.length))&&(fT (S.k+q.xs.length) q.h&&(q.v.lt (S.k+q.xs.length)&&q.bC.lt (S.k+q.xs.length)))
def um.st(q:um)(S:ax)(dst:Option Nat):ax:=(ax.put {S.fZ S.k q.xs with h:=q.h,g:=.fb q.g true::(S.fZ S.k q.xs).g} dst q.v).Kg
def um.Cg(q:um)(S:ax)(dst:Option Nat):ax:=(ax.put {S.fZ S.k q.xs with g:=.fb q.g false::(S.fZ S.k q.xs).g} dst q.bC).Kg
def b1.kind:b1->b1->Bool
 | .dQ _ _,.dQ _ _=>true| .rw _ c _,.rw _ d _=>zZu (dE c) (dE d)| .it _ _ _,.it _ _ _=>true|_,_=>false
def FL(n:Nat)(aP:List (Nat × b1)):List (Nat × b1)->Bool
 |[]=>true
 |(id,o)::r=>(match zZs id n with
  |true=>match dG aP id with
   |some ct=>b1.kind ct o|none=>false
  |false=>true)&&FL n aP r
mutual
def ag.vI(n:Nat):ag->Bool
 | .cH l=>ag.xz n l| .tp l=>ag.xz n l| .fi k _=>zZs k n| .iM k _ _=>zZs k n| .iY k _ _ _=>zZs k n| .aq k=>zZs k n| .cM k _=>zZs k n| .gC _ (some k) _=>zZs k n| .fn _ a b=>ag.xz n a&&ag.xz n b| .jb k=>zZs k n| .hg _ _ x=>ag.vI n x|_=>true
def ag.xz(n:Nat):List ag->Bool
 |[]=>true|x::r=>ag.vI n x&&ag.xz n r
end
def ru(n:Nat):List (Nat × b1)->Bool
 |[]=>true|(id,.dQ _ l)::r=>zZs id n&&(ag.xz n l&&ru n r)|(id,.rw _ _ _)::r=>zZs id n&&ru n r|(id,.it _ _ _)::r=>zZs id n&&ru n r
def ax.back(S:ax)(dst:Option Nat)(C:ax):ax:=(⟨S.l,C.h,C.n,C.k,C.g⟩:ax).put dst (C.at 0)
def zK(S C:ax):Bool:=(ag.vI C.n (C.at 0)&&ru C.n C.h)&&(zZt S.n C.n&&FL S.n S.h C.h)
def uo(S:ax)(dst:Option Nat)(C:ax):aG:=
 match zK S C with
 |true=>.db .cp (S.back dst C)|false=>.bad 34
def Qd(C:ax):List ag->List ag->Nat->Option (Nat × Nat × Nat)
 | .aq k::r,.aq m::e5,off=>match zZu k m,dG C.h k,dG C.h m with
  |false,none,some (.rw _ _ _)=>some (off,k,m)|_,_,_=>Qd C r e5 (off+1)
 |_::r,_::e5,off=>Qd C r e5 (off+1)|_,_,_=>none
def Km(C:ax):List (Nat × b1)->Option (Nat × Nat × Nat × Nat)
 |[]=>none|(id,.dQ _ l0)::r=>match dG C.h id with
  |some (.dQ _ l)=>match Qd C l0 l 0 with
   |some (off,k,m)=>some (id,off,k,m)|none=>Km C r
  |_=>Km C r
 |_::r=>Km C r
def Kn(m:Nat):Option ag->Bool
 |some (.aq j)=>zZu j m|_=>false
def Ch(B id off k m:Nat)(C:ax):ax:=
 match dG C.h id,dG C.h m with
 |some (.dQ t l),some (.rw iN c x)=>match Kn m (l[off]?)&&((zZt B k&&zZs k C.n)&& !(zZu id k))with
  |true=>⟨(C.l.map (ag.kill m)).map (ag.kill k),lL ((k,.rw iN c x)::j2 k (j2 m C.h)) id (.dQ t ((ag.ff k (ag.ff m l)).set off (.aq k))),C.n,C.k,C.g⟩|false=>C
 |_,_=>C
def vJ(B:Nat)(S C:ax):ax:=
 match Km C S.h with
 |some (id,off,k,m)=>Ch B id off k m C|none=>C
def Qe(B:Nat)(C:ax):List (Nat × b1)->Option Nat
 |[]=>none|(id,.rw _ _ _)::r=>match dG C.h id,zZt B id with
  |none,true=>some id|_,_=>Qe B C r
 |_::r=>Qe B C r
def xA(B d k m:Nat)(C:ax):ax:=
 match dG C.h m with
 |some (.rw iN c x)=>match Kn m (C.l.get d)&&(zZt B k&&zZs k C.n)with
  |true=>ax.put ⟨(C.l.map (ag.kill m)).map (ag.kill k),(k,.rw iN c x)::j2 k (j2 m C.h),C.n,C.k,C.g⟩ (some d) (.aq k)|false=>C
 |_=>C
def vK(B N:Nat)(S C:ax)(dst:Option Nat):ax:=
 match dst with
 |some d=>match C.l.get d,Qe B C S.h with
  |some (.aq m),some k=>match zZt S.n m&&zZs d N with
   |true=>match zZs d N with
    |true=>xA B d k m C|false=>C
   |false=>C
  |_,_=>C
 |none=>C
def Ci(P:Program)(N:Nat)(S:ax)(o:Oper):Option (Nat × List ag):=
 match o.op with
 | .call c=>match c.callee with
  | .value x=>match S.bj N x with
   | .fn (.func f) p q=>some (f,p++c.args.toList.map (S.bj N)++q)|_=>none
  | .invoke x name=>match S.bj N x with
   | .eE t a rs l=>match methodOf P t name,vD a l,decide (sE l=some rs)with
    |some f,some v,true=>some (f,[v]++c.args.toList.map (S.bj N)++[])|_,_,_=>none
   |_=>none
  |_=>none
 |_=>none
def ag.xB(id:Nat)(x y:ag):ag:=
 match y with
 | .aq j=>match zZu j id with
  |true=>x|false=>.aq j
 |y=>ag.kill id y
def ag.xC(id:Nat)(x y:ag):ag:=
 match y with
 | .cH l=>.cH (l.map (ag.xB id x))|y=>ag.xB id x y
def ag.sm(id:Nat)(x y:ag):ag:=
 match y with
 | .tp l=>.tp (l.map (ag.xC id x))|y=>ag.xC id x y
def Ko(id:Nat)(x:ag)(S:ax):ax:=⟨S.l.map (ag.sm id x),j2 id S.h,S.n,S.k,S.g⟩
def ag.YS(c:bZ)(x:ag):Bool:=
 match x.rt with
 |some r=>jO r (.li c)|none=>false
def sN(S:ax)(id:Nat):ax:=
 match dG S.h id with
 |some (.rw _ c x)=>match x.YS c with
  |true=>Ko id x S|false=>S
 |_=>S
def kM:List ag->ax->ax
 |[],S=>S| .aq id::r,S=>kM r (sN S id)|_::r,S=>kM r S
def YT(f:Nat):List Nat->Bool
 |[]=>false|g::r=>zZu g f||YT f r
def Cj:List ag->List ag
 |[]=>[]| .aq j::r=>.aq j::Cj r
 | .cH l::r=>l.filter (λy=>match y with
  | .aq _=>true
  |_=>false)++Cj r
 |_::r=>Cj r
def preB(P:Program)(N:Nat)(S:ax)(o:Oper):Option (List ag):=
 match o.op with
 | .call _=>match o.guard with
  |some _=>none|none=>match Ci P N S o with
   |some (f,aI)=>match YT f zh0 with
    |true=>some aI|false=>none
   |none=>none
 | .buildSlice _ _ ps=>match o.guard with
  |some _=>none|none=>match Cj (ps.toList.map λq=>S.bj N q.2)with
   |[]=>none|l=>some l
 |_=>none
def FM(f:cx)(x:ag):List cv->Option Nat
 |[]=>none| .d1 j g y::r=>match decide (g=f)&&eF y x with
  |true=>some j|false=>FM f x r
 |_::r=>FM f x r
def Qf(S:ax)(r:eC):Option (a6 × Nat):=
 match r.xs,r.ns,r.v with
 |[.f1 f x],[],.bE t k=>match zZu k S.k with
  |true=>match FM f x S.g with
   |some j=>match zZs j S.k with
    |true=>some (t,j)|false=>none
   |none=>none
  |false=>none
 |_,_,_=>none
def YU(f:gy)(a b:Int):Option ag:=
 match f with
 | .lK .add .i64 .i64=>some (.cs (.int .i64 (a1 .add .i64 a b)))| .lK .sub .i64 .i64=>some (.cs (.int .i64 (a1 .sub .i64 a b)))| .lK .mul .i64 .i64=>some (.cs (.int .i64 (a1 .mul .i64 a b)))| .ss op .i64=>some (.cs (.bool (Fc op a b)))|_=>none
def Qg(S:ax)(r:eC):Option ag:=
 match r.xs,r.ns,r.v with
 |[.f2 f (.cs (.int .i64 a)) (.cs (.int .i64 b))],[],.bE t k=>match zZu k S.k&&jO t f.c with
  |true=>YU f a b|false=>none
 |_,_,_=>none
def Qh(o:Oper):Nat:=
 match o.op with
 | .pick _ _ _=>1| .alloc _=>2| .box _ _=>3| .build _ _=>4| .buildSlice _ _ _=>5| .insert _ _ _ _=>6| .load _ _=>7| .store _ _ _=>8| .nilCheck _=>9| .binOp _ _ _ _ _=>10| .unOp _ _ _=>11| .convert _ _ _=>12| .makeInterface _ _=>13| .makeFunc _ _ _=>14| .makeMap _ _=>15| .makeSlice _ _ _=>16| .slice _ _ _ _ _=>17| .fieldAddr _ _ _=>18| .field _ _ _=>19| .indexAddr _ _ _=>20| .index _ _ _=>21| .lookup _ _ _ _=>22| .mapUpdate _ _ _ _=>23| .call c=>match c.callee with
  | .builtin .append=>30| .builtin .len=>31| .builtin .copy=>32| .builtin _=>33| .value _=>34|_=>35
 | .range _ _=>40| .next _ _=>41| .extract _ _=>42|_=>50
def exec(P:Program)(N B:Nat)(T:List (Nat × bZ))(inl:Nat->List ag->ax->aG)(o:Oper)(S:ax)(k:ax->aG):aG:=
 match uf P N S o with
 |some r=>match jt S.k r.xs&&r.v.lt (S.k+r.xs.length)with
  |true=>match Qf S r with
   |some (t,j)=>k (S.put o.dst (.bE t j))|none=>match Qg S r with
    |some v=>k (S.put o.dst v)|none=>emit S.k r.xs r.ns (k ((S.fZ S.k r.xs).put o.dst r.v))
  |false=>.bad 30
 |none=>match Kl P N B T S o with
  |some r=>match jt S.k r.xs&&(r.v.lt (S.k+r.xs.length)&&fT (S.k+r.xs.length) r.h)with
   |true=>emit S.k r.xs r.ns (k ((r.st S o.dst).fZ S.k r.xs))|false=>.bad 31
  |none=>match Qc N S o with
   |some q=>match q.ok S with
    |true=>emit S.k q.xs [] (.it q.g (k (q.st S o.dst)) (k (q.Cg S o.dst)))|false=>.bad 33
   |none=>match Ci P N S o with
    |some (f,aI)=>match o6 P f with
     |true=>nw N S ((inl f aI S).fe (uo S o.dst) none) λC=>k (vK B N S (vJ B S C) o.dst)
     |false=>.bad 32
    |none=>.bad (100+Qh o)
def Kp(g:ag)(b:Bool)(x y:aG):aG:=
 match b with
 |true=>.it g x y|false=>.it g y x
def xD(y:List cv->aG):List (ag × Bool)->aG->List cv->aG
 |[],x,_=>x|(g,b)::r,x,l=>Kp g b (xD y r x (.fb g b::l)) (y (.fb g (!b)::l))
def vL(S:ax)(dst:Option Nat)(l:List cv):aG:=.db .cp (ax.put {S with g:=l} dst (.tp []))
def j3(P:Program)(N B:Nat)(T:List (Nat × bZ))(inl:Nat->List ag->ax->aG)(ops:Array Oper):List Oper->ax->aG
 |[],S=>.db .cp S|o::r,S=>match guardOf N ops S o with
  | .yes=>match preB P N S o with
   |some aI=>exec P N B T inl o (kM aI S) (j3 P N B T inl ops r)|none=>exec P N B T inl o S (j3 P N B T inl ops r)
  | .no=>j3 P N B T inl ops r (S.put o.dst (.tp []))| .on gs=>match oV S.k gs with
   |true=>match uf P N {S with g:=ju gs S.g} o with
    |some q=>match jt S.k q.xs&&q.v.lt (S.k+q.xs.length)with
     |true=>emit S.k q.xs (q.ns.map (uk gs)) (j3 P N B T inl ops r ((S.fZ S.k q.xs).put o.dst (mU gs q.v)))|false=>.bad 35
    |none=>ui N S o.dst gs (xD (vL S o.dst) gs (exec P N B T inl o {S with g:=ju gs S.g} (.db .cp)) S.g) (j3 P N B T inl ops r)
   |false=>.bad 36
  | .bad=>.bad 37
section
variable {P:Program} {G:aV} {N B:Nat} {M:List bs} {T:List (Nat × bZ)} {inl:Nat->List ag->ax->aG}
theorem zjV{S:ax}{o:Oper}{t:TypeId}{x:Operand}{r:dZ}(av:o.op= .range t x)(h:Qb P B S t (S.bj N x)=some r):pE P G N B M o S r:=λe hf hx hn=>by
 unfold Qb at h
 split at h
 ·rename_i zC hc
  cases h;simp only[zZr]at hc
  have lN:aR G (S.den G N B e) x= .ad (.v (.string ((S.bj N x).aL e .str))):=by rw[b3 hf];exact hH zC
  have:=TV (P:=P) (G:=G) (s:=S.den G N B e) t x av (uP hc.1) lN (zZq hc.2);unfold dZ.st;rw[gu];exact this
 ·cases h
theorem zjW{S:ax}{o:Oper}{q:um}{e:Env}(h:Qc N S o=some q)(hf:S.cV e)(hx: ∀(j:Nat) (x:cf),q.xs[j]? =some x->Env.at e (S.k+j)=x.den M e):
 (q.g.aL e .bool=true->eL P G o (S.den G N B e) ((ax.put {S with h:=q.h} o.dst q.v).den G N B e))/\(q.g.aL e .bool=false->eL P G o (S.den G N B e) ((S.put o.dst q.bC).den G N B e)):=by
 unfold Qc at h
 split at h
 ·rename_i x av
  unfold YR at h
  split at h
  ·rename_i id az
   split at h
   ·rename_i s p ai
    split at h
    ·rename_i aa ae
     cases h
     have lN:aR G (S.den G N B e) x= .ref id:=by rw[b3 hf,az];rfl
     have bq:aF (S.den G N B e).heap id=some (.bW (tl (s.aL e .str) (zZ9 (p.aL e (.int .i64))))):=by
      show aF (di G e S.h) id=_;rw[fx,ai];rfl
     have x0:=hx 0 _ rfl;have aU:=hx 1 _ rfl;have iW:=hx 2 _ rfl;have YV:=hx 3 _ rfl;simp only[cf.den,gy.den,zYh]at x0 aU iW YV
     have xx:(ag.bE .bool S.k).aL e .bool=decide (zZ9 (p.aL e (.int .i64))<ByteArray.size (s.aL e .str)):=by
      simp only[ag.aL,ag.hh,ag.dyn,x0,df]
     refine⟨λaJ=>?_,λaJ=>?_⟩
     ·rw[xx]at aJ
      have:=TS (P:=P) (G:=G) (s:=S.den G N B e) x av lN bq (of_decide_eq_true aJ) (c:=(Utf8.decode (s.aL e .str) (zZ9 (p.aL e (.int .i64)))).1) (k:=(Utf8.decode (s.aL e .str) (zZ9 (p.aL e (.int .i64)))).2) rfl;rw[gu]
      have a8:(({S with h:=lL S.h id (.it .st s (.bE (.int .i64) (S.k+3)))}:ax).den G N B e)={S.den G N B e with heap:=eX (S.den G N B e).heap id (.bW (tl (s.aL e .str) (zZ9 (p.aL e (.int .i64))+(Utf8.decode (s.aL e .str) (zZ9 (p.aL e (.int .i64)))).2)))}:=by
       simp only[ax.den,xr,b1.den]
       congr 3
       simp only[ag.aL,ag.hh,ag.dyn,YV,df];rfl
      rw[a8]
      have zjX:(ag.tp [.cs (.bool true),.bE (.int .i64) (S.k+1),.bE (.int .i32) (S.k+2)]).den G e= .tuple [.ad (.v (.bool true)),.ad (.v (.int .i64 ((zZ9 (p.aL e (.int .i64)):Nat):Int))),.ad (.v (.int .i32 (((Utf8.decode (s.aL e .str) (zZ9 (p.aL e (.int .i64)))).1:Nat):Int)))]:=by
       simp only[ag.den,ag.cc,aU,iW,df,hb,mP]
      rw[zjX];exact this
     ·rw[xx]at aJ
      have:=TT (P:=P) (G:=G) (s:=S.den G N B e) x av lN bq (Nat.le_of_not_lt (of_decide_eq_false aJ));rw[gu];exact this.step
    ·cases h
   ·cases h
  ·cases h
 ·cases h
theorem YW{S:ax}{o:Oper}{r:dZ}(h:Kl P N B T S o=some r):pE P G N B M o S r:=by
 unfold Kl at h
 split at h
 ·exact zjo (by assumption) h
 ·exact zjp (by assumption) h
 ·exact zjr (by assumption) h
 ·split at h
  ·rename_i aB
   cases h;exact zjB (by assumption) aB
  ·split at h
   ·rename_i aB
    cases h;exact zjA (by assumption) aB
   ·split at h
    ·rename_i aB
     cases h;exact zjy (by assumption) aB
    ·exact zjC (by assumption) h
 ·exact zjD (by assumption) h
 ·exact zjV (by assumption) h
 ·exact zjT (by assumption) h
 ·exact zjU (by assumption) h
 ·rename_i c av
  split at h
  ·rename_i x y t br hc hx aJ
   split at h
   ·rename_i af
    have:=zWi af;subst this;obtain⟨callee,args,ts⟩:=c;simp only at hc hx aJ;rw[hc,E1 hx,E1 aJ]at av;exact zjG av h
   ·obtain⟨callee,args,ts⟩:=c
    simp only at hc hx aJ;rw[hc,E1 hx,E1 aJ]at av;exact zjH av h
  ·cases h
 ·cases h
theorem xE{g:ag}{a b:aG}{e:Env}{v:Bool}(h:g.aL e .bool=v):run M (.it g a b) e=match v with|true=>run M a e|false=>run M b e:=by
 simp only[run,aG.fold,h]
 cases v<;>rfl
def FN:cm->Exit->Prop
 | .cp,.normal=>True| .ext n,.exit m=>n=m| .ret,.ret=>True|_,_=>False
def lQ(G:aV)(N B:Nat)(M:List bs)(t:aG)(e:Env)(aX:Nat):Exit->aS->Prop:=λex st=>
 ∃x bV aD,run M t e=some (x,bV,aD)/\FN x ex/\b5 st (bV.den G N B aD)/\bV.cU/\bV.cV aD/\cy aX e aD/\aX<=bV.k
theorem lQ.sub{t br:aG}{e aD:Env}{k bl:Nat}{ex:Exit}{st:aS}(h:lQ G N B M br aD bl ex st)(ah:run M t e=run M br aD)(ba:cy k e aD)(an:k<=bl):lQ G N B M t e k ex st:=by
 obtain⟨x,bV,bc,aa,ae,aw,aN,bx,cB,eN⟩:=h;exact⟨x,bV,bc,ah.trans aa,ae,aw,aN,bx,cy.trans ba cB an,Nat.le_trans an eN⟩
theorem YX{x:cm}{ex:Exit}(h:FN x ex)(n:Nat):x.b9 n=false:=by
 cases x with
 |n8 m=>cases ex<;>cases h
 |_=>rfl
def gK(P:Program)(G:aV)(M:List bs)(inl:Nat->List ag->ax->aG):Prop:=
 ∀f aI (S:ax) e,S.cU->ag.c6 S.k aI=true->S.cV e->(inl f aI S).safe M e->
  fa P G f (ag.cc G e aI) (di G e S.h) S.n λr cu=>∃C aD,run M (inl f aI S) e=some (.cp,C,aD)/\r=(C.at 0).den G aD/\cu=di G aD C.h/\C.cU/\C.cV aD/\cy S.k e aD/\S.k<=C.k
theorem zjY{e:Env}{k:Nat}{x:cf}(h:Env.at e k=x.den M e): ∀c∈Ce k x,c.ok e:=λc hc=>by
 unfold Ce at hc
 split at hc
 ·rw[zW0]at hc;subst hc;exact h
 ·rw[zW0]at hc;subst hc;exact h
 ·rw[zW0]at hc;subst hc;exact h
 ·rw[zW0]at hc;subst hc;exact h
 ·rw[zW0]at hc;subst hc;exact h
 ·cases hc
theorem zjZ{k:Nat}{x:cf}(h:x.lt k=true):gD (k+1) (Ce k x)=true:=by
 have af:zZs k (k+1)=true:=nq (zYi k);unfold Ce
 split
 ·simp only[gD,cv.lt,af,iq (zVh k) (x:=_) h,zVg]
 ·simp only[gD,cv.lt,af,iq (zVh k) (x:=_) h,zVg]
 ·simp only[gD,cv.lt,af,iq (zVh k) (x:=_) h,zVg]
 ·simp only[cf.lt,zZr]at h
  simp only[gD,cv.lt,af,iq (zVh k) h.1,iq (zVh k) h.2,zVg]
 ·simp only[cf.lt,zZr]at h
  simp only[gD,cv.lt,af,iq (zVh k) h.1,iq (zVh k) h.2,zVg]
 ·rfl
theorem YY{k:Nat}: ∀{a b:List cv},gD k a=true->gD k b=true->gD k (a++b)=true
 |[],_,_,h=>h|c::a,b,h,h'=>by
  simp only[gD,zZr]at h;simp only[zVl,gD,h.1,YY h.2 h',zVg]
theorem YZ{e:Env}: ∀{xs:List cf} {k:Nat} {g:List cv},(∀c∈g,c.ok e)->(∀(j:Nat) (x:cf),xs[j]? =some x->Env.at e (k+j)=x.den M e)->∀c∈Cf k xs g,c.ok e
 |[],_,_,h,_=>h|x::r,k,g,h,hx=>by
  refine YZ (xs:=r) (k:=k+1) (λc hc=>?_) λj y aA=>?_
  ·rcases List.mem_append.1 hc with hc|hc
   ·exact zjY (hx 0 x (by simp)) c hc
   ·exact h c hc
  ·have:=hx (j+1) y (by simpa using aA)
   rw[show k+1+j=k+(j+1)by omega];exact this
theorem Y0: ∀{xs:List cf} {k:Nat} {g:List cv},jt k xs=true->gD k g=true->gD (k+xs.length) (Cf k xs g)=true
 |[],_,_,_,h=>h|x::r,k,g,au,h=>by
  simp only[jt,zZr]at au;have:=Y0 (xs:=r) (k:=k+1) (g:=Ce k x++g) au.2 (YY (zjZ au.1) (sz (zVh k) h));rw[List.length_cons,show k+(r.length+1)=k+1+r.length by omega]
  exact this
theorem vM{S:ax}{e:Env}{xs:List cf}(af:S.cU)(hf:S.cV e)(au:jt S.k xs=true):
 (S.fZ S.k xs).cU/\(S.fZ S.k xs).cV (ed M e S.k xs)/\(S.fZ S.k xs).den G N B (ed M e S.k xs)=S.den G N B e:=by
 have ba:cy S.k e (ed M e S.k xs):=mv (zZv _);refine⟨⟨λi x hx=>iq (zY8 _ _) (af.l i x hx),zu (zY8 _ _) af.h,Y0 au af.g⟩,YZ (kL ba af.g hf) (lO au),?_⟩;exact(nu ba af:S.den G N B (ed M e S.k xs)=S.den G N B e)
theorem lR{S:ax}{dst:Option Nat}{v:ag}(af:S.cU)(az:v.lt S.k=true):(S.put dst v).cU:=by
 cases dst with
 |none=>exact af|some d=>
  refine⟨λi x hx=>?_,af.h,af.g⟩;simp only[ax.put,bn.lu]at hx
  split at hx
  ·cases hx;exact az
  ·exact af.l i x hx
theorem FO{e:Env}{f:cx}{x:ag}{j:Nat}: ∀{l:List cv},FM f x l=some j->(∀c∈l,c.ok e)->Env.at e j=⟨f.c,f.den (x.aL e f.a)⟩
 | .d1 i g y::r,h,hc=>by
  simp only[FM]at h
  split at h
  ·rename_i af
   cases h;simp only[zZr,decide_eq_true_eq]at af
   have:=hc (.d1 j g y) (by simp)
   simp only[cv.ok]at this;rw[this,af.1,eQ af.2]
  ·exact FO h λc hm=>hc c (by simp[hm])
 | .d2 _ _ _ _::r,h,hc=>FO (l:=r) h λc hm=>hc c (by simp[hm])
 | .rg _ _::r,h,hc=>FO (l:=r) h λc hm=>hc c (by simp[hm])
 | .fb _ _::r,h,hc=>FO (l:=r) h λc hm=>hc c (by simp[hm])
theorem zj0{S:ax}{r:eC}{t:a6}{j:Nat}{e:Env}(h:Qf S r=some (t,j))(hf:S.cV e)(au:jt S.k r.xs=true):(ag.bE t j).den G e=r.v.den G (ed M e S.k r.xs)/\zZs j S.k=true/\r.ns=[]:=by
 unfold Qf at h
 split at h
 ·rename_i f x br k hx hn az
  split at h
  ·rename_i an
   split at h
   ·rename_i zo2 aj
    split at h
    ·rename_i bR
     cases h;refine⟨?_,bR,hn⟩
     have aa:=FO aj hf;have ae:=lO (M:=M) (e:=e) au 0 (.f1 f x) (by rw[hx];rfl)
     rw[zYh]at ae;rw[az,zWi an];simp only[ag.den];rw[aa,ae]
     have zj1:x.lt S.k=true:=by
      rw[hx]at au;simp only[jt,cf.lt,zZr]at au;exact au.1
     simp only[cf.den];rw[fY (mv (zZv _)) zj1]
    ·cases h
   ·cases h
  ·cases h
 ·cases h
theorem zj2{S:ax}{r:eC}{v:ag}{e:Env}(h:Qg S r=some v)(au:jt S.k r.xs=true):v.den G e=r.v.den G (ed M e S.k r.xs)/\v.lt S.k=true/\r.ns=[]:=by
 unfold Qg at h
 split at h
 ·rename_i f a b t k hx hn az
  split at h
  ·rename_i an
   simp only[zZr]at an;have ae:=lO (M:=M) (e:=e) au 0 _ (by rw[hx];rfl)
   rw[zYh]at ae;rw[az,zWi an.1,jr an.2];unfold YU at h
   split at h<;>first|cases h|skip
   all_goals
    refine⟨?_,rfl,hn⟩;simp only[ag.den,ae,cf.den,df,ag.aL,ag.hh,ag.dyn,gy.den];rfl
  ·cases h
 ·cases h
theorem lS{S:ax}{dst:Option Nat}{v:ag}{e:Env}(hf:S.cV e):(S.put dst v).cV e:=by
 cases dst<;>exact hf
theorem lT{S:ax}{dst:Option Nat}{v:ag}:(S.put dst v).k=S.k:=by cases dst<;>rfl
end
end Go.aH
namespace Go.aH
open Go
section
variable {P:Program} {G:aV} {N B:Nat} {M:List bs} {T:List (Nat × bZ)} {inl:Nat->List ag->ax->aG}
theorem c9.zj3{ops:Array Oper}{o:Oper}{rest:List Oper}{s:aS}{Q:Exit->aS->Prop}{A:aS->Prop}(ai:fh ops s o=some true)
 (h: ∀(E:Entry) (a:Act) (w:World),Rel E G s a w->∀(K:Act->World->Prop) (Q:Exit->Act->World->Prop),(∀t,A t->∀bo w',Rel E G t bo w'->K bo w')->o.wp P a w K Q)(k: ∀t,A t->c9 P G ops Q rest t):c9 P G ops Q (o::rest) s:=
 λE a w ah=>wpList_step λ_ hK=>by
  have aA:=nJ ah ai;simp only[aA,if_true];exact h E a w ah _ _ λt aJ bo w' dW=>hK bo w' (k t aJ E bo w' dW)
mutual
theorem FP{n:Nat}{e:Env}: ∀{x:ag},ag.vI n x=true->jh n (x.den G e)=true:=λ{x} h=>by
 cases x with
 |cH l=>simp only[ag.den,jh];exact Ck (l:=l) h|tp l=>simp only[ag.den,jh];exact Ck (l:=l) h|fn f a b=>
  simp only[ag.vI,zZr]at h;simp only[ag.den,jh,Ck h.1,Ck h.2,zVg]
 |fi k o=>simp only[ag.den,jh];exact decide_eq_true (fz h)|iM k x o=>simp only[ag.den,jh];exact decide_eq_true (fz (i:=k) h)|iY k o x n=>simp only[ag.den,jh];exact decide_eq_true (fz (i:=k) h)|cM k n=>simp only[ag.den,jh];exact decide_eq_true (fz (i:=k) h)|gC g i o=>
  cases i with
  |none=>simp only[ag.den];cases g.aL e .bool<;>rfl
  |some k=>
   have aa:decide (k<n)=true:=decide_eq_true (fz (i:=k) h);simp only[ag.den];cases g.aL e .bool
   ·rfl
   ·exact aa
 |aq k=>simp only[ag.den,jh];exact decide_eq_true (fz h)|jb k=>simp only[ag.den,jh];exact decide_eq_true (fz h)|hg g b x=>
  have:jh n (x.den G e)=true:=FP h;simp only[ag.den]
  cases g.aL e .bool<;>cases b<;>first|exact this|rfl
 |mo g o=>simp only[ag.den];cases G g<;>rfl
 |_=>rfl
theorem Ck{n:Nat}{e:Env}: ∀{l:List ag},ag.xz n l=true->pv n (ag.cc G e l)=true:=λ{l} h=>by
 match l with
 |[]=>rfl|x::r=>
  simp only[ag.xz,zZr]at h;simp only[ag.cc,pv,FP h.1,Ck h.2,zVg]
end
theorem zL{n:Nat}{e:Env}: ∀{h:List (Nat × b1)},ru n h=true->l1 n (di G e h)=true
 |[],_=>rfl|(id,.dQ t l)::r,h=>by
  simp only[ru,zZr]at h;simp only[di,b1.den,l1,zL h.2.2,Ck h.2.1,decide_eq_true (fz h.1),zVg]
 |(id,.rw t c x)::r,h=>by
  simp only[ru,zZr]at h;simp only[di,b1.den,l1,zL h.2,decide_eq_true (fz h.1),zVg]
 |(id,.it q x p)::r,h=>by
  simp only[ru,zZr]at h;simp only[di,b1.den,l1,zL h.2,decide_eq_true (fz h.1),zVg]
theorem Y1: ∀{h:List (Nat × b1)} {id:Nat} {o:b1},dG h id=some o->(id,o)∈h
 |(i,p)::r,id,o,h=>by
  simp only[dG]at h
  split at h
  ·rename_i af
   cases h;rw[zWi af];simp
  ·exact zVj _ (Y1 h)
theorem Y2{n:Nat}{aP:List (Nat × b1)}{e aD:Env}: ∀{h:List (Nat × b1)},FL n aP h=true->∀id o,id<n->aF (di G aD h) id=some o->∃ct,aF (di G e aP) id=some ct/\JY ct o:=by
 have key: ∀{h:List (Nat × b1)},FL n aP h=true->∀id sL,(id,sL)∈h->id<n->∃ct,dG aP id=some ct/\b1.kind ct sL=true:=by
  intro h
  induction h with
  |nil=>intro _ _ _ hm;cases hm
  |cons p r bb=>
   obtain⟨j,q⟩:=p;intro an id sL hm bR;simp only[FL,zZr]at an
   rcases zZf.1 hm with he|he
   ·cases he
    have aa:=an.1;rw[nq bR]at aa;simp only at aa
    split at aa
    ·rename_i ct av;exact⟨ct,av,aa⟩
    ·cases aa
   ·exact bb an.2 id sL he bR
 intro h an id o bR ai;rw[fx]at ai
 cases ao:dG h id with
 |none=>rw[ao]at ai;cases ai
 |some sL=>
  rw[ao]at ai;cases ai;obtain⟨ct,aa,ae⟩:=key an id sL (Y1 ao) bR;refine⟨ct.den G e,by rw[fx,aa];rfl,?_⟩
  cases ct<;>cases sL<;>first|trivial|(cases ae;done)|exact zWi ae
mutual
theorem xF(id:Nat){k:Nat}: ∀{x:ag},x.lt k=true->(x.kill id).lt k=true:=λ{x} h=>by
 cases x with
 |cH l=>exact xG id (l:=l) h|tp l=>exact xG id (l:=l) h|fn f a b=>
  simp only[ag.lt,zZr]at h;simp only[ag.kill,ag.lt,zZr];exact⟨xG id h.1,xG id h.2⟩
 |hg g b x=>
  simp only[ag.lt,zZr]at h;simp only[ag.kill,ag.lt,zZr];exact⟨h.1,xF id h.2⟩
 |fi j o=>simp only[ag.kill];split<;>first|rfl|exact h
 |iM j x o=>simp only[ag.kill];split<;>first|rfl|exact h
 |iY j o x n=>simp only[ag.kill];split<;>first|rfl|exact h
 |cM j n=>simp only[ag.kill];split<;>rfl
 |gC g i o=>
  cases i with
  |none=>exact h|some j=>simp only[ag.kill];split<;>exact h
 |aq j=>simp only[ag.kill];split<;>first|rfl|exact h
 |jb j=>simp only[ag.kill];split<;>first|rfl|exact h
 |_=>exact h
theorem xG(id:Nat){k:Nat}: ∀{l:List ag},ag.c6 k l=true->ag.c6 k (ag.ff id l)=true:=λ{l} h=>by
 match l with
 |[]=>rfl|x::r=>
  simp only[ag.c6,zZr]at h;simp only[ag.ff,ag.c6,zZr];exact⟨xF id h.1,xG id h.2⟩
end
theorem Y3{S:ax}{o:Oper}{r:dZ}{e:Env}(af:S.cU)(hf:S.cV e)(au:jt S.k r.xs=true)(az:r.v.lt (S.k+r.xs.length)=true)(a8:fT (S.k+r.xs.length) r.h=true):
 ((r.st S o.dst).fZ S.k r.xs).cU/\((r.st S o.dst).fZ S.k r.xs).cV (ed M e S.k r.xs):=by
 obtain⟨cw,a2,_⟩:=vM (M:=M) (G:=λ_=>none) (N:=0) (B:=0) af hf au;have ai:(r.st S o.dst).g=S.g:=by unfold dZ.st;cases o.dst<;>rfl
 refine⟨⟨λi x hx=>?_,?_,?_⟩,?_⟩
 ·have hx:(r.st S o.dst).l.get i=some x:=hx
  show x.lt (S.k+r.xs.length)=true
  have base: ∀x,(r.l S.l).get i=some x->x.lt (S.k+r.xs.length)=true:=λx hx=>by
   unfold dZ.l at hx
   split at hx
   ·exact iq (zY8 _ _) (af.l i x hx)
   ·rw[bn.get_map]at hx
    cases aB:S.l.get i with
    |none=>rw[aB]at hx;cases hx
    |some y=>
     rw[aB]at hx;cases hx;exact xF _ (iq (zY8 _ _) (af.l i y aB))
  unfold dZ.st at hx
  cases hd:o.dst with
  |none=>rw[hd]at hx;exact base x hx|some d=>
   rw[hd]at hx;simp only[ax.put,bn.lu]at hx
   split at hx
   ·cases hx;exact az
   ·exact base x hx
 ·have:((r.st S o.dst).fZ S.k r.xs).h=r.h:=by unfold dZ.st ax.fZ;cases o.dst<;>rfl
  rw[this];exact a8
 ·show gD (S.k+r.xs.length) (Cf S.k r.xs (r.st S o.dst).g)=true
  rw[ai];exact cw.g
 ·show ∀c∈Cf S.k r.xs (r.st S o.dst).g,_
  rw[ai];exact a2
theorem FQ{k:Nat}: ∀{a b:List ag},ag.c6 k a=true->ag.c6 k b=true->ag.c6 k (a++b)=true
 |[],_,_,h=>h|x::a,b,h,h'=>by
  simp only[ag.c6,zZr]at h;simp only[zVl,ag.c6,h.1,FQ h.2 h',zVg]
theorem Qi{k:Nat}{x:ag}(hx:x.lt k=true): ∀{l:List ag} {i:Nat},ag.c6 k l=true->ag.c6 k (l.set i x)=true
 |[],_,h=>h|y::l,0,h=>by simp only[ag.c6,zZr,zYy]at h⊢;exact⟨hx,h.2⟩|y::l,i+1,h=>by simp only[ag.c6,zZr,zYy]at h⊢;exact⟨h.1,Qi hx h.2⟩
theorem Kq{k:Nat}{o:b1}(av:o.lt k=true): ∀{l:List (Nat × b1)} {i:Nat},fT k l=true->fT k (lL l i o)=true
 |[],_,_=>by simp only[lL,fT,av,zVg]|(j,x)::l,i,h=>by
  simp only[fT,zZr]at h;simp only[lL]
  split
  ·simp only[fT,zZr];exact⟨av,h.2⟩
  ·simp only[fT,zZr];exact⟨h.1,Kq av h.2⟩
theorem Cl{k id:Nat}{o:b1}: ∀{l:List (Nat × b1)},fT k l=true->dG l id=some o->o.lt k=true
 |[],_,h=>by cases h
 |(j,x)::l,au,h=>by
  simp only[fT,zZr]at au;simp only[dG]at h
  split at h
  ·cases h;exact au.1
  ·exact Cl au.2 h
theorem Qj{e:Env}{x:ag}: ∀{l:List ag} {i:Nat},ag.cc G e (l.set i x)=(ag.cc G e l).set i (x.den G e)
 |[],_=>rfl|y::l,0=>rfl|y::l,i+1=>by simp only[zYy,ag.cc,Qj (l:=l)]
theorem sO(id:Nat){k:Nat}: ∀{h:List (Nat × b1)},fT k h=true->fT k (j2 id h)=true
 |[],h=>h|(j,.dQ t l)::r,h=>by
  simp only[fT,zZr]at h;unfold j2
  split
  ·exact sO id h.2
  ·simp only[fT,zZr]
   exact⟨xG id h.1,sO id h.2⟩
 |(j,.rw t c x)::r,h=>by
  simp only[fT,zZr]at h;unfold j2
  split
  ·exact sO id h.2
  ·simp only[fT,zZr]
   exact⟨h.1,sO id h.2⟩
 |(j,.it q x p)::r,h=>by
  simp only[fT,zZr]at h;unfold j2
  split
  ·exact sO id h.2
  ·simp only[fT,zZr]
   exact⟨h.1,sO id h.2⟩
theorem zj4{id off k m:Nat}{C:ax}{e:Env}(af:C.cU)(hf:C.cV e):(Ch B id off k m C).cU/\(Ch B id off k m C).cV e/\(Ch B id off k m C).k=C.k/\b5 (C.den G N B e) ((Ch B id off k m C).den G N B e):=by
 unfold Ch
 split
 ·rename_i t l iN c x ai hm
  split
  ·rename_i hc
   simp only[zZr,Bool.not_eq_true']at hc;obtain⟨aO,⟨bz,bd⟩,dV⟩:=hc;refine⟨⟨λi y aA=>?_,Kq (o:=.dQ t _) (Qi (x:=.aq k) rfl (xG _ (xG _ (Cl (o:=.dQ t l) af.h ai)))) ?_,af.g⟩,hf,rfl,?_⟩
   ·simp only[bn.get_map]at aA
    cases aB:C.l.get i with
    |none=>rw[aB]at aA;cases aA
    |some z=>
     rw[aB]at aA;simp only[zXh,zYt]at aA;subst aA;exact xF _ (xF _ (af.l i z aB))
   ·have aa:=Cl (o:=.rw iN c x) af.h hm
    have ae:=sO k (sO m af.h);simp only[fT,zZr];exact⟨aa,ae⟩
   ·refine b5.zju id off m k iN (dE c) (t:=t) (cs:=ag.cc G e l) (es:=zVn (dr c) (x.aL e (.li c))) (by simp only[ax.den,fx,ai,zXh,b1.den]) (by simp only[ax.den,fx,hm,zXh,b1.den]) ?_ (zZq bz) (fz bd) (Nat.ne_of_beq_eq_false dV) ?_
    ·rw[gh,zYo]
     unfold Kn at aO
     split at aO
     ·rename_i au
      rw[au];have:=zWi aO;subst this;rfl
     ·cases aO
    ·simp only[ax.den,Cb,xr,di,b1.den,uh,Qj,zF,ag.den]
  ·exact⟨af,hf,rfl,b5.refl _⟩
 ·exact⟨af,hf,rfl,b5.refl _⟩
theorem Y4{S C:ax}{e:Env}(af:C.cU)(hf:C.cV e):(vJ B S C).cU/\(vJ B S C).cV e/\(vJ B S C).k=C.k/\b5 (C.den G N B e) ((vJ B S C).den G N B e):=by
 unfold vJ
 split
 ·exact zj4 af hf
 ·exact⟨af,hf,rfl,b5.refl _⟩
theorem b5.xA{s s':aS}(d m k iN n:Nat){es:List (List a7)}(hm:aF s.heap m=some (.row false iN n es))(hc:s.dn[d]? =some (.aq m))(af:s.base<=k)(bR:k<s.next)
 (h:(aS.put ⟨ff k (ff m s.dn),(k,.row false iN n es)::eD k (eD m s.heap),s.next,s.base⟩ (some d) (.aq k):aS)=s'):b5 s s':=by
 subst h;intro E G a w ⟨β,ro,ah⟩;have Px:=ah.heap.dB m _ hm
 have gS:=ah.Yk (w':=w) m k af bR hm (.row false iN n es) (β m) rfl rfl rfl (zZv _) (λ_ _ _=>rfl) (λ_ af=>.inl af) rfl (by
  cases Px with
  |row _ _ _ xs aa ae aw=>exact .row iN n es xs (by rw[fl];exact aa) ae aw)
 have az:=ah.slot d _ hc
 have Y5:=gS.put (some d) (.aq k) (a.tmps.getD d undef) (by
  generalize a.tmps.getD d undef=aT at az⊢
  cases az with
  |aq _ _ _ ar=>
   refine .aq _ _ bR λz br b0 e2 _=>?_;rw[ar _ _ _ _ hm]
   exact(fl _ _ _).symm)
 have ba:a.put (some d) (a.tmps.getD d undef)=a:=by
  have hd:d<a.tmps.size:=by
   rw[ah.size];exact(List.getElem?_eq_some_iff.1 hc).1
  have:a.tmps.setIfInBounds d (a.tmps.getD d undef)=a.tmps:=by
   apply Array.ext
   ·simp
   ·intro i aa ae
    rw[Array.getElem_setIfInBounds]
    split
    ·rename_i hi
     subst hi;simp[Array.getD,hd]
    ·rfl
  show({a with tmps:=a.tmps.setIfInBounds d (a.tmps.getD d undef)}:Act)=a
  rw[this]
 rw[ba]at Y5;exact⟨_,ro,Y5⟩
theorem zj5{d k m:Nat}{C:ax}{e:Env}(hd:d<N)(af:C.cU)(hf:C.cV e):(xA B d k m C).cU/\(xA B d k m C).cV e/\(xA B d k m C).k=C.k/\b5 (C.den G N B e) ((xA B d k m C).den G N B e):=by
 unfold Go.aH.xA
 split
 ·rename_i iN c x hm
  split
  ·rename_i hc
   simp only[zZr]at hc;obtain⟨aO,bz,bd⟩:=hc;refine⟨lR ⟨λi y aA=>?_,?_,af.g⟩ rfl,lS hf,lT,?_⟩
   ·simp only[bn.get_map]at aA
    cases aB:C.l.get i with
    |none=>rw[aB]at aA;cases aA
    |some z=>
     rw[aB]at aA;simp only[zXh,zYt]at aA;subst aA;exact xF _ (xF _ (af.l i z aB))
   ·have aa:=Cl (o:=.rw iN c x) af.h hm
    have ae:=sO k (sO m af.h);simp only[fT,zZr];exact⟨aa,ae⟩
   ·refine b5.xA d m k iN (dE c) (es:=zVn (dr c) (x.aL e (.li c))) (by simp only[ax.den,fx,hm,zXh,b1.den]) ?_ (zZq bz) (fz bd) ?_
    ·unfold Kn at aO
     split at aO
     ·rename_i au
      have:=zWi aO;subst this;simp only[ax.den,rn,hd,if_true,zZ0,au,ag.den]
     ·cases aO
    ·rw[gu]
     simp only[ax.den,Cb,di,b1.den,uh,ag.den]
  ·exact⟨af,hf,rfl,b5.refl _⟩
 ·exact⟨af,hf,rfl,b5.refl _⟩
theorem Y6{S C:ax}{dst:Option Nat}{e:Env}(af:C.cU)(hf:C.cV e):(vK B N S C dst).cU/\(vK B N S C dst).cV e/\(vK B N S C dst).k=C.k/\b5 (C.den G N B e) ((vK B N S C dst).den G N B e):=by
 unfold vK
 split
 ·split
  ·split
   ·split
    ·rename_i hd
     exact zj5 (fz hd) af hf
    ·exact⟨af,hf,rfl,b5.refl _⟩
   ·exact⟨af,hf,rfl,b5.refl _⟩
  ·exact⟨af,hf,rfl,b5.refl _⟩
 ·exact⟨af,hf,rfl,b5.refl _⟩
theorem Qk{o:Oper}{S:ax}{e:Env}{f:Nat}{aI:List ag}(h:Ci P N S o=some (f,aI))(hf:S.cV e)(af:S.cU):
 ∃p q xs,ag.cc G e aI=p++xs.toList.map (aR G (S.den G N B e))++q/\rO P G o (S.den G N B e) f p q xs/\ag.c6 S.k aI=true:=by
 have Cm: ∀l:List Operand,ag.c6 S.k (l.map (S.bj N))=true:=λl=>by
  induction l with
  |nil=>rfl|cons y r bb=>simp only[zXq,ag.c6,JE af y,bb,zVg]
 unfold Ci at h
 split at h
 ·rename_i c Fv
  obtain⟨callee,args,ts⟩:=c
  split at h
  ·rename_i x hx
   simp only at hx;subst hx
   split at h
   ·rename_i Mx p jA zB
    cases h;refine⟨ag.cc G e p,ag.cc G e jA,args,?_,.value Fv (by rw[b3 hf,zB];rfl),?_⟩
    ·rw[gh,gh,gh,zVr,zVr,zWq]
     congr 2
     exact zW9 λy _=>(b3 hf y).symm
    ·have jH:=JE (N:=N) af x
     rw[zB]at jH;simp only[ag.lt,zZr]at jH;exact FQ (FQ jH.1 (Cm _)) jH.2
   ·cases h
  ·rename_i x name hx
   simp only at hx;subst hx
   split at h
   ·rename_i t a rs l zB
    split at h
    ·rename_i g v hm az hZ
     cases h;refine⟨[v.den G e],[],args,?_,.invoke Fv hm λE a w β ro ah=>zje hf zB az (of_decide_eq_true hZ) ah,?_⟩
     ·simp only[gh,zVr,zWq,zXq,List.map_nil]
      congr 2
      exact zW9 λy _=>(b3 hf y).symm
     ·have jH:=JE (N:=N) af x
      rw[zB]at jH;exact FQ (FQ (by simp only[ag.c6,zjg jH az,zVg]) (Cm _)) rfl
    ·cases h
   ·cases h
  ·cases h
 ·cases h
theorem Ql(cO:gK P G M inl){ops:Array Oper}{o:Oper}{r:List Oper}{S:ax}{k:ax->aG}{e:Env}{Q:Exit->aS->Prop}(af:S.cU)(hf:S.cV e)(hw:fh ops (S.den G N B e) o=some true)(ao:(exec P N B T inl o S k).safe M e)
 (an: ∀bV aD,bV.cU->bV.cV aD->cy S.k e aD->S.k<=bV.k->(k bV).safe M aD->run M (exec P N B T inl o S k) e=run M (k bV) aD->c9 P G ops Q r (bV.den G N B aD)):c9 P G ops Q (o::r) (S.den G N B e):=by
 have kN:=ao;unfold exec at kN
 split at kN
 ·rename_i q az
  split at kN
  ·rename_i hc
   split at kN
   ·rename_i t j FR
    have dt:exec P N B T inl o S k=k (S.put o.dst (.bE t j)):=by unfold exec;rw[az];simp only[hc,FR]
    simp only[zZr]at hc;obtain⟨bA,ec,mI⟩:=zj0 (M:=M) (G:=G) FR hf hc.1;have ck:cy S.k e (ed M e S.k q.xs):=mv (zZv _);have e1:=zD (G:=G) (B:=B) (M:=M) az (ed M e S.k q.xs) (kL ck af.g hf) (lO hc.1) (by rw[mI];intro n hn;cases hn)
    rw[nu ck af,<-bA]at e1;have qv:(S.den G N B e).put o.dst ((ag.bE t j).den G e)=(S.put o.dst (.bE t j)).den G N B e:=by rw[gu]
    refine c9.step hw (qv ▸ e1.step) ?_;exact an _ e (lR af ec) (lS hf) (cy.refl _ _) (by rw[lT];exact zZv _) kN (by rw[dt])
   rename_i FR
   split at kN
   ·rename_i v wE
    have dt:exec P N B T inl o S k=k (S.put o.dst v):=by unfold exec;rw[az];simp only[hc,FR,wE]
    simp only[zZr]at hc;obtain⟨bA,ec,mI⟩:=zj2 (M:=M) (G:=G) (e:=e) wE hc.1;have ck:cy S.k e (ed M e S.k q.xs):=mv (zZv _);have e1:=zD (G:=G) (B:=B) (M:=M) az (ed M e S.k q.xs) (kL ck af.g hf) (lO hc.1) (by rw[mI];intro n hn;cases hn)
    rw[nu ck af,<-bA]at e1;have qv:(S.den G N B e).put o.dst (v.den G e)=(S.put o.dst v).den G N B e:=by rw[gu]
    refine c9.step hw (qv ▸ e1.step) ?_;exact an _ e (lR af ec) (lS hf) (cy.refl _ _) (by rw[lT];exact zZv _) kN (by rw[dt])
   rename_i wE;have dt:exec P N B T inl o S k=emit S.k q.xs q.ns (k ((S.fZ S.k q.xs).put o.dst q.v)):=by unfold exec;rw[az];simp only[hc,FR,wE]
   simp only[zZr]at hc;obtain⟨ib,hq⟩:=pF kN;obtain⟨cw,a2,a3⟩:=vM (M:=M) (G:=G) (N:=N) (B:=B) af hf hc.1;have ck:cy S.k e (ed M e S.k q.xs):=mv (zZv _);have e1:=zD (G:=G) (B:=B) (M:=M) az (ed M e S.k q.xs) (kL ck af.g hf) (lO hc.1) ib;rw[nu ck af]at e1;have qv:(S.den G N B e).put o.dst (q.v.den G (ed M e S.k q.xs))=((S.fZ S.k q.xs).put o.dst q.v).den G N B (ed M e S.k q.xs):=by rw[gu,a3]
   refine c9.step hw (qv ▸ e1.step) ?_;exact an _ _ (lR cw hc.2) (lS a2) ck (by rw[lT];exact zY8 _ _) hq (by rw[dt,oU])
  ·exact kN.elim
 ·rename_i az
  split at kN
  ·rename_i q aB
   split at kN
   ·rename_i hc
    have dt:exec P N B T inl o S k=emit S.k q.xs q.ns (k ((q.st S o.dst).fZ S.k q.xs)):=by unfold exec;rw[az,aB];simp only[hc]
    simp only[zZr]at hc;obtain⟨ib,hq⟩:=pF kN;have ck:cy S.k e (ed M e S.k q.xs):=mv (zZv _);have e1:=YW (G:=G) (M:=M) aB (ed M e S.k q.xs) (kL ck af.g hf) (lO hc.1) ib;rw[nu ck af]at e1;obtain⟨bA,ec⟩:=Y3 (M:=M) (o:=o) af hf hc.1 hc.2.1 hc.2.2;refine c9.step hw e1 ?_;have uO:S.k<=((q.st S o.dst).fZ S.k q.xs).k:=zY8 _ _;exact an ((q.st S o.dst).fZ S.k q.xs) _ bA ec ck uO hq (by rw[dt,oU])
   ·exact kN.elim
  ·rename_i aB
   split at kN
   ·rename_i q tN
    split at kN
    ·rename_i hc
     have dt:exec P N B T inl o S k=emit S.k q.xs [] (.it q.g (k (q.st S o.dst)) (k (q.Cg S o.dst))):=by unfold exec;rw[az,aB,tN];simp only[hc]
     simp only[um.ok,zZr]at hc;obtain⟨_,hq⟩:=pF kN;have ck:cy S.k e (ed M e S.k q.xs):=mv (zZv _);obtain⟨cw,a2,a3⟩:=vM (M:=M) (G:=G) (N:=N) (B:=B) af hf hc.1.1;obtain⟨bA,ec⟩:=zjW (P:=P) (G:=G) (B:=B) tN (kL ck af.g hf) (lO hc.1.1);rw[nu ck af]at bA ec;have uO: ∀b,zZt S.k (S.k+b)=true:=λb=>Nat.ble_eq_true_of_le (zY8 _ _);have cE:run M (exec P N B T inl o S k) e=run M (.it q.g (k (q.st S o.dst)) (k (q.Cg S o.dst))) (ed M e S.k q.xs):=by rw[dt,oU]
     have fb: ∀b,q.g.aL (ed M e S.k q.xs) .bool=b->∀c∈(cv.fb q.g b::(S.fZ S.k q.xs).g),c.ok (ed M e S.k q.xs):=λb ai c hm=>by
      rcases zZf.1 hm with rfl|hm
      ·exact ai
      ·exact a2 c hm
     cases ai:q.g.aL (ed M e S.k q.xs) .bool with
     |true=>
      refine c9.step hw (bA ai) ?_;have rv:(q.st S o.dst).cU:=YN (lR (S:={S.fZ S.k q.xs with h:=q.h,g:=.fb q.g true::(S.fZ S.k q.xs).g}) ⟨cw.l,hc.2.1,by simp only[gD,cv.lt,zZr];exact⟨hc.1.2,cw.g⟩⟩ hc.2.2.1)
      have fJ:(q.st S o.dst).cV (ed M e S.k q.xs):=YO (lS (S:={S.fZ S.k q.xs with h:=q.h,g:=.fb q.g true::(S.fZ S.k q.xs).g}) (fb true ai))
      have hd:(ax.put {S with h:=q.h} o.dst q.v).den G N B (ed M e S.k q.xs)=(q.st S o.dst).den G N B (ed M e S.k q.xs):=by cases o.dst<;>rfl
      rw[hd];exact an _ _ rv fJ ck (by show S.k<=(ax.put _ _ _).k;rw[lT];exact zY8 _ _) (hq.1 ai) (by rw[cE,xE ai])
     |false=>
      refine c9.step hw (ec ai) ?_;have rv:(q.Cg S o.dst).cU:=YN (lR (S:={S.fZ S.k q.xs with g:=.fb q.g false::(S.fZ S.k q.xs).g}) ⟨cw.l,cw.h,by simp only[gD,cv.lt,zZr];exact⟨hc.1.2,cw.g⟩⟩ hc.2.2.2)
      have fJ:(q.Cg S o.dst).cV (ed M e S.k q.xs):=YO (lS (S:={S.fZ S.k q.xs with g:=.fb q.g false::(S.fZ S.k q.xs).g}) (fb false ai))
      have hd:(S.put o.dst q.bC).den G N B (ed M e S.k q.xs)=(q.Cg S o.dst).den G N B (ed M e S.k q.xs):=by cases o.dst<;>rfl
      rw[hd];exact an _ _ rv fJ ck (by show S.k<=(ax.put _ _ _).k;rw[lT];exact zY8 _ _) (hq.2 ai) (by rw[cE,xE ai])
    ·exact kN.elim
   rename_i tN
   split at kN
   ·rename_i f aI uR
    split at kN
    ·rename_i iw
     have dt:exec P N B T inl o S k=nw N S ((inl f aI S).fe (uo S o.dst) none) λC=>k (vK B N S (vJ B S C) o.dst):=by unfold exec;rw[az,aB,tN,uR];simp only[iw]
     obtain⟨t1,_,t3⟩:=Kh (G:=G) (B:=B) af hf kN;obtain⟨g1,g2,g3⟩:=kK (inl f aI S) none t1;obtain⟨p,jA,args,qv,pT,bR⟩:=Qk (G:=G) (B:=B) uR hf af;have hP:=cO f _ S e af bR hf g1;rw[qv]at hP
     refine c9.zj3 (A:=λt=>∃C aD,run M (inl f aI S) e=some (.cp,C,aD)/\C.cU/\C.cV aD/\cy S.k e aD/\S.k<=C.k/\zK S C=true/\t=(S.back o.dst C).den G N B aD) hw
      (Yd pT iw hP λr cu ⟨C,aD,aO,bz,bd,dV,eK,ij,gg⟩=>?_) λt ⟨C,aD,aO,dV,eK,ij,gg,bp,aJ⟩=>?_
     ·have ai:=(g3 C aD aO).1
      have bp:zK S C=true:=by
       unfold uo at ai
       split at ai
       ·assumption
       ·exact ai.elim
      have e7:=bp;simp only[zK,zZr]at e7;refine⟨C.n,zZq e7.2.1,?_,?_,?_,C,aD,aO,dV,eK,ij,gg,bp,?_⟩
      ·rw[bz];exact FP e7.1.1
      ·rw[bd];exact zL e7.1.2
      ·rw[bd];exact Y2 e7.2.2
      ·rw[bz,bd,ax.back,gu]
       have:=nu (G:=G) (N:=N) (B:=B) ij af;have xa:lb G aD S.l 0 N=lb G e S.l 0 N:=congrArg aS.dn this;simp only[ax.den,xa]
     ·subst aJ
      have ai:=(g3 C aD aO)
      have cE:run M ((inl f aI S).fe (uo S o.dst) none) e=some (.cp,S.back o.dst C,aD):=by
       rw[g2,aO];simp only[ki,uo,bp];rfl
      have rv:(S.back o.dst C).cU:=by
       unfold ax.back;refine lR ⟨λi x hx=>iq gg (af.l i x hx),dV.h,dV.g⟩ ?_;show(C.at 0).lt C.k=true;unfold ax.at
       cases iD:C.l.get 0 with
       |none=>rfl|some y=>exact dV.l 0 y iD
      obtain⟨dC,bc,s1,s2,jc,jI,jv,kO,pH⟩:=t3 _ _ cE rv (lS eK) ij (by unfold ax.back;rw[lT];exact gg)
      obtain⟨ib,hq,nM,Kr⟩:=Y4 (G:=G) (N:=N) (B:=B) (S:=S) s2 jc;obtain⟨ji,mg,zM,sP⟩:=Y6 (G:=G) (N:=N) (B:=B) (S:=S) (dst:=o.dst) ib hq;exact c9.le (b5.trans s1 (b5.trans Kr sP)) (an _ bc ji mg jI (by rw[zM,nM];exact jv) kO (by rw[dt,pH]))
    ·exact kN.elim
   ·exact kN.elim
def Y7(G:aV)(N B:Nat)(ops:Array Oper)(o:Oper)(S:ax)(e:Env):Kk->Prop
 | .yes=>fh ops (S.den G N B e) o=some true| .no=>fh ops (S.den G N B e) o=some false| .on gs=>(ho e gs=true->fh ops (S.den G N B e) o=some true)/\(ho e gs=false->fh ops (S.den G N B e) o=some false)| .bad=>True
def uq(b:Bool):aC->Option Bool
 | .ad (.v (.bool c))=>some (c==b)| .tuple _=>some false|_=>none
def Ks(G:aV)(b:Bool)(e:Env)(v:ag):Kk->Prop
 | .yes=>uq b (v.den G e)=some true| .no=>uq b (v.den G e)=some false| .on gs=>(ho e gs=true->uq b (v.den G e)=some true)/\(ho e gs=false->uq b (v.den G e)=some false)| .bad=>True
theorem Y8{a b:Bool}(h:a=b):(a==b)=true:=by cases a<;>cases b<;>first|rfl|cases h
theorem Y9{a b:Bool}(h: ¬a=b):(a==b)=false:=by cases a<;>cases b<;>first|rfl|exact absurd rfl h
theorem oc{l:List cv}{b:Bool}{e:Env}(hf: ∀c∈l,c.ok e)(g:ag):Ks G b e g (match g.rt,n9 g l with
 |some .bool,some c=>match decide (c=b)with
  |true=>.yes|false=>.no
 |some .bool,none=>.on [(g,b)]
 |_,_=>.bad):=by
 split
 ·rename_i c aa ae
  have an:=ua ae hf;have hd:=hH (G:=G) (e:=e) aa;rw[an]at hd
  cases iw:decide (c=b)with
  |true=>show uq b (g.den G e)=some true;rw[hd];exact congrArg some (Y8 (of_decide_eq_true iw))
  |false=>show uq b (g.den G e)=some false;rw[hd];exact congrArg some (Y9 (of_decide_eq_false iw))
 ·rename_i aa ae
  have hd:=hH (G:=G) (e:=e) aa;simp only[Ks,ho,zW4];rw[hd];exact⟨λh=>congrArg some h,λh=>congrArg some h⟩
 ·trivial
theorem Cn{h:ag}{c:Bool}{v:ag}{e:Env}(hc:h.aL e .bool=c):(ag.hg h c v).den G e=v.den G e:=by
 simp only[ag.den,hc];cases c<;>rfl
theorem Za{h:ag}{c:Bool}{v:ag}{e:Env}(hc:h.aL e .bool= !c):(ag.hg h c v).den G e= .tuple []:=by
 simp only[ag.den,hc];cases c<;>rfl
theorem Zb{l:List cv}{b:Bool}{e:Env}(hf: ∀c∈l,c.ok e): ∀v:ag,Ks G b e v (zJ l b v)
 | .hg h c v=>by
  have bb:=Zb (b:=b) hf v
  have Qm:h.aL e .bool≠c->uq b ((ag.hg h c v).den G e)=some false:=λhn=>by
   rw[Za (by cases a8:h.aL e .bool<;>cases c<;>first|rfl|exact absurd a8 hn)]
   rfl
  simp only[zJ]
  split
  ·cases ai:zJ l b v with
   |yes=>
    rw[ai]at bb;refine⟨λba=>?_,λba=>?_⟩
    ·simp only[ho,zW4,beq_iff_eq]at ba
     rw[Cn ba];exact bb
    ·simp only[ho,zW4,beq_eq_false_iff_ne]at ba
     exact Qm ba
   |no=>
    rw[ai]at bb;show uq b _=some false
    by_cases a8:h.aL e .bool=c
    ·rw[Cn a8];exact bb
    ·exact Qm a8
   |on gs=>
    rw[ai]at bb;refine⟨λba=>?_,λba=>?_⟩
    ·simp only[ho,zZr,beq_iff_eq]at ba
     rw[Cn ba.1];exact bb.1 ba.2
    ·by_cases a8:h.aL e .bool=c
     ·rw[Cn a8]
      refine bb.2 ?_;simp only[ho,a8,beq_self_eq_true,zVf]at ba;exact ba
     ·exact Qm a8
   |bad=>trivial
  ·trivial
 | .cs x=>by
  unfold zJ
  split
  ·rename_i c heq
   cases heq
   cases iw:decide (c=b)with
   |true=>exact congrArg some (Y8 (of_decide_eq_true iw))|false=>exact congrArg some (Y9 (of_decide_eq_false iw))
  ·rename_i heq;cases heq
  ·rename_i heq;cases heq
  ·exact oc hf _
 | .tp l=>rfl| .bE r i=>oc hf (.bE r i)| .fd c i k r=>oc hf (.fd c i k r)| .ip c i k=>oc hf (.ip c i k)| .cH l=>oc hf (.cH l)| .fi i o=>oc hf (.fi i o)| .iM i x o=>oc hf (.iM i x o)| .aq i=>oc hf (.aq i)| .fn f a b=>oc hf (.fn f a b)| .jb i=>oc hf (.jb i)| .mo g o=>oc hf (.mo g o)| .iY i o x n=>oc hf (.iY i o x n)| .cM i n=>oc hf (.cM i n)| .gC g i o=>oc hf (.gC g i o)| .eE t a rs l=>oc hf (.eE t a rs l)| .top=>oc hf .top
theorem Qn{ops:Array Oper}{o:Oper}{S:ax}{e:Env}(hf:S.cV e):Y7 G N B ops o S e (guardOf N ops S o):=by
 unfold guardOf
 cases ai:o.guard with
 |none=>simp only[Y7,fh,ai]|some Oc=>
  obtain⟨j,b⟩:=Oc;simp only
  cases hd:ov ops j with
  |none=>trivial|some d=>
   simp only
   cases m5:zZs d N with
   |false=>trivial|true=>
    have bR:d<N:=fz m5;have ah:=ON (G:=G) hf (x:=S.at d);have hc:=Zb (G:=G) (b:=b) hf ((S.at d).res S.g);rw[Ks.eq_def]at hc
    have key: ∀q,uq b (((S.at d).res S.g).den G e)=some q->fh ops (S.den G N B e) o=some q:=λq h=>by
     rw[ah]at h;simp only[fh,ai,hd,zr,if_pos bR];generalize (S.at d).den G e=v at h;unfold uq at h
     split at h
     ·rename_i c
      cases h
      cases b<;>cases c<;>rfl
     ·cases h;rfl
     ·cases h
    simp only;generalize zJ S.g b ((S.at d).res S.g)=hg at hc
    cases hg with
    |yes=>exact key _ hc|no=>exact key _ hc|on gs=>exact⟨λh=>key _ (hc.1 h),λh=>key _ (hc.2 h)⟩
    |bad=>trivial
end
end Go.aH
namespace Go.aH
open Go
section
variable {P:Program} {G:aV} {N B:Nat} {M:List bs} {T:List (Nat × bZ)} {inl:Nat->List ag->ax->aG}
theorem FT{S:ax}{g:ag}{b:Bool}(af:S.cU)(ai:g.lt S.k=true):({S with g:=.fb g b::S.g}:ax).cU:=
 ⟨af.l,af.h,by
  show(cv.lt S.k (.fb g b)&&gD S.k S.g)=true;rw[af.g,zW4]
  exact ai⟩
theorem FU{S:ax}{g:ag}{b:Bool}{e:Env}(hf:S.cV e)(ai:g.aL e .bool=b):({S with g:=.fb g b::S.g}:ax).cV e:=λc hc=>by
 rcases zZf.1 hc with rfl|hc
 ·exact ai
 ·exact hf c hc
theorem Qo{a b:Bool}(h: ¬a=b):a= !b:=by cases a<;>cases b<;>first|rfl|exact absurd rfl h
theorem Zc{g:ag}{b:Bool}{x y:aG}{e:Env}(h:g.aL e .bool=b):run M (Kp g b x y) e=run M x e:=by
 cases b<;>exact xE h
theorem zj6{g:ag}{b:Bool}{x y:aG}{e:Env}(h:g.aL e .bool= !b):run M (Kp g b x y) e=run M y e:=by
 cases b<;>exact xE h
theorem zj7{g:ag}{b:Bool}{x y:aG}{e:Env}(ao:(Kp g b x y).safe M e)(h:g.aL e .bool=b):x.safe M e:=by
 cases b with
 |true=>exact ao.1 h|false=>exact ao.2 h
theorem Co{S:ax}: ∀{gs:List (ag × Bool)},S.cU->oV S.k gs=true->({S with g:=ju gs S.g}:ax).cU
 |[],af,_=>af|(g,b)::r,af,h=>by
  simp only[oV,zZr]at h;exact FT (S:={S with g:=ju r S.g}) (b:=b) (Co af h.2) h.1
theorem Cp{S:ax}{e:Env}: ∀{gs:List (ag × Bool)},S.cV e->ho e gs=true->({S with g:=ju gs S.g}:ax).cV e
 |[],hf,_=>hf|(g,b)::r,hf,h=>by
  simp only[ho,zZr,beq_iff_eq]at h;exact FU (S:={S with g:=ju r S.g}) (b:=b) (Cp hf h.2) h.1
theorem Kt{k:Nat}{v:ag}: ∀{gs:List (ag × Bool)},oV k gs=true->v.lt k=true->(mU gs v).lt k=true
 |[],_,h=>h|(g,b)::r,ai,h=>by
  simp only[oV,zZr]at ai;simp only[mU,ag.lt,ai.1,Kt ai.2 h,zVg]
theorem Ku{k m:Nat}(h:k<=m): ∀{gs:List (ag × Bool)},oV k gs=true->oV m gs=true
 |[],_=>rfl|(g,b)::r,ai=>by
  simp only[oV,zZr]at ai⊢;exact⟨iq h ai.1,Ku h ai.2⟩
theorem Kv{k:Nat}{e aD:Env}(h:cy k e aD): ∀{gs:List (ag × Bool)},oV k gs=true->ho aD gs=ho e gs
 |[],_=>rfl|(g,b)::r,ai=>by
  simp only[oV,zZr]at ai;simp only[ho,fY h ai.1,Kv h ai.2]
theorem Kw{v:ag}{e:Env}: ∀{gs:List (ag × Bool)},ho e gs=true->(mU gs v).den G e=v.den G e
 |[],_=>rfl|(g,b)::r,h=>by
  simp only[ho,zZr,beq_iff_eq]at h;exact(Cn h.1).trans (Kw h.2)
theorem Kx{v:ag}{e:Env}: ∀{gs:List (ag × Bool)},ho e gs=false->(mU gs v).den G e= .tuple []
 |[],h=>by cases h
 |(g,b)::r,h=>by
  by_cases ai:g.aL e .bool=b
  ·simp only[ho,ai,beq_self_eq_true,zVf]at h
   exact(Cn ai).trans (Kx h)
  ·exact Za (Qo ai)
theorem Ky{n:hj}{e:Env}: ∀{gs:List (ag × Bool)},(uk gs n).ok M e->ho e gs=true->n.ok M e
 |[],h,_=>h|(g,b)::r,h,ba=>by
  simp only[ho,zZr,beq_iff_eq]at ba;exact Ky (gs:=r) (h ba.1) ba.2
theorem Qp{x:aG}{y:List cv->aG}{e:Env}: ∀{gs:List (ag × Bool)} {l:List cv},ho e gs=true->run M (xD y gs x l) e=run M x e/\((xD y gs x l).safe M e->x.safe M e)
 |[],_,_=>⟨rfl,λh=>h⟩
 |(g,b)::r,l,h=>by
  simp only[ho,zZr,beq_iff_eq]at h;obtain⟨aa,ae⟩:=Qp (x:=x) (y:=y) (l:=.fb g b::l) h.2;exact⟨(Zc h.1).trans aa,λao=>ae (zj7 ao h.1)⟩
theorem Qq{x:aG}{y:List cv->aG}{e:Env}{k:Nat}: ∀{gs:List (ag × Bool)} {l:List cv},ho e gs=false->oV k gs=true->gD k l=true->(∀c∈l,c.ok e)->∃dF,run M (xD y gs x l) e=run M (y dF) e/\gD k dF=true/\∀c∈dF,c.ok e
 |[],_,h,_,_,_=>by cases h
 |(g,b)::r,l,h,ai,au,hc=>by
  simp only[oV,zZr]at ai
  have kW: ∀b,gD k (.fb g b::l)=true:=λb=>by
   show(cv.lt k (.fb g b)&&gD k l)=true;rw[au,zW4];exact ai.1
  by_cases gP:g.aL e .bool=b
  ·simp only[ho,gP,beq_self_eq_true,zVf]at h
   obtain⟨dF,aa,ae,aw⟩:=Qq (x:=x) (y:=y) (k:=k) (gs:=r) (l:=.fb g b::l) h ai.2 (kW b) λc hm=>by
    rcases zZf.1 hm with rfl|hm
    ·exact gP
    ·exact hc c hm
   exact⟨dF,(Zc gP).trans aa,ae,aw⟩
  ·refine⟨.fb g (!b)::l,zj6 (Qo gP),kW _,λc hm=>?_⟩
   rcases zZf.1 hm with rfl|hm
   ·exact Qo gP
   ·exact hc c hm
theorem Zd{S:ax}{dst:Option Nat}{l:List cv}{e:Env}(af:S.cU)(au:gD S.k l=true)(hc: ∀c∈l,c.ok e):
 ∃aM:ax,vL S dst l= .db .cp aM/\aM.cU/\aM.cV e/\S.k<=aM.k/\aM.den G N B e=(S.den G N B e).put dst (.tuple []):=
 ⟨_,rfl,lR ⟨af.l,af.h,au⟩ rfl,lS hc,by rw[lT];exact zZv _,by rw[gu];rfl⟩
mutual
theorem Ze(id t n:Nat)(es:List (List a7)): ∀a:aC,Sub (jg [(id,.row true t n es)] a) (eV id a):=λa=>by
 cases a with
 |agg l=>exact(Cq id t n es l).agg|tuple l=>exact(Cq id t n es l).tuple|aq k=>
  by_cases h:k=id
  ·simp only[eV,h,if_true]
   exact Sub.top _
  ·simp only[eV,h,if_false,jg,aF,if_neg (λe:id=k=>h e.symm)]
   exact Sub.refl _
 |fn f p q=>
  intro w ro σ β N c hc;simp only[jg]at hc
  cases hc with
  |fn _ _ _ c d aa ae aw aN=>
   have ar:=(Cq id t n es p).at
   have aB:=(Cq id t n es q).at
   refine .fn f _ _ c d (by rw[aa,ar.1]) (by rw[ae,aB.1]) (λj y aj=>?_) λj y aj=>?_
   ·obtain⟨x,hx,ao⟩:=ar.2 j y aj
    exact ao _ _ _ _ _ _ (aw j x hx)
   ·obtain⟨x,hx,ao⟩:=aB.2 j y aj
    exact ao _ _ _ _ _ _ (aN j x hx)
 |ad x=>exact Sub.refl _|top=>exact Sub.refl _|ptr k o=>simp only[eV,jg];split<;>first|exact Sub.top _|exact Sub.refl _
 |eb k o=>simp only[eV,jg];split<;>first|exact Sub.top _|exact Sub.refl _
 |du k i o=>simp only[eV,jg];split<;>first|exact Sub.top _|exact Sub.refl _
 |ref k=>simp only[eV,jg];split<;>first|exact Sub.top _|exact Sub.refl _
theorem Cq(id t n:Nat)(es:List (List a7)): ∀l:List aC,h1 (mh [(id,.row true t n es)] l) (ff id l):=λl=>by
 match l with
 |[]=>exact .nil|x::r=>exact .cons (Ze id t n es x) (Cq id t n es r)
end
theorem Zf(σ:bK): ∀l:List aC,mh σ l=l.map (jg σ)
 |[]=>rfl|x::r=>by simp only[mh,zXq,Zf σ r]
theorem Zg{e:Env}{id t:Nat}{c:bZ}{x:ag}(hx:x.rt=some (.li c)): ∀y:ag,Sub (jg [(id,.row true t (dE c) (zVn (dr c) (x.aL e (.li c))))] (y.den G e)) ((ag.xB id x y).den G e):=λy=>by
 unfold ag.xB
 split
 ·rename_i j
  split
  ·rename_i aj
   obtain rfl:=zWi aj;simp only[ag.den,jg,aF,if_true];rw[hH hx];exact oQ.cI λ_ _ _ h=>.li _ _ _ h
  ·rename_i aj
   have b6: ¬id=j:=λh=>by rw[h,Nat.beq_refl]at aj;cases aj
   simp only[ag.den,jg,aF,if_neg b6];exact Sub.refl _
 ·rw[J0]
  exact Ze _ _ _ _ _
theorem Zh{e:Env}{id t:Nat}{c:bZ}{x:ag}(hx:x.rt=some (.li c)): ∀l:List ag,h1 (mh [(id,.row true t (dE c) (zVn (dr c) (x.aL e (.li c))))] (ag.cc G e l)) (ag.cc G e (l.map (ag.xB id x)))
 |[]=>.nil|y::r=>.cons (Zg hx y) (Zh hx r)
theorem Zi{e:Env}{id t:Nat}{c:bZ}{x:ag}(hx:x.rt=some (.li c)): ∀y:ag,Sub (jg [(id,.row true t (dE c) (zVn (dr c) (x.aL e (.li c))))] (y.den G e)) ((ag.xC id x y).den G e):=λy=>by
 unfold ag.xC
 split
 ·rename_i l
  exact(Zh hx l).agg
 ·exact Zg hx y
theorem Zj{e:Env}{id t:Nat}{c:bZ}{x:ag}(hx:x.rt=some (.li c)): ∀l:List ag,h1 (mh [(id,.row true t (dE c) (zVn (dr c) (x.aL e (.li c))))] (ag.cc G e l)) (ag.cc G e (l.map (ag.xC id x)))
 |[]=>.nil|y::r=>.cons (Zi hx y) (Zj hx r)
theorem zj8{e:Env}{id t:Nat}{c:bZ}{x:ag}(hx:x.rt=some (.li c)): ∀y:ag,Sub (jg [(id,.row true t (dE c) (zVn (dr c) (x.aL e (.li c))))] (y.den G e)) ((ag.sm id x y).den G e):=λy=>by
 unfold ag.sm
 split
 ·rename_i l
  exact(Zj hx l).tuple
 ·exact Zi hx y
theorem Zk{id:Nat}{x:ag}{k:Nat}(hx:x.lt k=true)(z:ag)(aW:z.lt k=true):(ag.xB id x z).lt k=true:=by
 unfold ag.xB
 split
 ·split
  ·exact hx
  ·rfl
 ·exact xF _ aW
theorem Zl{id:Nat}{x:ag}{k:Nat}(hx:x.lt k=true): ∀l:List ag,ag.c6 k l=true->ag.c6 k (l.map (ag.xB id x))=true
 |[],_=>rfl|z::r,h=>by
  simp only[ag.c6,zZr]at h;simp only[zXq,ag.c6,zZr];exact⟨Zk hx z h.1,Zl hx r h.2⟩
theorem Zm{id:Nat}{x:ag}{k:Nat}(hx:x.lt k=true)(z:ag)(aW:z.lt k=true):(ag.xC id x z).lt k=true:=by
 unfold ag.xC
 split
 ·rename_i l
  exact Zl hx l aW
 ·exact Zk hx z aW
theorem Zn{id:Nat}{x:ag}{k:Nat}(hx:x.lt k=true): ∀l:List ag,ag.c6 k l=true->ag.c6 k (l.map (ag.xC id x))=true
 |[],_=>rfl|z::r,h=>by
  simp only[ag.c6,zZr]at h;simp only[zXq,ag.c6,zZr];exact⟨Zm hx z h.1,Zn hx r h.2⟩
theorem zj9{S:ax}{e:Env}(id:Nat)(af:S.cU)(hf:S.cV e):(sN S id).cU/\(sN S id).cV e/\(sN S id).k=S.k/\b5 (S.den G N B e) ((sN S id).den G N B e):=by
 unfold sN
 split
 ·rename_i t c x ai
  split
  ·rename_i ah
   have zC:x.rt=some (.li c):=by
    unfold ag.YS at ah
    split at ah
    ·rename_i r Qr
     rw[Qr,jr ah]
    ·cases ah
   have hx:x.lt S.k=true:=Cl (o:=.rw t c x) af.h ai;refine⟨⟨λi y aA=>?_,sO id af.h,af.g⟩,hf,rfl,?_⟩
   ·simp only[Ko,bn.get_map]at aA
    cases aB:S.l.get i with
    |none=>rw[aB]at aA;cases aA
    |some z=>
     rw[aB]at aA;simp only[zXh,zYt]at aA;subst aA;show(ag.sm id _ z).lt S.k=true;unfold ag.sm
     split
     ·rename_i l
      exact Zn hx l (af.l i _ aB)
     ·exact Zm hx z (af.l i z aB)
   ·have bq:aF (S.den G N B e).heap id=some (.row false t (dE c) (zVn (dr c) (x.aL e (.li c)))):=by
     simp only[ax.den,fx,ai,zXh,b1.den]
    refine(b5.sm (S.den G N B e) id).trans ?_;unfold Go.aH.sm;rw[bq];refine b5.of rfl (zZv _) ?_ (λi v az=>?_) λj o av=>?_
    ·simp only[ax.den,q8,JD]
    ·simp only[ax.den,rn]at az
     split at az
     rotate_left
     ·cases az
     rename_i hi;simp only[Ko,bn.get_map,zYt]at az;subst az
     refine⟨jg [(id,.row true t (dE c) (zVn (dr c) (x.aL e (.li c))))] (match S.l.get (0+i)with
      |some x=>x.den G e
      |none=>.top),by simp only[ax.den,Zf,zYo,rn,if_pos hi,zXh]<;>rfl,?_⟩
     cases aB:S.l.get (0+i)with
     |none=>exact Sub.top _|some z=>exact zj8 zC z
    ·have av:aF (di G e (j2 id S.h)) j=some o:=av
     rw[uh,tP]at av
     split at av
     ·cases av
     rename_i b6
     cases aB:aF (di G e S.h) j with
     |none=>rw[aB]at av;cases av
     |some Zo=>
      rw[aB]at av;simp only[zXh,zYt]at av;subst av;refine⟨nn [(id,.row true t (dE c) (zVn (dr c) (x.aL e (.li c))))] Zo,?_,?_⟩
      ·rw[tR,ED]
       rw[if_neg (λh=>b6 h.symm)];show Option.map _ (aF (di G e S.h) j)=_;rw[aB];rfl
      ·cases Zo with
       |box t cs=>exact .box t (Cq _ _ _ _ cs)|row z t n es=>exact .same _|bW bU=>exact .same _
  ·exact⟨af,hf,rfl,b5.refl _⟩
 ·exact⟨af,hf,rfl,b5.refl _⟩
theorem Cr{e:Env}: ∀(aI:List ag) {S:ax},S.cU->S.cV e->(kM aI S).cU/\(kM aI S).cV e/\(kM aI S).k=S.k/\b5 (S.den G N B e) ((kM aI S).den G N B e)
 |[],S,af,hf=>⟨af,hf,rfl,b5.refl _⟩|a::r,S,af,hf=>by
  unfold kM
  split
  ·rename_i h;cases h
  ·rename_i id e5 h
   cases h;obtain⟨aa,ae,aw,aN⟩:=zj9 (G:=G) (N:=N) (B:=B) id af hf;obtain⟨g1,g2,g3,g4⟩:=Cr r aa ae;exact⟨g1,g2,g3.trans aw,aN.trans g4⟩
  ·rename_i h
   cases h;exact Cr r af hf
theorem zka{ops:Array Oper}{o:Oper}{S:ax}{aI:List ag}{e:Env}(ar:preB P N S o=some aI)(af:S.cU)(hf:S.cV e):
 (kM aI S).cU/\(kM aI S).cV e/\(kM aI S).k=S.k/\b5 (S.den G N B e) ((kM aI S).den G N B e)/\fh ops ((kM aI S).den G N B e) o=some true:=by
 have hn:o.guard=none:=by
  unfold preB at ar
  split at ar
  ·split at ar
   ·cases ar
   ·assumption
  ·split at ar
   ·cases ar
   ·assumption
  ·cases ar
 obtain⟨aa,ae,aw,aN⟩:=Cr (G:=G) (N:=N) (B:=B) aI af hf;exact⟨aa,ae,aw,aN,by unfold fh;rw[hn]⟩
theorem Cs(cO:gK P G M inl){ops:Array Oper}: ∀(l:List Oper) {S:ax} {e:Env} {Q:Exit->aS->Prop},S.cU->S.cV e->(j3 P N B T inl ops l S).safe M e->(∀ex st,lQ G N B M (j3 P N B T inl ops l S) e S.k ex st->Q ex st)->c9 P G ops Q l (S.den G N B e)
 |[],S,e,Q,af,hf,_,ez=>c9.nil (ez _ _ ⟨.cp,S,e,rfl,trivial,b5.refl _,af,hf,cy.refl _ _,zZv _⟩)|o::r,S,e,Q,af,hf,ao,ez=>by
  have ai:=Qn (G:=G) (N:=N) (B:=B) (ops:=ops) (o:=o) hf;have gr:=ao;unfold j3 at gr
  cases lg:guardOf N ops S o with
  |yes=>
   rw[lg]at ai gr;simp only at gr
   cases ar:preB P N S o with
   |some aI=>
    rw[ar]at gr;have dt:j3 P N B T inl ops (o::r) S=exec P N B T inl o (kM aI S) (j3 P N B T inl ops r):=by rw[j3,lg];simp only[ar]
    obtain⟨f1,f2,f3,f4,f5⟩:=zka (G:=G) (B:=B) (ops:=ops) ar af hf;refine c9.le f4 (Ql cO f1 f2 f5 gr λbV aD aa ae aw aN bx cB=>Cs cO r aa ae bx λex st ar=>ez ex st (ar.sub ?_ (f3 ▸ aw) (f3 ▸ aN)));rw[dt,cB]
   |none=>
    rw[ar]at gr;have dt:j3 P N B T inl ops (o::r) S=exec P N B T inl o S (j3 P N B T inl ops r):=by rw[j3,lg];simp only[ar]
    refine Ql cO af hf ai gr λbV aD aa ae aw aN bx cB=>Cs cO r aa ae bx λex st ar=>ez ex st (ar.sub ?_ aw aN);rw[dt,cB]
  |no=>
   rw[lg]at ai gr;have dt:j3 P N B T inl ops (o::r) S=j3 P N B T inl ops r (S.put o.dst (.tp [])):=by rw[j3,lg]
   refine c9.pass ai ?_;have hd:(S.den G N B e).put o.dst (.tuple [])=(S.put o.dst (.tp [])).den G N B e:=by rw[gu];rfl
   rw[hd];refine Cs cO r (lR af rfl) (lS hf) gr λex st ar=>ez ex st (ar.sub (by rw[dt]) (cy.refl _ _) (by rw[lT];exact zZv _))
  |on gs=>
   rw[lg]at ai gr;simp only at gr;obtain⟨g1,g2⟩:=ai
   split at gr
   ·rename_i l5
    split at gr
    ·rename_i q az
     split at gr
     ·rename_i hc
      have dt:j3 P N B T inl ops (o::r) S=emit S.k q.xs (q.ns.map (uk gs)) (j3 P N B T inl ops r ((S.fZ S.k q.xs).put o.dst (mU gs q.v))):=by rw[j3,lg];simp only[l5,az,hc]
      simp only[zZr]at hc;obtain⟨ib,hq⟩:=pF gr;obtain⟨cw,a2,a3⟩:=vM (M:=M) (G:=G) (N:=N) (B:=B) af hf hc.1;have ck:cy S.k e (ed M e S.k q.xs):=mv (zZv _);have kG:ho (ed M e S.k q.xs) gs=ho e gs:=Kv ck l5;have an:S.k<=S.k+q.xs.length:=zY8 _ _;have sH:(mU gs q.v).lt (S.k+q.xs.length)=true:=Kt (Ku an l5) hc.2;have Qs:((S.fZ S.k q.xs).put o.dst (mU gs q.v)).cU:=lR cw sH;have ox:=Cs cO (ops:=ops) r (Q:=Q) Qs (lS a2) hq λex st ar=>ez ex st (ar.sub (by rw[dt,oU]) ck (by rw[lT];exact an))
      rw[gu,a3]at ox
      cases gP:ho e gs with
      |true=>
       have kz:=Cp hf gP;have jj:=Co af l5;have e1:=zD (G:=G) (B:=B) (M:=M) az (ed M e S.k q.xs) (kL ck jj.g kz) (lO hc.1) λn hn=>Ky (ib (uk gs n) (List.mem_map.2 ⟨n,hn,rfl⟩)) (kG.trans gP);have Ct:({S with g:=ju gs S.g}:ax).den G N B (ed M e S.k q.xs)=S.den G N B e:=nu (S:={S with g:=ju gs S.g}) ck jj
       rw[Ct]at e1;refine c9.step (g1 gP) e1.step ?_;rw[Kw (kG.trans gP)]at ox;exact ox
      |false=>
       refine c9.pass (g2 gP) ?_;rw[Kx (kG.trans gP)]at ox;exact ox
     ·exact gr.elim
    ·rename_i az
     have dt:j3 P N B T inl ops (o::r) S=ui N S o.dst gs (xD (vL S o.dst) gs (exec P N B T inl o {S with g:=ju gs S.g} (.db .cp)) S.g) (j3 P N B T inl ops r):=by rw[j3,lg];simp only[az,l5]
     obtain⟨t1,_,t3⟩:=P7 (G:=G) (B:=B) af hf gr
     have fin: ∀(aM:ax) (aE:Env),run M (xD (vL S o.dst) gs (exec P N B T inl o {S with g:=ju gs S.g} (.db .cp)) S.g) e=some (.cp,aM,aE)->aM.cU->aM.cV aE->cy S.k e aE->S.k<=aM.k->c9 P G ops Q r (aM.den G N B aE):=λaM aE ah aa ae aw aN=>by
      obtain⟨dC,bc,s1,s2,jc,jI,jv,kO,pH⟩:=t3 aM aE ah aa ae aw aN;exact c9.le s1 (Cs cO r s2 jc kO λex st ar=>ez ex st (ar.sub (by rw[dt,pH]) jI jv))
     cases gP:ho e gs with
     |false=>
      refine c9.pass (g2 gP) ?_;obtain⟨dF,dp,dP,hT⟩:=Qq (M:=M) (x:=exec P N B T inl o {S with g:=ju gs S.g} (.db .cp)) (y:=vL S o.dst) (l:=S.g) gP l5 af.g hf
      obtain⟨aM,vG,sQ,Qt,A5,r4⟩:=Zd (G:=G) (N:=N) (B:=B) (dst:=o.dst) af dP hT;rw[<-r4];exact fin aM e (by rw[dp,vG];rfl) sQ Qt (cy.refl _ _) A5
     |true=>
      have kz:=Cp hf gP;have jj:=Co af l5;obtain⟨f1,f2⟩:=Qp (M:=M) (x:=exec P N B T inl o {S with g:=ju gs S.g} (.db .cp)) (y:=vL S o.dst) (l:=S.g) gP
      refine Ql cO (S:={S with g:=ju gs S.g}) jj kz (g1 gP) (f2 t1) λbV aD aa ae aw aN _ cB=>fin bV aD ?_ aa ae aw aN
      exact f1.trans cB
   ·exact gr.elim
  |bad=>rw[lg]at gr;exact gr.elim
end
end Go.aH
namespace Go.aH
open Go
def FV(i:Nat)(y:ag):List cv->Bool
 |[]=>false| .rg j b::r=>(zZu j i&&eF b y)||FV i y r
 |_::r=>FV i y r
def Cu(j:Nat)(all:List cv):List cv->Option Bool
 |[]=>none| .d2 i (.ss .lss .i64) x y::r=>match zZu i j with
  |true=>match eF x y with
   |true=>some false|false=>match x with
    | .bE (.int .i64) m=>match FV m y all&&(match y.rt with|some (.int .i64)=>true|_=>false)with
     |true=>some true|false=>none
    |_=>none
  |false=>Cu j all r
 |_::r=>Cu j all r
def Qu(g:ag)(l:List cv):Option Bool:=
 match n9 g l with
 |some b=>some b|none=>match g with
  | .bE .bool j=>Cu j l l|_=>none
def FW(i:Nat):List cv->Option ag
 |[]=>none| .d1 j .qk x::r=>match zZu j i with
  |true=>match x.rt with
   |some .bool=>some x|_=>none
  |false=>FW i r
 |_::r=>FW i r
def ax.fb(S:ax)(v:ag)(b:Bool):ax:=
 match v with
 | .bE .bool i=>match FW i S.g with
  |some x=>{S with g:=.fb x (!b):: .fb (.bE .bool i) b::S.g}|none=>{S with g:=.fb (.bE .bool i) b::S.g}
 |v=>{S with g:=.fb v b::S.g}
def Qv(N:Nat)(S:ax)(x:Operand)(f g:ax->aG):aG:=
 match S.bj N x with
 | .cs (.bool true)=>f S| .cs (.bool false)=>g S|v=>match v.rt with
  |some .bool=>match Qu v S.g with
   |some true=>f S|some false=>g S|none=>.it v (f (S.fb v true)) (g (S.fb v false))
  |_=>.bad 38
def comp(P:Program)(N B:Nat)(T:List (Nat × bZ))(inl:Nat->List ag->ax->aG)(L:(ax->aG)->Nat->ax->aG)(D:Array Oper->ax->aG):Code->Nat->ax->aG
 | .skip,_,S=>.db .cp S| .ret,_,S=>.db .ret S| .exit id,_,S=>.db (.ext id) S| .region _ ops draw,_,S=>match draw with
  |true=>D ops S|false=>j3 P N B T inl ops ops.toList S
 | .cond x a b,cur,S=>Qv N S x (comp P N B T inl L D a cur) (comp P N B T inl L D b cur)| .block id c,_,S=>(comp P N B T inl L D c id S).rel (sx id)| .seq a b,cur,S=>nw N S (comp P N B T inl L D a cur S) (comp P N B T inl L D b cur)| .loop c,cur,S=>L (comp P N B T inl L D c cur) cur S|_,_,_=>.bad 6
section
variable {P:Program} {G:aV} {N B:Nat} {M:List bs} {T:List (Nat × bZ)} {inl:Nat->List ag->ax->aG} {L:(ax->aG)->Nat->ax->aG} {D:Array Oper->ax->aG}
theorem FX{i:Nat}{y:ag}{e:Env}: ∀{l:List cv},FV i y l=true->(∀c∈l,c.ok e)->0<=cQ (Env.at e i)/\cQ (Env.at e i)<cQ (y.dyn e)
 | .rg j b::r,h,hc=>by
  simp only[FV,Bool.or_eq_true,zZr]at h
  rcases h with⟨aa,ae⟩|h
  ·rw[<-zWi aa,<-eQ ae]
   exact hc (.rg j b) (by simp)
  ·exact FX h λc hm=>hc c (by simp[hm])
 | .d1 _ _ _::r,h,hc=>FX (l:=r) h λc hm=>hc c (by simp[hm])
 | .d2 _ _ _ _::r,h,hc=>FX (l:=r) h λc hm=>hc c (by simp[hm])
 | .fb _ _::r,h,hc=>FX (l:=r) h λc hm=>hc c (by simp[hm])
theorem zkb(d:aK):(d.aI (.int .i64):Int)=cQ d\/(d.aI (.int .i64):Int)=0:=by
 obtain⟨r,v⟩:=d
 by_cases h:r= .int .i64
 ·subst h
  exact .inl (df _ _)
 ·refine .inr ?_
  unfold aK.aI
  split
  ·rename_i h' _;exact absurd h' h
  ·rfl
theorem FY{j:Nat}{e:Env}{b:Bool}{all:List cv}(ba: ∀c∈all,c.ok e): ∀{l:List cv},Cu j all l=some b->(∀c∈l,c.ok e)->(ag.bE .bool j).aL e .bool=b
 | .d2 i f x y::r,h,hc=>by
  have aP:=hc (.d2 i f x y) (by simp)
  have ah: ∀{b},Cu j all r=some b->(ag.bE .bool j).aL e .bool=b:=λh=>FY ba h λc hm=>hc c (by simp[hm])
  unfold Cu at h
  split at h
  ·cases h
  ·rename_i Bx mm tq e5 heq
   cases heq
   split at h
   ·rename_i o9
    have o9:=zWi o9;subst o9;simp only[cv.ok]at aP
    have az:(ag.bE .bool i).aL e .bool=Fc .lss (x.aL e (.int .i64)) (y.aL e (.int .i64)):=by
     simp only[ag.aL,ag.hh,ag.dyn,df,aP];rfl
    rw[az]
    split at h
    ·rename_i he
     cases h;rw[eQ he];exact decide_eq_false (Int.lt_irrefl _)
    ·split at h
     ·rename_i m _
      split at h
      ·rename_i an
       cases h;simp only[zZr]at an
       have aa:=FX an.1 ba
       have aA:y.rt=some (.int .i64):=by
        have:=an.2
        split at this
        ·assumption
        ·cases this
       rw[pD aA]at aa;have hx:(ag.bE (.int .i64) m).aL e (.int .i64)=(Env.at e m).aI (.int .i64):=by simp only[ag.aL,ag.hh,ag.dyn,df]
       rw[hx];refine decide_eq_true ?_;have ae:=aa.2
       rcases zkb (Env.at e m)with q|q
       ·rw[q];exact ae
       ·rw[q];exact Int.lt_of_le_of_lt aa.1 ae
      ·cases h
     ·cases h
   ·exact ah h
  ·rename_i heq
   cases heq;exact ah h
 | .d1 _ _ _::r,h,hc=>FY ba (l:=r) h λc hm=>hc c (by simp[hm])
 | .rg _ _::r,h,hc=>FY ba (l:=r) h λc hm=>hc c (by simp[hm])
 | .fb _ _::r,h,hc=>FY ba (l:=r) h λc hm=>hc c (by simp[hm])
theorem Zp{e:Env}{g:ag}{b:Bool}{l:List cv}(h:Qu g l=some b)(hc: ∀c∈l,c.ok e):g.aL e .bool=b:=by
 unfold Qu at h
 split at h
 ·rename_i an;cases h;exact ua an hc
 ·split at h
  ·exact FY hc h hc
  ·cases h
def nx(P:Program)(G:aV)(N B:Nat)(M:List bs)(c:Code)(f:ax->aG):Prop:=
 ∀(S:ax) (e:Env),S.cU->S.cV e->(f S).safe M e->cb P G c (lQ G N B M (f S) e S.k) (S.den G N B e)
theorem Qw{i:Nat}{x:ag}{e:Env}{k:Nat}: ∀{l:List cv},FW i l=some x->(∀c∈l,c.ok e)->gD k l=true->(ag.bE .bool i).aL e .bool= !(x.aL e .bool)/\x.lt k=true
 |[],h,_,_=>by cases h
 |c::r,h,hc,au=>by
  have qc: ∀c∈r,c.ok e:=λc hm=>hc c (zVj _ hm);have kW:c.lt k=true/\gD k r=true:=by simpa only[gD,zZr]using au
  unfold FW at h
  split at h
  ·rename_i heq;cases heq
  ·rename_i j y e5 heq
   cases heq
   split at h
   ·rename_i aj
    have aj:=zWi aj;subst aj
    split at h
    ·cases h
     have aP:Env.at e j=⟨cx.qk.c,cx.qk.den (x.aL e cx.qk.a)⟩:=hc _ (List.mem_cons_self ..);have aa:=kW.1;simp only[cv.lt,zZr]at aa;refine⟨?_,aa.2⟩;simp only[ag.aL,ag.hh,ag.dyn,aP,df];rfl
    ·cases h
   ·exact Qw h qc kW.2
  ·rename_i heq
   cases heq;exact Qw h qc kW.2
theorem Zq{S:ax}{v:ag}{b:Bool}{e:Env}(af:S.cU)(hf:S.cV e)(au:v.lt S.k=true)(az:v.aL e .bool=b):(S.fb v b).cU/\(S.fb v b).cV e/\(S.fb v b).k=S.k/\(S.fb v b).den G N B e=S.den G N B e:=by
 unfold ax.fb
 split
 ·rename_i i
  split
  ·rename_i x hx
   obtain⟨aa,ae⟩:=Qw hx hf af.g;rw[az]at aa;have aw:x.aL e .bool= !b:=by rw[aa];cases x.aL e .bool<;>rfl
   have cw:=FT (b:=b) af au;have a2:=FU hf az;exact⟨FT (S:={S with g:=.fb (.bE .bool i) b::S.g}) (b:=!b) cw ae,FU (S:={S with g:=.fb (.bE .bool i) b::S.g}) a2 aw,rfl,rfl⟩
  ·exact⟨FT af au,FU hf az,rfl,rfl⟩
 ·exact⟨FT af au,FU hf az,rfl,rfl⟩
theorem zkc{x:Operand}{a b:Code}{f g:ax->aG}(hf:nx P G N B M a f)(ai:nx P G N B M b g):nx P G N B M (.cond x a b) (λS=>Qv N S x f g):=by
 intro S e af fJ ao;have hx:=b3 (G:=G) (N:=N) (B:=B) fJ x;have bR:=JE (N:=N) af x;simp only at ao⊢;unfold Qv at ao⊢;generalize S.bj N x=v at ao hx bR⊢
 split at ao
 ·exact cb.MI hx (hf S e af fJ ao)
 ·exact cb.MJ hx (ai S e af fJ ao)
 ·rename_i aa ae
  split at ao
  ·rename_i ah
   have hd:=hH (G:=G) (e:=e) ah;rw[<-hx]at hd;have hd:=hd.trans (show _=aC.ad (.v (.bool _))from rfl)
   split at ao
   ·rename_i an
    rw[Zp an fJ]at hd;exact cb.MI hd (hf S e af fJ ao)
   ·rename_i an
    rw[Zp an fJ]at hd;exact cb.MJ hd (ai S e af fJ ao)
   ·refine cb.cond hd (λaJ=>?_) (λaJ=>?_)
    ·obtain⟨dp,dP,hT,u0⟩:=Zq (G:=G) (N:=N) (B:=B) af fJ bR aJ
     have:=hf _ e dp dP (ao.1 aJ);rw[u0]at this;refine cb.mono this λex st ar=>ar.sub ?_ (cy.refl _ _) (zVe hT.symm);rw[xE aJ]
    ·obtain⟨dp,dP,hT,u0⟩:=Zq (G:=G) (N:=N) (B:=B) af fJ bR aJ
     have:=ai _ e dp dP (ao.2 aJ);rw[u0]at this;refine cb.mono this λex st ar=>ar.sub ?_ (cy.refl _ _) (zVe hT.symm);rw[xE aJ]
  ·exact ao.elim
theorem zkd{id:Nat}{c:Code}{f:ax->aG}(hf:nx P G N B M c f):nx P G N B M (.block id c) (λS=>(f S).rel (sx id)):=by
 intro S e af fJ ao;have av:=ziu (f S) id;refine cb.block (cb.mono (hf S e af fJ ((oR av).1 ao)) λex st ar=>?_);obtain⟨x,bV,aD,aa,ae,aw,aN,bx,cB,eN⟩:=ar;have ah:run M ((f S).rel (sx id)) e=some (sx id x,bV,aD):=by rw[Fl av,aa];rfl
 cases x with
 |cp=>cases ex<;>first|exact⟨_,bV,aD,ah,trivial,aw,aN,bx,cB,eN⟩|exact ae.elim
 |ret=>cases ex<;>first|exact⟨_,bV,aD,ah,trivial,aw,aN,bx,cB,eN⟩|exact ae.elim
 |n8 n=>exact(by cases ex<;>exact ae.elim)
 |ext n=>
  cases ex with
  |exit m=>
   have ae:n=m:=ae;subst ae;show(bif zZu n id then _ else _)
   cases af:zZu n id with
   |true=>exact⟨.cp,bV,aD,by rw[ah];simp only[sx,af],trivial,aw,aN,bx,cB,eN⟩|false=>exact⟨.ext n,bV,aD,by rw[ah];simp only[sx,af],rfl,aw,aN,bx,cB,eN⟩
  |_=>exact ae.elim
theorem zke{a b:Code}{f g:ax->aG}(hf:nx P G N B M a f)(ai:nx P G N B M b g):nx P G N B M (.seq a b) (λS=>nw N S (f S) g):=by
 intro S e af fJ ao;obtain⟨t1,t2,t3⟩:=Kh (G:=G) (B:=B) af fJ ao;refine cb.seq (cb.mono (hf S e af fJ t1) λex st ar=>?_);obtain⟨x,bV,aD,aa,ae,aw,aN,bx,cB,eN⟩:=ar;have other:x≠ .cp->ex≠ .normal->lQ G N B M (nw N S (f S) g) e S.k ex st:=λb6 _=>⟨x,bV,aD,t2 x bV aD aa b6 (YX ae),ae,aw,aN,bx,cB,eN⟩
 cases x with
 |cp=>
  cases ex with
  |normal=>
   obtain⟨dC,bc,s1,s2,jc,jI,jv,kO,pH⟩:=t3 bV aD aa aN bx cB eN;exact cb.le aw (cb.le s1 (cb.mono (ai dC bc s2 jc kO) λex st ar=>ar.sub pH jI jv))
  |_=>exact ae.elim
 |ret=>cases ex<;>first|exact other (by simp) (by simp)|exact ae.elim
 |ext n=>cases ex<;>first|exact other (by simp) (by simp)|exact ae.elim
 |n8 n=>cases ex<;>exact ae.elim
theorem Qx{c:Code}{x:cm}{ex:Exit}(h:FN x ex)(k: ∀{Q:Exit->aS->Prop} {s:aS},Q ex s->cb P G c Q s):nx P G N B M c (λS=>.db x S):=
 λS e af hf _=>k ⟨x,S,e,rfl,h,b5.refl _,af,hf,cy.refl _ _,zZv _⟩
def Qy(P:Program)(G:aV)(N B:Nat)(M:List bs)(L:(ax->aG)->Nat->ax->aG):Prop:=∀c f id,nx P G N B M c f->nx P G N B M (.loop c) (L f id)
def Qz(P:Program)(G:aV)(N B:Nat)(M:List bs)(D:Array Oper->ax->aG):Prop:=∀id ops,nx P G N B M (.region id ops true) (D ops)
theorem zN(cO:gK P G M inl)(h2:Qy P G N B M L)(kA:Qz P G N B M D): ∀(c:Code) (cur:Nat),nx P G N B M c (comp P N B T inl L D c cur)
 | .skip,_=>Qx (ex:=.normal) trivial cb.skip| .ret,_=>Qx (ex:=.ret) trivial cb.ret| .exit id,_=>Qx (ex:=.exit id) rfl cb.exit| .region id ops draw,_=>by
  cases draw with
  |true=>exact kA id ops|false=>
   intro S e af hf ao;have hQ:ops=ops.toList.toArray:=by simp
   rw[hQ];refine cb.region ?_;rw[<-hQ];exact Cs cO ops.toList af hf ao λ_ _ h=>h
 | .cond x a b,cur=>zkc (zN cO h2 kA a cur) (zN cO h2 kA b cur)| .block id c,_=>zkd (zN cO h2 kA c id)| .seq a b,cur=>zke (zN cO h2 kA a cur) (zN cO h2 kA b cur)| .loop c,cur=>h2 c _ cur (zN cO h2 kA c cur)| .rangeFunc _ _ _ _,_=>λ_ _ _ _ h=>h.elim
 | .scope _,_=>λ_ _ _ _ h=>h.elim
 | .label _,_=>λ_ _ _ _ h=>h.elim
 | .goto _,_=>λ_ _ _ _ h=>h.elim
 | .refuse _,_=>λ_ _ _ _ h=>h.elim
end
end Go.aH
namespace Go.aH
open Go
def FZ:Nat->List ag->List (Nat × ag)
 |_,[]=>[]|i,x::r=>(i,x)::FZ (i+1) r
def Cv(P:Program)(N:Nat)(S:ax):List ResultVar->Option (List ag)
 |[]=>some []| .tmp t::r=>match Cv P N S r with
  |some l=>some (S.bj N (.tmp t)::l)|none=>none
 | .cell p t::r=>match Cv P N S r,zw S (S.bj N (.tmp p))with
  |some l,some cs=>match vB P t cs with
   |some v=>some (v::l)|none=>none
  |_,_=>none
def QA(P:Program)(fn:Func)(N:Nat)(S:ax):Option ag:=
 match Cv P N S fn.results.toList with
 |some [x]=>some x|some l=>some (.tp l)|none=>none
def F0:cm->cm
 | .ret=>.cp|x=>x
def zkf:cm->Bool
 | .cp=>true| .ret=>true|_=>false
def Kz(P:Program)(fn:Func)(N:Nat)(S:ax):aG:=
 match QA P fn N S with
 |some v=>match v.lt S.k with
  |true=>.db .cp {S with l:=bn.put .emp 0 v}|false=>.bad 44
 |none=>.bad 43
structure tL where
 L:Nat->Nat->(Nat->List ag->ax->aG)->(ax->aG)->Nat->ax->aG
 D:Nat->Nat->(Nat->List ag->ax->aG)->Array Oper->ax->aG
def zO(aI:List ag)(S:ax):ax:={S with l:=gE (FZ 0 aI)}
def QB(P:Program)(H:tL)(T:List (Nat × bZ))(inl:Nat->List ag->ax->aG)(c:Code)(N:Nat)(aI:List ag)(S:ax):aG:=
 comp P N S.n T inl (H.L N S.n inl) (H.D N S.n inl) c 0 (zO aI S)
def Cw(n:Nat)(m:Nat):Nat:=
 match n with
 |0=>m|k+1=>k+1
def aG.qw:aG->Nat
 | .db _ _=>0| .lt _ _ t=>t.qw| .fF _ t=>t.qw| .it _ a b=>Cw a.qw b.qw| .eB _ a _ k=>Cw a.qw k.qw| .fc _ _ _ _ _ a k=>Cw a.qw k.qw| .fG _ _ _ a k=>Cw a.qw k.qw| .bad n=>n
def zkg(f n:Nat):Nat:=
 match zZt 1000 n with
 |true=>n|false=>f*1000+n
def Zr(P:Program)(f:Nat)(fn:Func)(N:Nat)(t:aG):aG:=
 match t.gM zkf with
 |true=>(t.rel F0).fe (Kz P fn N) none|false=>.bad (zkg f t.qw)
def QC(P:Program)(H:tL)(T:List (Nat × bZ))(inl:Nat->List ag->ax->aG)(f:Nat)(aI:List ag)(S:ax):aG:=
 match P.funcs[f]? with
 |some fn=>match fn.body with
  |some c=>Zr P f fn (aI.length+(fn.ntmps-aI.length)) (QB P H T inl c (aI.length+(fn.ntmps-aI.length)) aI S)|none=>.bad 41
 |none=>.bad 42
section
variable {P:Program} {G:aV} {N B:Nat} {M:List bs} {T:List (Nat × bZ)} {inl:Nat->List ag->ax->aG} {H:tL}
def QD(P:Program)(G:aV)(M:List bs)(H:tL):Prop:=∀(inl:Nat->List ag->ax->aG),gK P G M inl->∀N B,Qy P G N B M (H.L N B inl)/\Qz P G N B M (H.D N B inl)
theorem Zs{t:TypeId}{l:List ag}{v:ag}{e:Env}(h:vB P t l=some v):
 (∃n,nF P t=some n/\n<=l.length/\0<n/\v.den G e= .agg ((ag.cc G e l).take n))\/(nF P t=none/\scalar P t=true/\∃r,l=v::r):=by
 unfold vB at h
 split at h
 ·rename_i n hn
  split at h
  ·rename_i af
   simp only[zZr]at af;cases h;refine .inl ⟨n,hn,zZq af.1,zZq af.2,?_⟩;simp only[ag.den,gh,List.map_take]
  ·cases h
 ·rename_i hn
  split at h
  ·rename_i ao
   cases h;exact .inr ⟨hn,ao,_,rfl⟩
  ·cases h
theorem KA{S:ax}{e:Env}(hf:S.cV e): ∀{l:List ResultVar} {vs:List ag},Cv P N S l=some vs->qf P (S.den G N B e) l=some (ag.cc G e vs)
 |[],vs,h=>by cases h;rfl
 | .tmp t::r,vs,h=>by
  simp only[Cv]at h
  split at h
  ·rename_i l au
   cases h
   have:=b3 (G:=G) (N:=N) (B:=B) hf (.tmp t);simp only[qf,KA hf au,ag.cc,<-this];rfl
  ·cases h
 | .cell p t::r,vs,h=>by
  simp only[Cv]at h
  split at h
  ·rename_i l cs au hc
   split at h
   ·rename_i v az
    cases h
    have aa:=b3 (G:=G) (N:=N) (B:=B) hf (.tmp p);have ae:=Fy (G:=G) (N:=N) (B:=B) (e:=e) hc;rw[<-aa]at ae;have ae:gj (S.den G N B e).heap ((S.den G N B e).dn.getD p .top)=some (ag.cc G e cs):=ae;simp only[qf,KA hf au,ae,ag.cc]
    rcases Zs (G:=G) (e:=e) az with⟨n,g1,g2,g3,g4⟩|⟨g1,g2,e5,g3⟩
    ·simp only[g1,g4]
     rw[if_pos ⟨by rw[qq];exact g2,g3⟩]
    ·subst g3
     simp only[g1,g2,if_true,ag.cc]
   ·cases h
  ·cases h
theorem zkh{fn:Func}{S:ax}{e:Env}{v:ag}(hf:S.cV e)(h:QA P fn N S=some v):tk P fn (S.den G N B e)=some (v.den G e):=by
 unfold QA at h;unfold tk
 split at h
 ·rename_i x hx
  cases h;rw[KA hf hx];rfl
 ·rename_i l b6 au
  cases h;rw[KA hf au]
  match l with
  |[]=>rfl|[x]=>exact absurd rfl (b6 x)|x::y::l=>rfl
 ·cases h
theorem Zt(t:aG):t.kJ F0:=qn (t.lvl+1) (zYi _) (λn _ x h=>by cases x<;>first|rfl|exact h) (λn x h=>by cases x<;>first|rfl|exact h)
theorem QE: ∀{l:List ag} {i j:Nat},(gE (FZ i l)).get j=if j<i then none else l[j-i]?
 |[],i,j=>by simp only[FZ,gE];split<;>simp[bn.get]
 |x::r,i,j=>by
  simp only[FZ,gE,bn.lu,QE (l:=r)]
  by_cases h:i=j
  ·subst h;simp
  ·rw[if_neg h]
   by_cases ae:j<i
   ·rw[if_pos ae,if_pos (by omega)]
   ·rw[if_neg ae,if_neg (by omega),show j-i=(j-(i+1))+1 by omega,List.getElem?_cons_succ]
theorem zki{aI:List ag}{S:ax}{e:Env}{k:Nat}:(zO aI S).den G (aI.length+k) S.n e=⟨ag.cc G e aI++List.replicate k .top,di G e S.h,S.n,S.n⟩:=by
 simp only[ax.den,zO,aS.mk.injEq,and_true,true_and];apply List.ext_getElem?;intro j;rw[rn,zZ0,QE,if_neg (zVd _),zVc,gh,List.getElem?_append,List.getElem?_replicate,List.length_map]
 by_cases h:j<aI.length
 ·rw[if_pos (by omega),if_pos h,zYo,List.getElem?_eq_getElem h]
  rfl
 ·rw[if_neg h]
  by_cases ae:j<aI.length+k
  ·rw[if_pos ae,if_pos (by omega),List.getElem?_eq_none (by omega)]
  ·rw[if_neg ae,if_neg (by omega)]
theorem zkj{aI:List ag}{S:ax}(af:S.cU)(au:ag.c6 S.k aI=true):(zO aI S).cU:=by
 refine⟨λi x hx=>?_,af.h,af.g⟩;simp only[zO,QE,zVd,if_false,zVc]at hx;have hm:=List.mem_of_getElem? hx;clear hx
 induction aI with
 |nil=>cases hm
 |cons y r bb=>
  simp only[ag.c6,zZr]at au
  rcases zZf.1 hm with rfl|hm
  ·exact au.1
  ·exact bb au.2 hm
theorem cb.zkk{c:Code}{Q:Exit->aS->Prop}{s:aS}(h:cb P G c (λe st=>∃KB,b5 st KB/\Q e KB) s):cb P G c Q s:=λE a w ah=>
 wp_mono (h E a w ah) λ_ bo w' ⟨st,⟨KB,au,aB⟩,ae⟩=>⟨KB,aB,au E G bo w' ae⟩
theorem zkl(zP:QD P G M H)(cO:gK P G M inl):gK P G M (QC P H T inl):=by
 intro f aI S e af au hf ao;unfold QC at ao⊢
 split at ao
 ·rename_i fn qJ
  split at ao
  ·rename_i c hc
   generalize m5:aI.length+(fn.ntmps-aI.length)=N at ao;generalize aJ:QB P H T inl c N aI S=t at ao;unfold Zr at ao⊢
   split at ao
   ·rename_i QF
    obtain⟨g1,g2,g3⟩:=kK (t.rel F0) none ao;have uS:t.safe M e:=(oR (Zt t)).1 g1
    have Zu:=zN (T:=T) (B:=S.n) (N:=N) cO (zP inl cO N S.n).1 (zP inl cO N S.n).2 c 0 (zO aI S) e (zkj af au) hf (by
     unfold QB at aJ;rw[aJ];exact uS)
    have cP:comp P N S.n T inl (H.L N S.n inl) (H.D N S.n inl) c 0 (zO aI S)=t:=aJ;rw[cP,<-m5,zki,m5]at Zu;refine fa.zhc (k:=fn.ntmps-aI.length) qJ hc (by rw[qq]) (cb.zkk (cb.mono Zu λex st ar=>?_))
    obtain⟨x,bV,aD,aa,ae,aw,aN,bx,cB,eN⟩:=ar;refine⟨_,aw,?_⟩;obtain⟨mm,dC,bc,dp,dP⟩:=mq (M:=M) (e:=e) QF;rw[aa]at dp
    cases dp
    have ah:run M (t.rel F0) e=some (.cp,bV,aD):=by
     rw[Fl (Zt t),aa]
     cases x<;>first|rfl|cases dP
    obtain⟨F1,_⟩:=g3 bV aD ah;rw[ah]at g2;have g2:run M ((t.rel F0).fe (Kz P fn N) none) e=run M (Kz P fn N bV) aD:=g2;unfold Kz at F1 g2
    split at F1
    ·rename_i v az
     split at F1
     ·rename_i sH
      simp only[az,sH]at g2;refine⟨(by cases x<;>cases ex<;>first|exact .inl rfl|exact .inr rfl|exact ae.elim|cases dP),v.den G aD,di G aD bV.h,zkh bx az,λ_ _ h=>h,{bV with l:=bn.put .emp 0 v},aD,g2,?_,rfl,⟨λi x hx=>?_,aN.h,aN.g⟩,bx,cB,eN⟩
      ·simp only[ax.at,bn.lu,if_true]
      ·simp only[bn.lu]at hx
       split at hx
       ·cases hx;exact sH
       ·simp[bn.get]at hx
     ·exact F1.elim
    ·exact F1.elim
   ·exact ao.elim
  ·exact ao.elim
 ·exact ao.elim
end
end Go.aH
