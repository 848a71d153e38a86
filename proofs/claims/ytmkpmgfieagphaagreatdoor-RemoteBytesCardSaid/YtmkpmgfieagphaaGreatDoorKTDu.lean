/- TD, part Q: regions whose order is fixed. Conditions: none. -/
import Derived.Test.YtmkpmgfieagphaaGreatDoorKTDm2
namespace Go.aK
open Go
def xQ(k:Nat):bJ→List b4
 | .f1 .n5 x=>[.d1 k .n5 x]
 | .f1 (.iT c) x=>[.d1 k (.iT c) x]
 | .f1 .nd x=>[.d1 k .nd x]
 | .f2 (.jt .add .i64 .i64) x y=>[.d2 k (.jt .add .i64 .i64) x y]
 | .f2 (.pg .lss .i64) x y=>[.d2 k (.pg .lss .i64) x y]
 |_=>[]
def xR(k:Nat):List bJ→List b4→List b4
 |[],g=>g
 |x::r,g=>xR (k+1) r (xQ k x++g)
def ao.e1(S:ao)(k:Nat)(xs:List bJ):ao:={S with k:=k+xs.length,g:=xR k xs S.g}
inductive EX where
 |yes
 |no
 |on (gs:List (ab × Bool))
 |bad
def vE(l:List b4)(b:Bool):ab→EX
 | .cs (.bool c)=>match decide (c=b)with
  |true=>.yes
  |false=>.no
 | .tp _=>.no
 | .fI h c v=>match h.rt with
  |some .bool=>match vE l b v with
   | .yes=>.on [(h,c)]
   | .no=>.no
   | .on gs=>.on ((h,c)::gs)
   | .bad=>.bad
  |_=>.bad
 |g=>match g.rt,lr g l with
  |some .bool,some c=>match decide (c=b)with
   |true=>.yes
   |false=>.no
  |some .bool,none=>.on [(g,b)]
  |_,_=>.bad
def guardOf(N:Nat)(ops:Array Oper)(S:ao)(o:Oper):EX:=
 match o.guard with
 |none=>.yes
 |some (j,b)=>match ml ops j with
  |some d=>match Nat.blt d N with
   |true=>vE S.g b ((S.at d).res S.g)
   |false=>.bad
  |none=>.bad
def hy:List (ab × Bool)→List b4→List b4
 |[],l=>l
 |(g,b)::r,l=>.dT g b::hy r l
def qM:List (ab × Bool)→fe→fe
 |[],n=>n
 |(g,b)::r,n=>.SH g b (qM r n)
def lV(k:Nat):List (ab × Bool)→Bool
 |[]=>true
 |(g,_)::r=>g.lt k&&lV k r
def fM(e:Env):List (ab × Bool)→Bool
 |[]=>true
 |(g,b)::r=>(g.az e .bool==b)&&fM e r
def My(P:Program)(B:Nat)(S:ao)(t:TypeId)(x:ab):Option da:=
 match x.rt,isStr P t&&Nat.ble B S.n with
 |some .str,true=>some ⟨[],[],none,(S.n,.it .st x (.cs (.int .i64 0)))::S.h,S.n+1,.gY S.n⟩
 |_,_=>none
def EY(P:Program)(N B:Nat)(T:List (Nat × bK))(S:ao)(o:Oper):Option da:=
 match o.op with
 | .alloc t=>LP P B S t
 | .box t x=>LQ B S t (S.aY N x)
 | .store t p x=>LR P S t (S.aY N p) (S.aY N x)
 | .buildSlice t len ps=>match L1 P N B T S t len ps.toList with
  |some r=>some r
  |none=>match L2 P B T S t len ps.toList with
   |some r=>some r
   |none=>match L0 P N T S t len ps.toList with
    |some r=>some r
    |none=>L3 P N B S t len ps.toList
 | .makeSlice t x y=>L4 P B T S t (S.aY N x) (S.aY N y)
 | .range t x=>My P B S t (S.aY N x)
 | .makeMap t none=>Mw P B T S t
 | .mapUpdate t m x y=>Mx P T S t (S.aY N m) (S.aY N x) (S.aY N y)
 | .call c=>match c.callee,c.args.toList,c.argTypes.toList with
  | .builtin .append,[x,y],[t,bC]=>match Nat.beq t bC with
   |true=>L5 P B S t (S.aY N x) (S.aY N y)
   |false=>L6 P B S t bC (S.aY N x) (S.aY N y)
  |_,_,_=>none
 |_=>none
structure qN where
 xs:List bJ
 g:ab
 h:List (Nat × bF)
 v:ab
 bg:ab
def TP(S:ao)(x:ab):Option qN:=
 match x with
 | .gY id=>match c9 S.h id with
  |some (.it .st s p)=>match s.rt,p.rt with
   |some .str,some (.int .i64)=>some ⟨[.f2 .l6 s p,.f2 .l8 s p,.f2 .l7 s p,.f2 .kX s p],.aT .bool S.k,ju S.h id (.it .st s (.aT (.int .i64) (S.k+3))),
    .tp [.cs (.bool true),.aT (.int .i64) (S.k+1),.aT (.int .i32) (S.k+2)],.tp [.cs (.bool false)]⟩
   |_,_=>none
  |_=>none
 |_=>none
def Mz(N:Nat)(S:ao)(o:Oper):Option qN:=
 match o.op with
 | .next x true=>TP S (S.aY N x)
 |_=>none
def qN.ok(q:qN)(S:ao):Bool:=(hv S.k q.xs&&q.g.lt (S.k+q.xs.length))&&(eG (S.k+q.xs.length) q.h&&(q.v.lt (S.k+q.xs.length)&&q.bg.lt (S.k+q.xs.length)))
def qN.st(q:qN)(S:ao)(dst:Option Nat):ao:=(ao.put {S.e1 S.k q.xs with h:=q.h,g:=.dT q.g true::(S.e1 S.k q.xs).g} dst q.v).ET
def qN.xS(q:qN)(S:ao)(dst:Option Nat):ao:=(ao.put {S.e1 S.k q.xs with g:=.dT q.g false::(S.e1 S.k q.xs).g} dst q.bg).ET
def bF.kind:bF→bF→Bool
 | .di _ _,.di _ _=>true
 | .rw _ c _,.rw _ d _=>Nat.beq (bY c) (bY d)
 | .it _ _ _,.it _ _ _=>true
 |_,_=>false
def AV(n:Nat)(aL:List (Nat × bF)):List (Nat × bF)→Bool
 |[]=>true
 |(id,o)::r=>(match Nat.blt id n with
  |true=>match c9 aL id with
   |some cz=>bF.kind cz o
   |none=>false
  |false=>true)&&AV n aL r
mutual
def ab.r5(n:Nat):ab→Bool
 | .cg l=>ab.tx n l
 | .tp l=>ab.tx n l
 | .ed k _=>Nat.blt k n
 | .gM k _ _=>Nat.blt k n
 | .gW k _ _ _=>Nat.blt k n
 | .aN k=>Nat.blt k n
 | .cB k _=>Nat.blt k n
 | .fi _ (some k) _=>Nat.blt k n
 | .fn _ a b=>ab.tx n a&&ab.tx n b
 | .gY k=>Nat.blt k n
 | .fI _ _ x=>ab.r5 n x
 |_=>true
def ab.tx(n:Nat):List ab→Bool
 |[]=>true
 |x::r=>ab.r5 n x&&ab.tx n r
end
def oe(n:Nat):List (Nat × bF)→Bool
 |[]=>true
 |(id,.di _ l)::r=>Nat.blt id n&&(ab.tx n l&&oe n r)
 |(id,.rw _ _ _)::r=>Nat.blt id n&&oe n r
 |(id,.it _ _ _)::r=>Nat.blt id n&&oe n r
def ao.back(S:ao)(dst:Option Nat)(C:ao):ao:=(⟨S.l,C.h,C.n,C.k,C.g⟩:ao).put dst (C.at 0)
def EZ(S C:ao):Bool:=(ab.r5 C.n (C.at 0)&&oe C.n C.h)&&(Nat.ble S.n C.n&&AV S.n S.h C.h)
def AW(S:ao)(dst:Option Nat)(C:ao):aC:=
 match EZ S C with
 |true=>.cG .ch (S.back dst C)
 |false=>.bad 34
def MA(C:ao):List ab→List ab→Nat→Option (Nat × Nat × Nat)
 | .aN k::r,.aN m::eP,off=>match Nat.beq k m,c9 C.h k,c9 C.h m with
  |false,none,some (.rw _ _ _)=>some (off,k,m)
  |_,_,_=>MA C r eP (off+1)
 |_::r,_::eP,off=>MA C r eP (off+1)
 |_,_,_=>none
def E0(C:ao):List (Nat × bF)→Option (Nat × Nat × Nat × Nat)
 |[]=>none
 |(id,.di _ zgj)::r=>match c9 C.h id with
  |some (.di _ l)=>match MA C zgj l 0 with
   |some (off,k,m)=>some (id,off,k,m)
   |none=>E0 C r
  |_=>E0 C r
 |_::r=>E0 C r
def E1(m:Nat):Option ab→Bool
 |some (.aN j)=>Nat.beq j m
 |_=>false
def xT(B id off k m:Nat)(C:ao):ao:=
 match c9 C.h id,c9 C.h m with
 |some (.di t l),some (.rw gN c x)=>match E1 m (l[off]?)&&((Nat.ble B k&&Nat.blt k C.n)&& !(Nat.beq id k))with
  |true=>⟨(C.l.map (ab.kill m)).map (ab.kill k),ju ((k,.rw gN c x)::ht k (ht m C.h)) id (.di t ((ab.ef k (ab.ef m l)).set off (.aN k))),C.n,C.k,C.g⟩
  |false=>C
 |_,_=>C
def vF(B:Nat)(S C:ao):ao:=
 match E0 C S.h with
 |some (id,off,k,m)=>xT B id off k m C
 |none=>C
def MB(B:Nat)(C:ao):List (Nat × bF)→Option Nat
 |[]=>none
 |(id,.rw _ _ _)::r=>match c9 C.h id,Nat.ble B id with
  |none,true=>some id
  |_,_=>MB B C r
 |_::r=>MB B C r
def tz(B d k m:Nat)(C:ao):ao:=
 match c9 C.h m with
 |some (.rw gN c x)=>match E1 m (C.l.get d)&&(Nat.ble B k&&Nat.blt k C.n)with
  |true=>ao.put ⟨(C.l.map (ab.kill m)).map (ab.kill k),(k,.rw gN c x)::ht k (ht m C.h),C.n,C.k,C.g⟩ (some d) (.aN k)
  |false=>C
 |_=>C
def vG(B N:Nat)(S C:ao)(dst:Option Nat):ao:=
 match dst with
 |some d=>match C.l.get d,MB B C S.h with
  |some (.aN m),some k=>match Nat.ble S.n m&&Nat.blt d N with
   |true=>match Nat.blt d N with
    |true=>tz B d k m C
    |false=>C
   |false=>C
  |_,_=>C
 |none=>C
def AX(P:Program)(N:Nat)(S:ao)(o:Oper):Option (Nat × List ab):=
 match o.op with
 | .call c=>match c.callee with
  | .value x=>match S.aY N x with
   | .fn (.func f) p q=>some (f,p++c.args.toList.map (S.aY N)++q)
   |_=>none
  | .invoke x name=>match S.aY N x with
   | .er t a rs l=>match methodOf P t name,rZ a l,decide (pv l=some rs)with
    |some f,some v,true=>some (f,[v]++c.args.toList.map (S.aY N)++[])
    |_,_,_=>none
   |_=>none
  |_=>none
 |_=>none
def ab.m7(id:Nat)(x y:ab):ab:=
 match y with
 | .aN j=>match Nat.beq j id with
  |true=>x
  |false=>.aN j
 |y=>ab.kill id y
def MC(id:Nat)(x:ab)(S:ao):ao:=⟨S.l.map (ab.m7 id x),ht id S.h,S.n,S.k,S.g⟩
def xU(S:ao)(id:Nat):ao:=
 match c9 S.h id with
 |some (.rw _ c (.aT r k))=>match hR r (.li c)with
  |true=>MC id (.aT r k) S
  |false=>S
 |_=>S
def mG:List ab→ao→ao
 |[],S=>S
 | .aN id::r,S=>mG r (xU S id)
 |_::r,S=>mG r S
def TQ(f:Nat):List Nat→Bool
 |[]=>false
 |g::r=>Nat.beq g f||TQ f r
def preB(P:Program)(N:Nat)(S:ao)(o:Oper):Option (List ab):=
 match o.op with
 | .call _=>match o.guard with
  |some _=>none
  |none=>match AX P N S o with
   |some (f,as)=>match TQ f zed with
    |true=>some as
    |false=>none
   |none=>none
 |_=>none
def AY(f:gF)(x:ab):List b4→Option Nat
 |[]=>none
 | .d1 j g y::r=>match decide (g=f)&&eH y x with
  |true=>some j
  |false=>AY f x r
 |_::r=>AY f x r
def MD(S:ao)(r:dr):Option (aU × Nat):=
 match r.xs,r.ns,r.v with
 |[.f1 f x],[],.aT t k=>match Nat.beq k S.k with
  |true=>match AY f x S.g with
   |some j=>match Nat.blt j S.k with
    |true=>some (t,j)
    |false=>none
   |none=>none
  |false=>none
 |_,_,_=>none
def TR(f:cC)(a b:Int):Option ab:=
 match f with
 | .jt .add .i64 .i64=>some (.cs (.int .i64 (bz .add .i64 a b)))
 | .jt .sub .i64 .i64=>some (.cs (.int .i64 (bz .sub .i64 a b)))
 | .jt .mul .i64 .i64=>some (.cs (.int .i64 (bz .mul .i64 a b)))
 | .pg op .i64=>some (.cs (.bool (Ar op a b)))
 |_=>none
def ME(S:ao)(r:dr):Option ab:=
 match r.xs,r.ns,r.v with
 |[.f2 f (.cs (.int .i64 a)) (.cs (.int .i64 b))],[],.aT t k=>match Nat.beq k S.k&&hR t f.c with
  |true=>TR f a b
  |false=>none
 |_,_,_=>none
def MF(o:Oper):Nat:=
 match o.op with
 | .pick _ _ _=>1
 | .alloc _=>2
 | .box _ _=>3
 | .build _ _=>4
 | .buildSlice _ _ _=>5
 | .insert _ _ _ _=>6
 | .load _ _=>7
 | .store _ _ _=>8
 | .nilCheck _=>9
 | .binOp _ _ _ _ _=>10
 | .unOp _ _ _=>11
 | .convert _ _ _=>12
 | .makeInterface _ _=>13
 | .makeFunc _ _ _=>14
 | .makeMap _ _=>15
 | .makeSlice _ _ _=>16
 | .slice _ _ _ _ _=>17
 | .fieldAddr _ _ _=>18
 | .field _ _ _=>19
 | .indexAddr _ _ _=>20
 | .index _ _ _=>21
 | .lookup _ _ _ _=>22
 | .mapUpdate _ _ _ _=>23
 | .call c=>match c.callee with
  | .builtin .append=>30
  | .builtin .len=>31
  | .builtin .copy=>32
  | .builtin _=>33
  | .value _=>34
  |_=>35
 | .range _ _=>40
 | .next _ _=>41
 | .extract _ _=>42
 |_=>50
def exec(P:Program)(N B:Nat)(T:List (Nat × bK))(inl:Nat→List ab→ao→aC)(o:Oper)(S:ao)(k:ao→aC):aC:=
 match qI P N S o with
 |some r=>match hv S.k r.xs&&r.v.lt (S.k+r.xs.length)with
  |true=>match MD S r with
   |some (t,j)=>k (S.put o.dst (.aT t j))
   |none=>match ME S r with
    |some v=>k (S.put o.dst v)
    |none=>emit S.k r.xs r.ns (k ((S.e1 S.k r.xs).put o.dst r.v))
  |false=>.bad 30
 |none=>match EY P N B T S o with
  |some r=>match hv S.k r.xs&&(r.v.lt (S.k+r.xs.length)&&eG (S.k+r.xs.length) r.h)with
   |true=>emit S.k r.xs r.ns (k ((r.st S o.dst).e1 S.k r.xs))
   |false=>.bad 31
  |none=>match Mz N S o with
   |some q=>match q.ok S with
    |true=>emit S.k q.xs [] (.it q.g (k (q.st S o.dst)) (k (q.xS S o.dst)))
    |false=>.bad 33
   |none=>match AX P N S o with
    |some (f,as)=>match m4 P f with
     |true=>iL N S ((inl f as S).eI (AW S o.dst) none) fun C=>k (vG B N S (vF B S C) o.dst)
     |false=>.bad 32
    |none=>.bad (100+MF o)
def E2(g:ab)(b:Bool)(x y:aC):aC:=
 match b with
 |true=>.it g x y
 |false=>.it g y x
def tA(y:List b4→aC):List (ab × Bool)→aC→List b4→aC
 |[],x,_=>x
 |(g,b)::r,x,l=>E2 g b (tA y r x (.dT g b::l)) (y (.dT g (!b)::l))
def r6(S:ao)(dst:Option Nat)(l:List b4):aC:=.cG .ch (ao.put {S with g:=l} dst (.tp []))
def hI(P:Program)(N B:Nat)(T:List (Nat × bK))(inl:Nat→List ab→ao→aC)(ops:Array Oper):List Oper→ao→aC
 |[],S=>.cG .ch S
 |o::r,S=>match guardOf N ops S o with
  | .yes=>match preB P N S o with
   |some as=>exec P N B T inl o (mG as S) (hI P N B T inl ops r)
   |none=>exec P N B T inl o S (hI P N B T inl ops r)
  | .no=>hI P N B T inl ops r (S.put o.dst (.tp []))
  | .on gs=>match lV S.k gs with
   |true=>match qI P N {S with g:=hy gs S.g} o with
    |some q=>match hv S.k q.xs&&q.v.lt (S.k+q.xs.length)with
     |true=>emit S.k q.xs (q.ns.map (qM gs)) (hI P N B T inl ops r ((S.e1 S.k q.xs).put o.dst (kg gs q.v)))
     |false=>.bad 35
    |none=>qK N S o.dst gs (tA (r6 S o.dst) gs (exec P N B T inl o {S with g:=hy gs S.g} (.cG .ch)) S.g) (hI P N B T inl ops r)
   |false=>.bad 36
  | .bad=>.bad 37
section
variable {P:Program} {G:a7} {N B:Nat} {M:List aQ} {T:List (Nat × bK)} {inl:Nat→List ab→ao→aC}
theorem zgk{S:ao}{o:Oper}{t:TypeId}{x:Operand}{r:da}(an:o.op= .range t x)(h:My P B S t (S.aY N x)=some r):mE P G N B M o S r:=fun e hf hx hn=>by
 unfold My at h
 split at h
 ·rename_i AH hc
  cases h;simp only[Bool.and_eq_true]at hc
  have jx:aI G (S.den G N B e) x= .av (.v (.string ((S.aY N x).az e .str))):=by rw[bH hf];exact fX AH
  have:=zdM (P:=P) (G:=G) (s:=S.den G N B e) t x an (uW hc.1) jx (Nat.le_of_ble_eq_true hc.2)
  unfold da.st;rw[fa];exact this
 ·cases h
theorem zgl{S:ao}{o:Oper}{q:qN}{e:Env}(h:Mz N S o=some q)(hf:S.ct e)(hx: ∀(j:Nat) (x:bJ),q.xs[j]? =some x→Env.at e (S.k+j)=x.den M e):
 (q.g.az e .bool=true→dQ P G o (S.den G N B e) ((ao.put {S with h:=q.h} o.dst q.v).den G N B e))∧(q.g.az e .bool=false→dQ P G o (S.den G N B e) ((S.put o.dst q.bg).den G N B e)):=by
 unfold Mz at h
 split at h
 ·rename_i x an
  unfold TP at h
  split at h
  ·rename_i id aw
   split at h
   ·rename_i s p ah
    split at h
    ·rename_i aa ae
     cases h
     have jx:aI G (S.den G N B e) x= .ref id:=by rw[bH hf,aw];rfl
     have bc:aE (S.den G N B e).heap id=some (.bL (qu (s.az e .str) (Int.toNat (p.az e (.int .i64))))):=by
      show aE (cx G e S.h) id=_;rw[eh,ah];rfl
     have x0:=hx 0 _ rfl
     have ar:=hx 1 _ rfl
     have b6:=hx 2 _ rfl
     have cc:=hx 3 _ rfl
     simp only[bJ.den,cC.den,Nat.add_zero]at x0 ar b6 cc
     have tr:(ab.aT .bool S.k).az e .bool=decide (Int.toNat (p.az e (.int .i64))<ByteArray.size (s.az e .str)):=by
      simp only[ab.az,ab.fq,ab.dyn,x0,cA]
     refine⟨fun aG=>?_,fun aG=>?_⟩
     ·rw[tr]at aG
      have:=zdO (P:=P) (G:=G) (s:=S.den G N B e) x an jx bc (of_decide_eq_true aG) (c:=(Utf8.decode (s.az e .str) (Int.toNat (p.az e (.int .i64)))).1) (k:=(Utf8.decode (s.az e .str) (Int.toNat (p.az e (.int .i64)))).2) rfl
      rw[fa]
      have ba:(({S with h:=ju S.h id (.it .st s (.aT (.int .i64) (S.k+3)))}:ao).den G N B e)={S.den G N B e with heap:=eM (S.den G N B e).heap id (.bL (qu (s.az e .str) (Int.toNat (p.az e (.int .i64))+(Utf8.decode (s.az e .str) (Int.toNat (p.az e (.int .i64)))).2)))}:=by
       simp only[ao.den,ti,bF.den]
       congr 3
       simp only[ab.az,ab.fq,ab.dyn,cc,cA];rfl
      rw[ba]
      have zgm:(ab.tp [.cs (.bool true),.aT (.int .i64) (S.k+1),.aT (.int .i32) (S.k+2)]).den G e= .tuple [.av (.v (.bool true)),.av (.v (.int .i64 ((Int.toNat (p.az e (.int .i64)):Nat):Int))),.av (.v (.int .i32 (((Utf8.decode (s.az e .str) (Int.toNat (p.az e (.int .i64)))).1:Nat):Int)))]:=by
       simp only[ab.den,ab.bP,ar,b6,cA,fG,j8]
      rw[zgm];exact this
     ·rw[tr]at aG
      have:=zdN (P:=P) (G:=G) (s:=S.den G N B e) x an jx bc (Nat.le_of_not_lt (of_decide_eq_false aG))
      rw[fa];exact this.step
    ·cases h
   ·cases h
  ·cases h
 ·cases h
theorem TS{S:ao}{o:Oper}{r:da}(h:EY P N B T S o=some r):mE P G N B M o S r:=by
 unfold EY at h
 split at h
 ·exact zfI (by assumption) h
 ·exact zfJ (by assumption) h
 ·exact zfL (by assumption) h
 ·split at h
  ·rename_i aH
   cases h;exact zfY (by assumption) aH
  ·split at h
   ·rename_i aH
    cases h;exact zfX (by assumption) aH
   ·split at h
    ·rename_i aH
     cases h;exact zfV (by assumption) aH
    ·exact zfZ (by assumption) h
 ·exact zf0 (by assumption) h
 ·exact zgk (by assumption) h
 ·exact zgh (by assumption) h
 ·exact zgi (by assumption) h
 ·rename_i c an
  split at h
  ·rename_i x y t bC hc hx aG
   split at h
   ·rename_i ad
    have:=Nat.eq_of_beq_eq_true ad
    subst this;obtain⟨callee,args,ts⟩:=c;simp only at hc hx aG;rw[hc,Af hx,Af aG]at an;exact zf3 an h
   ·obtain⟨callee,args,ts⟩:=c
    simp only at hc hx aG;rw[hc,Af hx,Af aG]at an;exact zf4 an h
  ·cases h
 ·cases h
theorem tB{g:ab}{a b:aC}{e:Env}{v:Bool}(h:g.az e .bool=v):run M (.it g a b) e=match v with|true=>run M a e|false=>run M b e:=by
 simp only[run,aC.fold,h]
 cases v<;>rfl
def AZ:bZ→Exit→Prop
 | .ch,.normal=>True
 | .ext n,.exit m=>n=m
 | .ret,.ret=>True
 |_,_=>False
def jA(G:a7)(N B:Nat)(M:List aQ)(t:aC)(e:Env)(aW:Nat):Exit→aO→Prop:=fun ex st=>
 ∃x db ay,run M t e=some (x,db,ay)∧AZ x ex∧cm st (db.den G N B ay)∧db.cr∧db.ct ay∧bW aW e ay∧aW≤db.k
theorem jA.sub{t bC:aC}{e ay:Env}{k bj:Nat}{ex:Exit}{st:aO}(h:jA G N B M bC ay bj ex st)(ag:run M t e=run M bC ay)(aZ:bW k e ay)(aj:k≤bj):jA G N B M t e k ex st:=by
 obtain⟨x,db,bd,aa,ae,au,aP,bE,cF,dZ⟩:=h
 exact⟨x,db,bd,ag.trans aa,ae,au,aP,bE,bW.trans aZ cF aj,Nat.le_trans aj dZ⟩
theorem TT{x:bZ}{ex:Exit}(h:AZ x ex)(n:Nat):x.bS n=false:=by
 cases x with
 |lq m=>cases ex<;>cases h
 |_=>rfl
def fO(P:Program)(G:a7)(M:List aQ)(inl:Nat→List ab→ao→aC):Prop:=
 ∀f as (S:ao) e,S.cr→ab.cK S.k as=true→S.ct e→(inl f as S).safe M e→
  dF P G f (ab.bP G e as) (cx G e S.h) S.n fun r bU=>∃C ay,run M (inl f as S) e=some (.ch,C,ay)∧r=(C.at 0).den G ay∧bU=cx G ay C.h∧C.cr∧C.ct ay∧bW S.k e ay∧S.k≤C.k
theorem zgn{e:Env}{k:Nat}{x:bJ}(h:Env.at e k=x.den M e): ∀c∈xQ k x,c.ok e:=fun c hc=>by
 unfold xQ at hc
 split at hc
 ·rw[List.mem_singleton]at hc;subst hc;exact h
 ·rw[List.mem_singleton]at hc;subst hc;exact h
 ·rw[List.mem_singleton]at hc;subst hc;exact h
 ·rw[List.mem_singleton]at hc;subst hc;exact h
 ·rw[List.mem_singleton]at hc;subst hc;exact h
 ·cases hc
theorem zgo{k:Nat}{x:bJ}(h:x.lt k=true):fj (k+1) (xQ k x)=true:=by
 have ad:Nat.blt k (k+1)=true:=jR (Nat.lt_succ_self k)
 unfold xQ
 split
 ·simp only[fj,b4.lt,ad,gD (Nat.le_succ k) (x:=_) h,Bool.and_self]
 ·simp only[fj,b4.lt,ad,gD (Nat.le_succ k) (x:=_) h,Bool.and_self]
 ·simp only[fj,b4.lt,ad,gD (Nat.le_succ k) (x:=_) h,Bool.and_self]
 ·simp only[bJ.lt,Bool.and_eq_true]at h
  simp only[fj,b4.lt,ad,gD (Nat.le_succ k) h.1,gD (Nat.le_succ k) h.2,Bool.and_self]
 ·simp only[bJ.lt,Bool.and_eq_true]at h
  simp only[fj,b4.lt,ad,gD (Nat.le_succ k) h.1,gD (Nat.le_succ k) h.2,Bool.and_self]
 ·rfl
theorem TU{k:Nat}: ∀{a b:List b4},fj k a=true→fj k b=true→fj k (a++b)=true
 |[],_,_,h=>h
 |c::a,b,h,h'=>by
  simp only[fj,Bool.and_eq_true]at h;simp only[List.cons_append,fj,h.1,TU h.2 h',Bool.and_self]
theorem TV{e:Env}: ∀{xs:List bJ} {k:Nat} {g:List b4},(∀c∈g,c.ok e)→(∀(j:Nat) (x:bJ),xs[j]? =some x→Env.at e (k+j)=x.den M e)→∀c∈xR k xs g,c.ok e
 |[],_,_,h,_=>h
 |x::r,k,g,h,hx=>by
  refine TV (xs:=r) (k:=k+1) (fun c hc=>?_) fun j y ax=>?_
  ·rcases List.mem_append.1 hc with hc|hc
   ·exact zgn (hx 0 x (by simp)) c hc
   ·exact h c hc
  ·have:=hx (j+1) y (by simpa using ax)
   rw[show k+1+j=k+(j+1)by omega];exact this
theorem TW: ∀{xs:List bJ} {k:Nat} {g:List b4},hv k xs=true→fj k g=true→fj (k+xs.length) (xR k xs g)=true
 |[],_,_,_,h=>h
 |x::r,k,g,aq,h=>by
  simp only[hv,Bool.and_eq_true]at aq
  have:=TW (xs:=r) (k:=k+1) (g:=xQ k x++g) aq.2 (TU (zgo aq.1) (n9 (Nat.le_succ k) h))
  rw[List.length_cons,show k+(r.length+1)=k+1+r.length by omega]
  exact this
theorem r7{S:ao}{e:Env}{xs:List bJ}(ad:S.cr)(hf:S.ct e)(aq:hv S.k xs=true):
 (S.e1 S.k xs).cr∧(S.e1 S.k xs).ct (de M e S.k xs)∧(S.e1 S.k xs).den G N B (de M e S.k xs)=S.den G N B e:=by
 have aZ:bW S.k e (de M e S.k xs):=jS (Nat.le_refl _)
 refine⟨⟨fun i x hx=>gD (Nat.le_add_right _ _) (ad.l i x hx),tj (Nat.le_add_right _ _) ad.h,TW aq ad.g⟩,TV (ij aZ ad.g hf) (jy aq),?_⟩
 exact(lu aZ ad:S.den G N B (de M e S.k xs)=S.den G N B e)
theorem jc{S:ao}{dst:Option Nat}{v:ab}(ad:S.cr)(aw:v.lt S.k=true):(S.put dst v).cr:=by
 cases dst with
 |none=>exact ad
 |some d=>
  refine⟨fun i x hx=>?_,ad.h,ad.g⟩
  simp only[ao.put,a8.hZ]at hx
  split at hx
  ·cases hx;exact aw
  ·exact ad.l i x hx
theorem A0{e:Env}{f:gF}{x:ab}{j:Nat}: ∀{l:List b4},AY f x l=some j→(∀c∈l,c.ok e)→Env.at e j=⟨f.c,f.den (x.az e f.a)⟩
 | .d1 i g y::r,h,hc=>by
  simp only[AY]at h
  split at h
  ·rename_i ad
   cases h;simp only[Bool.and_eq_true,decide_eq_true_eq]at ad
   have:=hc (.d1 j g y) (by simp)
   simp only[b4.ok]at this;rw[this,ad.1,e0 ad.2]
  ·exact A0 h fun c hm=>hc c (by simp[hm])
 | .d2 _ _ _ _::r,h,hc=>A0 (l:=r) h fun c hm=>hc c (by simp[hm])
 | .rg _ _::r,h,hc=>A0 (l:=r) h fun c hm=>hc c (by simp[hm])
 | .dT _ _::r,h,hc=>A0 (l:=r) h fun c hm=>hc c (by simp[hm])
theorem zgp{S:ao}{r:dr}{t:aU}{j:Nat}{e:Env}(h:MD S r=some (t,j))(hf:S.ct e)(aq:hv S.k r.xs=true):(ab.aT t j).den G e=r.v.den G (de M e S.k r.xs)∧Nat.blt j S.k=true∧r.ns=[]:=by
 unfold MD at h
 split at h
 ·rename_i f x bC k hx hn aw
  split at h
  ·rename_i aj
   split at h
   ·rename_i zj2 af
    split at h
    ·rename_i bG
     cases h;refine⟨?_,bG,hn⟩
     have aa:=A0 af hf
     have ae:=jy (M:=M) (e:=e) aq 0 (.f1 f x) (by rw[hx];rfl)
     rw[Nat.add_zero]at ae;rw[aw,Nat.eq_of_beq_eq_true aj];simp only[ab.den];rw[aa,ae]
     have zgq:x.lt S.k=true:=by
      rw[hx]at aq;simp only[hv,bJ.lt,Bool.and_eq_true]at aq;exact aq.1
     simp only[bJ.den];rw[eE (jS (Nat.le_refl _)) zgq]
    ·cases h
   ·cases h
  ·cases h
 ·cases h
theorem zgr{S:ao}{r:dr}{v:ab}{e:Env}(h:ME S r=some v)(aq:hv S.k r.xs=true):v.den G e=r.v.den G (de M e S.k r.xs)∧v.lt S.k=true∧r.ns=[]:=by
 unfold ME at h
 split at h
 ·rename_i f a b t k hx hn aw
  split at h
  ·rename_i aj
   simp only[Bool.and_eq_true]at aj
   have ae:=jy (M:=M) (e:=e) aq 0 _ (by rw[hx];rfl)
   rw[Nat.add_zero]at ae;rw[aw,Nat.eq_of_beq_eq_true aj.1,hr aj.2];unfold TR at h
   split at h<;>first|cases h|skip
   all_goals
    refine⟨?_,rfl,hn⟩
    simp only[ab.den,ae,bJ.den,cA,ab.az,ab.fq,ab.dyn,cC.den];rfl
  ·cases h
 ·cases h
theorem jd{S:ao}{dst:Option Nat}{v:ab}{e:Env}(hf:S.ct e):(S.put dst v).ct e:=by
 cases dst<;>exact hf
theorem je{S:ao}{dst:Option Nat}{v:ab}:(S.put dst v).k=S.k:=by cases dst<;>rfl
end
end Go.aK
namespace Go.aK
open Go
section
variable {P:Program} {G:a7} {N B:Nat} {M:List aQ} {T:List (Nat × bK)} {inl:Nat→List ab→ao→aC}
theorem cu.zgs{ops:Array Oper}{o:Oper}{rest:List Oper}{s:aO}{Q:Exit→aO→Prop}{A:aO→Prop}(ah:dN ops s o=some true)
 (h: ∀(E:Entry) (a:Act) (w:World),Rel E G s a w→∀(K:Act→World→Prop) (Q:Exit→Act→World→Prop),(∀t,A t→∀bb w',Rel E G t bb w'→K bb w')→o.wp P a w K Q)(k: ∀t,A t→cu P G ops Q rest t):cu P G ops Q (o::rest) s:=
 fun E a w ag=>wpList_step fun _ hK=>by
  have ax:=n1 ag ah
  simp only[ax,if_true];exact h E a w ag _ _ fun t aG bb w' dW=>hK bb w' (k t aG E bb w' dW)
mutual
theorem E3{n:Nat}{e:Env}: ∀{x:ab},ab.r5 n x=true→gA n (x.den G e)=true:=fun {x} h=>by
 cases x with
 |cg l=>simp only[ab.den,gA];exact xV (l:=l) h
 |tp l=>simp only[ab.den,gA];exact xV (l:=l) h
 |fn f a b=>
  simp only[ab.r5,Bool.and_eq_true]at h;simp only[ab.den,gA,xV h.1,xV h.2,Bool.and_self]
 |ed k o=>simp only[ab.den,gA];exact decide_eq_true (e6 h)
 |gM k x o=>simp only[ab.den,gA];exact decide_eq_true (e6 (i:=k) h)
 |gW k o x n=>simp only[ab.den,gA];exact decide_eq_true (e6 (i:=k) h)
 |cB k n=>simp only[ab.den,gA];exact decide_eq_true (e6 (i:=k) h)
 |fi g i o=>
  cases i with
  |none=>simp only[ab.den];cases g.az e .bool<;>rfl
  |some k=>
   have aa:decide (k<n)=true:=decide_eq_true (e6 (i:=k) h)
   simp only[ab.den];cases g.az e .bool
   ·rfl
   ·exact aa
 |aN k=>simp only[ab.den,gA];exact decide_eq_true (e6 h)
 |gY k=>simp only[ab.den,gA];exact decide_eq_true (e6 h)
 |fI g b x=>
  have:gA n (x.den G e)=true:=E3 h
  simp only[ab.den]
  cases g.az e .bool<;>cases b<;>first|exact this|rfl
 |lQ g o=>simp only[ab.den];cases G g<;>rfl
 |_=>rfl
theorem xV{n:Nat}{e:Env}: ∀{l:List ab},ab.tx n l=true→la n (ab.bP G e l)=true:=fun {l} h=>by
 match l with
 |[]=>rfl
 |x::r=>
  simp only[ab.tx,Bool.and_eq_true]at h;simp only[ab.bP,la,E3 h.1,xV h.2,Bool.and_self]
end
theorem xW{n:Nat}{e:Env}: ∀{h:List (Nat × bF)},oe n h=true→lb n (cx G e h)=true
 |[],_=>rfl
 |(id,.di t l)::r,h=>by
  simp only[oe,Bool.and_eq_true]at h;simp only[cx,bF.den,lb,xW h.2.2,xV h.2.1,decide_eq_true (e6 h.1),Bool.and_self]
 |(id,.rw t c x)::r,h=>by
  simp only[oe,Bool.and_eq_true]at h;simp only[cx,bF.den,lb,xW h.2,decide_eq_true (e6 h.1),Bool.and_self]
 |(id,.it q x p)::r,h=>by
  simp only[oe,Bool.and_eq_true]at h;simp only[cx,bF.den,lb,xW h.2,decide_eq_true (e6 h.1),Bool.and_self]
theorem TX: ∀{h:List (Nat × bF)} {id:Nat} {o:bF},c9 h id=some o→(id,o)∈h
 |(i,p)::r,id,o,h=>by
  simp only[c9]at h
  split at h
  ·rename_i ad
   cases h;rw[Nat.eq_of_beq_eq_true ad];simp
  ·exact List.mem_cons_of_mem _ (TX h)
theorem zgt{n:Nat}{aL:List (Nat × bF)}{e ay:Env}: ∀{h:List (Nat × bF)},AV n aL h=true→∀id o,id<n→aE (cx G ay h) id=some o→∃cz,aE (cx G e aL) id=some cz∧Ez cz o:=by
 have key: ∀{h:List (Nat × bF)},AV n aL h=true→∀id pA,(id,pA)∈h→id<n→∃cz,c9 aL id=some cz∧bF.kind cz pA=true:=by
  intro h
  induction h with
  |nil=>intro _ _ _ hm;cases hm
  |cons p r aX=>
   obtain⟨j,q⟩:=p;intro aj id pA hm bG;simp only[AV,Bool.and_eq_true]at aj
   rcases List.mem_cons.1 hm with he|he
   ·cases he
    have aa:=aj.1
    rw[jR bG]at aa;simp only at aa
    split at aa
    ·rename_i cz an;exact⟨cz,an,aa⟩
    ·cases aa
   ·exact aX aj.2 id pA he bG
 intro h aj id o bG ah
 rw[eh]at ah
 cases ai:c9 h id with
 |none=>rw[ai]at ah;cases ah
 |some pA=>
  rw[ai]at ah;cases ah;obtain⟨cz,aa,ae⟩:=key aj id pA (TX ai) bG;refine⟨cz.den G e,by rw[eh,aa];rfl,?_⟩
  cases cz<;>cases pA<;>first|trivial|(cases ae;done)|exact Nat.eq_of_beq_eq_true ae
mutual
theorem tC(id:Nat){k:Nat}: ∀{x:ab},x.lt k=true→(x.kill id).lt k=true:=fun {x} h=>by
 cases x with
 |cg l=>exact tD id (l:=l) h
 |tp l=>exact tD id (l:=l) h
 |fn f a b=>
  simp only[ab.lt,Bool.and_eq_true]at h;simp only[ab.kill,ab.lt,Bool.and_eq_true];exact⟨tD id h.1,tD id h.2⟩
 |fI g b x=>
  simp only[ab.lt,Bool.and_eq_true]at h;simp only[ab.kill,ab.lt,Bool.and_eq_true];exact⟨h.1,tC id h.2⟩
 |ed j o=>simp only[ab.kill];split<;>first|rfl|exact h
 |gM j x o=>simp only[ab.kill];split<;>first|rfl|exact h
 |gW j o x n=>simp only[ab.kill];split<;>first|rfl|exact h
 |cB j n=>simp only[ab.kill];split<;>rfl
 |fi g i o=>
  cases i with
  |none=>exact h
  |some j=>simp only[ab.kill];split<;>exact h
 |aN j=>simp only[ab.kill];split<;>first|rfl|exact h
 |gY j=>simp only[ab.kill];split<;>first|rfl|exact h
 |_=>exact h
theorem tD(id:Nat){k:Nat}: ∀{l:List ab},ab.cK k l=true→ab.cK k (ab.ef id l)=true:=fun {l} h=>by
 match l with
 |[]=>rfl
 |x::r=>
  simp only[ab.cK,Bool.and_eq_true]at h;simp only[ab.ef,ab.cK,Bool.and_eq_true];exact⟨tC id h.1,tD id h.2⟩
end
theorem TY{S:ao}{o:Oper}{r:da}{e:Env}(ad:S.cr)(hf:S.ct e)(aq:hv S.k r.xs=true)(aw:r.v.lt (S.k+r.xs.length)=true)(ba:eG (S.k+r.xs.length) r.h=true):
 ((r.st S o.dst).e1 S.k r.xs).cr∧((r.st S o.dst).e1 S.k r.xs).ct (de M e S.k r.xs):=by
 obtain⟨b5,a2,_⟩:=r7 (M:=M) (G:=fun _=>none) (N:=0) (B:=0) ad hf aq
 have ah:(r.st S o.dst).g=S.g:=by unfold da.st;cases o.dst<;>rfl
 refine⟨⟨fun i x hx=>?_,?_,?_⟩,?_⟩
 ·have hx:(r.st S o.dst).l.get i=some x:=hx
  show x.lt (S.k+r.xs.length)=true
  have base: ∀x,(r.l S.l).get i=some x→x.lt (S.k+r.xs.length)=true:=fun x hx=>by
   unfold da.l at hx
   split at hx
   ·exact gD (Nat.le_add_right _ _) (ad.l i x hx)
   ·rw[a8.get_map]at hx
    cases aH:S.l.get i with
    |none=>rw[aH]at hx;cases hx
    |some y=>
     rw[aH]at hx;cases hx;exact tC _ (gD (Nat.le_add_right _ _) (ad.l i y aH))
  unfold da.st at hx
  cases hd:o.dst with
  |none=>rw[hd]at hx;exact base x hx
  |some d=>
   rw[hd]at hx;simp only[ao.put,a8.hZ]at hx
   split at hx
   ·cases hx;exact aw
   ·exact base x hx
 ·have:((r.st S o.dst).e1 S.k r.xs).h=r.h:=by unfold da.st ao.e1;cases o.dst<;>rfl
  rw[this];exact ba
 ·show fj (S.k+r.xs.length) (xR S.k r.xs (r.st S o.dst).g)=true
  rw[ah];exact b5.g
 ·show ∀c∈xR S.k r.xs (r.st S o.dst).g,_
  rw[ah];exact a2
theorem A1{k:Nat}: ∀{a b:List ab},ab.cK k a=true→ab.cK k b=true→ab.cK k (a++b)=true
 |[],_,_,h=>h
 |x::a,b,h,h'=>by
  simp only[ab.cK,Bool.and_eq_true]at h;simp only[List.cons_append,ab.cK,h.1,A1 h.2 h',Bool.and_self]
theorem MG{k:Nat}{x:ab}(hx:x.lt k=true): ∀{l:List ab} {i:Nat},ab.cK k l=true→ab.cK k (l.set i x)=true
 |[],_,h=>h
 |y::l,0,h=>by simp only[ab.cK,Bool.and_eq_true,List.set]at h⊢;exact⟨hx,h.2⟩
 |y::l,i+1,h=>by simp only[ab.cK,Bool.and_eq_true,List.set]at h⊢;exact⟨h.1,MG hx h.2⟩
theorem E4{k:Nat}{o:bF}(an:o.lt k=true): ∀{l:List (Nat × bF)} {i:Nat},eG k l=true→eG k (ju l i o)=true
 |[],_,_=>by simp only[ju,eG,an,Bool.and_self]
 |(j,x)::l,i,h=>by
  simp only[eG,Bool.and_eq_true]at h;simp only[ju]
  split
  ·simp only[eG,Bool.and_eq_true];exact⟨an,h.2⟩
  ·simp only[eG,Bool.and_eq_true];exact⟨h.1,E4 an h.2⟩
theorem vH{k id:Nat}{o:bF}: ∀{l:List (Nat × bF)},eG k l=true→c9 l id=some o→o.lt k=true
 |[],_,h=>by cases h
 |(j,x)::l,aq,h=>by
  simp only[eG,Bool.and_eq_true]at aq;simp only[c9]at h
  split at h
  ·cases h;exact aq.1
  ·exact vH aq.2 h
theorem MH{e:Env}{x:ab}: ∀{l:List ab} {i:Nat},ab.bP G e (l.set i x)=(ab.bP G e l).set i (x.den G e)
 |[],_=>rfl
 |y::l,0=>rfl
 |y::l,i+1=>by simp only[List.set,ab.bP,MH (l:=l)]
theorem og(id:Nat){k:Nat}: ∀{h:List (Nat × bF)},eG k h=true→eG k (ht id h)=true
 |[],h=>h
 |(j,.di t l)::r,h=>by
  simp only[eG,Bool.and_eq_true]at h;unfold ht
  split
  ·exact og id h.2
  ·simp only[eG,Bool.and_eq_true]
   exact⟨tD id h.1,og id h.2⟩
 |(j,.rw t c x)::r,h=>by
  simp only[eG,Bool.and_eq_true]at h;unfold ht
  split
  ·exact og id h.2
  ·simp only[eG,Bool.and_eq_true]
   exact⟨h.1,og id h.2⟩
 |(j,.it q x p)::r,h=>by
  simp only[eG,Bool.and_eq_true]at h;unfold ht
  split
  ·exact og id h.2
  ·simp only[eG,Bool.and_eq_true]
   exact⟨h.1,og id h.2⟩
theorem zgu{id off k m:Nat}{C:ao}{e:Env}(ad:C.cr)(hf:C.ct e):(xT B id off k m C).cr∧(xT B id off k m C).ct e∧(xT B id off k m C).k=C.k∧cm (C.den G N B e) ((xT B id off k m C).den G N B e):=by
 unfold xT
 split
 ·rename_i t l gN c x ah hm
  split
  ·rename_i hc
   simp only[Bool.and_eq_true,Bool.not_eq_true']at hc;obtain⟨aV,⟨dp,c7⟩,gi⟩:=hc;refine⟨⟨fun i y ax=>?_,E4 (o:=.di t _) (MG (x:=.aN k) rfl (tD _ (tD _ (vH (o:=.di t l) ad.h ah)))) ?_,ad.g⟩,hf,rfl,?_⟩
   ·simp only[a8.get_map]at ax
    cases aH:C.l.get i with
    |none=>rw[aH]at ax;cases ax
    |some z=>
     rw[aH]at ax;simp only[Option.map_some,Option.some.injEq]at ax;subst ax;exact tC _ (tC _ (ad.l i z aH))
   ·have aa:=vH (o:=.rw gN c x) ad.h hm
    have ae:=og k (og m ad.h)
    simp only[eG,Bool.and_eq_true];exact⟨aa,ae⟩
   ·refine cm.zfR id off m k gN (bY c) (t:=t) (cs:=ab.bP G e l) (es:=List.map (b9 c) (x.az e (.li c))) (by simp only[ao.den,eh,ah,Option.map_some,bF.den]) (by simp only[ao.den,eh,hm,Option.map_some,bF.den]) ?_ (Nat.le_of_ble_eq_true dp) (e6 c7) (Nat.ne_of_beq_eq_false gi) ?_
    ·rw[e5,List.getElem?_map]
     unfold E1 at aV
     split at aV
     ·rename_i aq
      rw[aq]
      have:=Nat.eq_of_beq_eq_true aV
      subst this;rfl
     ·cases aV
    ·simp only[ao.den,xM,ti,cx,bF.den,px,MH,vA,ab.den]
  ·exact⟨ad,hf,rfl,cm.refl _⟩
 ·exact⟨ad,hf,rfl,cm.refl _⟩
theorem zgv{S C:ao}{e:Env}(ad:C.cr)(hf:C.ct e):(vF B S C).cr∧(vF B S C).ct e∧(vF B S C).k=C.k∧cm (C.den G N B e) ((vF B S C).den G N B e):=by
 unfold vF
 split
 ·exact zgu ad hf
 ·exact⟨ad,hf,rfl,cm.refl _⟩
theorem cm.tz{s bo:aO}(d m k gN n:Nat){es:List (List a1)}(hm:aE s.heap m=some (.row false gN n es))(hc:s.cR[d]? =some (.aN m))(ad:s.base≤k)(bG:k<s.next)
 (h:(aO.put ⟨ef k (ef m s.cR),(k,.row false gN n es)::du k (du m s.heap),s.next,s.base⟩ (some d) (.aN k):aO)=bo):cm s bo:=by
 subst h
 intro E G a w ⟨β,ro,ag⟩
 have LY:=ag.heap.c5 m _ hm
 have fc:=ag.Tp (w':=w) m k ad bG hm (.row false gN n es) (β m) rfl rfl rfl (Nat.le_refl _) (fun _ _ _=>rfl) (fun _ ad=>.inl ad) rfl (by
  cases LY with
  |row _ _ _ xs aa ae au=>exact .row gN n es xs (by rw[dR];exact aa) ae au)
 have aw:=ag.slot d _ hc
 have TZ:=fc.put (some d) (.aN k) (a.tmps.getD d undef) (by
  generalize a.tmps.getD d undef=bR at aw⊢
  cases aw with
  |aN _ _ _ ak=>
   refine .aN _ _ bG fun z bC cI dP _=>?_
   rw[ak _ _ _ _ hm]
   exact(dR _ _ _).symm)
 have aZ:a.put (some d) (a.tmps.getD d undef)=a:=by
  have hd:d<a.tmps.size:=by
   rw[ag.size];exact(List.getElem?_eq_some_iff.1 hc).1
  have:a.tmps.setIfInBounds d (a.tmps.getD d undef)=a.tmps:=by
   apply Array.ext
   ·simp
   ·intro i aa ae
    rw[Array.getElem_setIfInBounds]
    split
    ·rename_i hi
     subst hi;simp[Array.getD,hd]
    ·rfl
  show({a with tmps:=a.tmps.setIfInBounds d (a.tmps.getD d undef)}:Act)=a
  rw[this]
 rw[aZ]at TZ
 exact⟨_,ro,TZ⟩
theorem zgw{d k m:Nat}{C:ao}{e:Env}(hd:d<N)(ad:C.cr)(hf:C.ct e):(tz B d k m C).cr∧(tz B d k m C).ct e∧(tz B d k m C).k=C.k∧cm (C.den G N B e) ((tz B d k m C).den G N B e):=by
 unfold Go.aK.tz
 split
 ·rename_i gN c x hm
  split
  ·rename_i hc
   simp only[Bool.and_eq_true]at hc;obtain⟨aV,dp,c7⟩:=hc;refine⟨jc ⟨fun i y ax=>?_,?_,ad.g⟩ rfl,jd hf,je,?_⟩
   ·simp only[a8.get_map]at ax
    cases aH:C.l.get i with
    |none=>rw[aH]at ax;cases ax
    |some z=>
     rw[aH]at ax;simp only[Option.map_some,Option.some.injEq]at ax;subst ax;exact tC _ (tC _ (ad.l i z aH))
   ·have aa:=vH (o:=.rw gN c x) ad.h hm
    have ae:=og k (og m ad.h)
    simp only[eG,Bool.and_eq_true];exact⟨aa,ae⟩
   ·refine cm.tz d m k gN (bY c) (es:=List.map (b9 c) (x.az e (.li c))) (by simp only[ao.den,eh,hm,Option.map_some,bF.den]) ?_ (Nat.le_of_ble_eq_true dp) (e6 c7) ?_
    ·unfold E1 at aV
     split at aV
     ·rename_i aq
      have:=Nat.eq_of_beq_eq_true aV
      subst this;simp only[ao.den,n8,hd,if_true,Nat.zero_add,aq,ab.den]
     ·cases aV
    ·rw[fa]
     simp only[ao.den,xM,cx,bF.den,px,ab.den]
  ·exact⟨ad,hf,rfl,cm.refl _⟩
 ·exact⟨ad,hf,rfl,cm.refl _⟩
theorem zgx{S C:ao}{dst:Option Nat}{e:Env}(ad:C.cr)(hf:C.ct e):(vG B N S C dst).cr∧(vG B N S C dst).ct e∧(vG B N S C dst).k=C.k∧cm (C.den G N B e) ((vG B N S C dst).den G N B e):=by
 unfold vG
 split
 ·split
  ·split
   ·split
    ·rename_i hd
     exact zgw (e6 hd) ad hf
    ·exact⟨ad,hf,rfl,cm.refl _⟩
   ·exact⟨ad,hf,rfl,cm.refl _⟩
  ·exact⟨ad,hf,rfl,cm.refl _⟩
 ·exact⟨ad,hf,rfl,cm.refl _⟩
theorem T0{o:Oper}{S:ao}{e:Env}{f:Nat}{as:List ab}(h:AX P N S o=some (f,as))(hf:S.ct e)(ad:S.cr):
 ∃p q xs,ab.bP G e as=p++xs.toList.map (aI G (S.den G N B e))++q∧vv P G o (S.den G N B e) f p q xs∧ab.cK S.k as=true:=by
 have xX: ∀l:List Operand,ab.cK S.k (l.map (S.aY N))=true:=fun l=>by
  induction l with
  |nil=>rfl
  |cons y r aX=>simp only[List.map_cons,ab.cK,D8 ad y,aX,Bool.and_self]
 unfold AX at h
 split at h
 ·rename_i c Az
  obtain⟨callee,args,ts⟩:=c
  split at h
  ·rename_i x hx
   simp only at hx;subst hx
   split at h
   ·rename_i zj3 p q' vq
    cases h;refine⟨ab.bP G e p,ab.bP G e q',args,?_,.value Az (by rw[bH hf,vq];rfl),?_⟩
    ·rw[e5,e5,e5,List.map_append,List.map_append,List.map_map]
     congr 2
     exact List.map_congr_left fun y _=>(bH hf y).symm
    ·have fR:=D8 (N:=N) ad x
     rw[vq]at fR;simp only[ab.lt,Bool.and_eq_true]at fR;exact A1 (A1 fR.1 (xX _)) fR.2
   ·cases h
  ·rename_i x name hx
   simp only at hx;subst hx
   split at h
   ·rename_i t a rs l vq
    split at h
    ·rename_i g v hm aw gL
     cases h;refine⟨[v.den G e],[],args,?_,.invoke Az hm fun E a w β ro ag=>zfx hf vq aw (of_decide_eq_true gL) ag,?_⟩
     ·simp only[e5,List.map_append,List.map_map,List.map_cons,List.map_nil]
      congr 2
      exact List.map_congr_left fun y _=>(bH hf y).symm
     ·have fR:=D8 (N:=N) ad x
      rw[vq]at fR;exact A1 (A1 (by simp only[ab.cK,zfz fR aw,Bool.and_self]) (xX _)) rfl
    ·cases h
   ·cases h
  ·cases h
 ·cases h
theorem MI(bV:fO P G M inl){ops:Array Oper}{o:Oper}{r:List Oper}{S:ao}{k:ao→aC}{e:Env}{Q:Exit→aO→Prop}(ad:S.cr)(hf:S.ct e)(hw:dN ops (S.den G N B e) o=some true)(ai:(exec P N B T inl o S k).safe M e)
 (aj: ∀db ay,db.cr→db.ct ay→bW S.k e ay→S.k≤db.k→(k db).safe M ay→run M (exec P N B T inl o S k) e=run M (k db) ay→cu P G ops Q r (db.den G N B ay)):cu P G ops Q (o::r) (S.den G N B e):=by
 have iC:=ai
 unfold exec at iC
 split at iC
 ·rename_i q aw
  split at iC
  ·rename_i hc
   split at iC
   ·rename_i t j A2
    have gO:exec P N B T inl o S k=k (S.put o.dst (.aT t j)):=by unfold exec;rw[aw];simp only[hc,A2]
    simp only[Bool.and_eq_true]at hc;obtain⟨cJ,dH,yH⟩:=zgp (M:=M) (G:=G) A2 hf hc.1
    have bQ:bW S.k e (de M e S.k q.xs):=jS (Nat.le_refl _)
    have dC:=vt (G:=G) (B:=B) (M:=M) aw (de M e S.k q.xs) (ij bQ ad.g hf) (jy hc.1) (by rw[yH];intro n hn;cases hn)
    rw[lu bQ ad,←cJ]at dC
    have mV:(S.den G N B e).put o.dst ((ab.aT t j).den G e)=(S.put o.dst (.aT t j)).den G N B e:=by rw[fa]
    refine cu.step hw (mV ▸ dC.step) ?_
    exact aj _ e (jc ad dH) (jd hf) (bW.refl _ _) (by rw[je];exact Nat.le_refl _) iC (by rw[gO])
   rename_i A2
   split at iC
   ·rename_i v xF
    have gO:exec P N B T inl o S k=k (S.put o.dst v):=by unfold exec;rw[aw];simp only[hc,A2,xF]
    simp only[Bool.and_eq_true]at hc;obtain⟨cJ,dH,yH⟩:=zgr (M:=M) (G:=G) (e:=e) xF hc.1
    have bQ:bW S.k e (de M e S.k q.xs):=jS (Nat.le_refl _)
    have dC:=vt (G:=G) (B:=B) (M:=M) aw (de M e S.k q.xs) (ij bQ ad.g hf) (jy hc.1) (by rw[yH];intro n hn;cases hn)
    rw[lu bQ ad,←cJ]at dC
    have mV:(S.den G N B e).put o.dst (v.den G e)=(S.put o.dst v).den G N B e:=by rw[fa]
    refine cu.step hw (mV ▸ dC.step) ?_
    exact aj _ e (jc ad dH) (jd hf) (bW.refl _ _) (by rw[je];exact Nat.le_refl _) iC (by rw[gO])
   rename_i xF
   have gO:exec P N B T inl o S k=emit S.k q.xs q.ns (k ((S.e1 S.k q.xs).put o.dst q.v)):=by unfold exec;rw[aw];simp only[hc,A2,xF]
   simp only[Bool.and_eq_true]at hc;obtain⟨gU,gu⟩:=mF iC;obtain⟨b5,a2,a3⟩:=r7 (M:=M) (G:=G) (N:=N) (B:=B) ad hf hc.1
   have bQ:bW S.k e (de M e S.k q.xs):=jS (Nat.le_refl _)
   have dC:=vt (G:=G) (B:=B) (M:=M) aw (de M e S.k q.xs) (ij bQ ad.g hf) (jy hc.1) gU
   rw[lu bQ ad]at dC
   have mV:(S.den G N B e).put o.dst (q.v.den G (de M e S.k q.xs))=((S.e1 S.k q.xs).put o.dst q.v).den G N B (de M e S.k q.xs):=by rw[fa,a3]
   refine cu.step hw (mV ▸ dC.step) ?_
   exact aj _ _ (jc b5 hc.2) (jd a2) bQ (by rw[je];exact Nat.le_add_right _ _) gu (by rw[gO,lU])
  ·exact iC.elim
 ·rename_i aw
  split at iC
  ·rename_i q aH
   split at iC
   ·rename_i hc
    have gO:exec P N B T inl o S k=emit S.k q.xs q.ns (k ((q.st S o.dst).e1 S.k q.xs)):=by unfold exec;rw[aw,aH];simp only[hc]
    simp only[Bool.and_eq_true]at hc;obtain⟨gU,gu⟩:=mF iC
    have bQ:bW S.k e (de M e S.k q.xs):=jS (Nat.le_refl _)
    have dC:=TS (G:=G) (M:=M) aH (de M e S.k q.xs) (ij bQ ad.g hf) (jy hc.1) gU
    rw[lu bQ ad]at dC;obtain⟨cJ,dH⟩:=TY (M:=M) (o:=o) ad hf hc.1 hc.2.1 hc.2.2;refine cu.step hw dC ?_
    have rk:S.k≤((q.st S o.dst).e1 S.k q.xs).k:=Nat.le_add_right _ _
    exact aj ((q.st S o.dst).e1 S.k q.xs) _ cJ dH bQ rk gu (by rw[gO,lU])
   ·exact iC.elim
  ·rename_i aH
   split at iC
   ·rename_i q ql
    split at iC
    ·rename_i hc
     have gO:exec P N B T inl o S k=emit S.k q.xs [] (.it q.g (k (q.st S o.dst)) (k (q.xS S o.dst))):=by unfold exec;rw[aw,aH,ql];simp only[hc]
     simp only[qN.ok,Bool.and_eq_true]at hc;obtain⟨_,gu⟩:=mF iC
     have bQ:bW S.k e (de M e S.k q.xs):=jS (Nat.le_refl _)
     obtain⟨b5,a2,a3⟩:=r7 (M:=M) (G:=G) (N:=N) (B:=B) ad hf hc.1.1;obtain⟨cJ,dH⟩:=zgl (P:=P) (G:=G) (B:=B) ql (ij bQ ad.g hf) (jy hc.1.1);rw[lu bQ ad]at cJ dH
     have rk: ∀b,Nat.ble S.k (S.k+b)=true:=fun b=>Nat.ble_eq_true_of_le (Nat.le_add_right _ _)
     have cq:run M (exec P N B T inl o S k) e=run M (.it q.g (k (q.st S o.dst)) (k (q.xS S o.dst))) (de M e S.k q.xs):=by rw[gO,lU]
     have dT: ∀b,q.g.az (de M e S.k q.xs) .bool=b→∀c∈(b4.dT q.g b::(S.e1 S.k q.xs).g),c.ok (de M e S.k q.xs):=fun b ah c hm=>by
      rcases List.mem_cons.1 hm with rfl|hm
      ·exact ah
      ·exact a2 c hm
     cases ah:q.g.az (de M e S.k q.xs) .bool with
     |true=>
      refine cu.step hw (cJ ah) ?_
      have qO:(q.st S o.dst).cr:=TL (jc (S:={S.e1 S.k q.xs with h:=q.h,g:=.dT q.g true::(S.e1 S.k q.xs).g}) ⟨b5.l,hc.2.1,by simp only[fj,b4.lt,Bool.and_eq_true];exact⟨hc.1.2,b5.g⟩⟩ hc.2.2.1)
      have e7:(q.st S o.dst).ct (de M e S.k q.xs):=TM (jd (S:={S.e1 S.k q.xs with h:=q.h,g:=.dT q.g true::(S.e1 S.k q.xs).g}) (dT true ah))
      have hd:(ao.put {S with h:=q.h} o.dst q.v).den G N B (de M e S.k q.xs)=(q.st S o.dst).den G N B (de M e S.k q.xs):=by cases o.dst<;>rfl
      rw[hd];exact aj _ _ qO e7 bQ (by show S.k≤(ao.put _ _ _).k;rw[je];exact Nat.le_add_right _ _) (gu.1 ah) (by rw[cq,tB ah])
     |false=>
      refine cu.step hw (dH ah) ?_
      have qO:(q.xS S o.dst).cr:=TL (jc (S:={S.e1 S.k q.xs with g:=.dT q.g false::(S.e1 S.k q.xs).g}) ⟨b5.l,b5.h,by simp only[fj,b4.lt,Bool.and_eq_true];exact⟨hc.1.2,b5.g⟩⟩ hc.2.2.2)
      have e7:(q.xS S o.dst).ct (de M e S.k q.xs):=TM (jd (S:={S.e1 S.k q.xs with g:=.dT q.g false::(S.e1 S.k q.xs).g}) (dT false ah))
      have hd:(S.put o.dst q.bg).den G N B (de M e S.k q.xs)=(q.xS S o.dst).den G N B (de M e S.k q.xs):=by cases o.dst<;>rfl
      rw[hd];exact aj _ _ qO e7 bQ (by show S.k≤(ao.put _ _ _).k;rw[je];exact Nat.le_add_right _ _) (gu.2 ah) (by rw[cq,tB ah])
    ·exact iC.elim
   rename_i ql
   split at iC
   ·rename_i f as vc
    split at iC
    ·rename_i gB
     have gO:exec P N B T inl o S k=iL N S ((inl f as S).eI (AW S o.dst) none) fun C=>k (vG B N S (vF B S C) o.dst):=by unfold exec;rw[aw,aH,ql,vc];simp only[gB]
     obtain⟨t1,_,t3⟩:=EU (G:=G) (B:=B) ad hf iC;obtain⟨g1,g2,g3⟩:=jf (inl f as S) none t1;obtain⟨p,q',args,mV,vw,bG⟩:=T0 (G:=G) (B:=B) vc hf ad
     have ho:=bV f _ S e ad bG hf g1
     rw[mV]at ho
     refine cu.zgs (A:=fun t=>∃C ay,run M (inl f as S) e=some (.ch,C,ay)∧C.cr∧C.ct ay∧bW S.k e ay∧S.k≤C.k∧EZ S C=true∧t=(S.back o.dst C).den G N B ay) hw
      (zfE vw gB ho fun r bU ⟨C,ay,aV,dp,c7,gi,iN,kC,jH⟩=>?_) fun t ⟨C,ay,aV,gi,iN,kC,jH,bf,aG⟩=>?_
     ·have ah:=(g3 C ay aV).1
      have bf:EZ S C=true:=by
       unfold AW at ah
       split at ah
       ·assumption
       ·exact ah.elim
      have et:=bf
      simp only[EZ,Bool.and_eq_true]at et;refine⟨C.n,Nat.le_of_ble_eq_true et.2.1,?_,?_,?_,C,ay,aV,gi,iN,kC,jH,bf,?_⟩
      ·rw[dp];exact E3 et.1.1
      ·rw[c7];exact xW et.1.2
      ·rw[c7];exact zgt et.2.2
      ·rw[dp,c7,ao.back,fa]
       have:=lu (G:=G) (N:=N) (B:=B) kC ad
       have qk:kc G ay S.l 0 N=kc G e S.l 0 N:=congrArg aO.cR this
       simp only[ao.den,qk]
     ·subst aG
      have ah:=(g3 C ay aV)
      have cq:run M ((inl f as S).eI (AW S o.dst) none) e=some (.ch,S.back o.dst C,ay):=by
       rw[g2,aV];simp only[iA,AW,bf];rfl
      have qO:(S.back o.dst C).cr:=by
       unfold ao.back;refine jc ⟨fun i x hx=>gD jH (ad.l i x hx),gi.h,gi.g⟩ ?_
       show(C.at 0).lt C.k=true;unfold ao.at
       cases hC:C.l.get 0 with
       |none=>rfl
       |some y=>exact gi.l 0 y hC
      obtain⟨dO,bd,s1,s2,kv,ky,kz,kA,kW⟩:=t3 _ _ cq qO (jd iN) kC (by unfold ao.back;rw[je];exact jH)
      obtain⟨gU,gu,MJ,zgy⟩:=zgv (G:=G) (N:=N) (B:=B) (S:=S) s2 kv;obtain⟨dG,eQ,zgz,zgA⟩:=zgx (G:=G) (N:=N) (B:=B) (S:=S) (dst:=o.dst) gU gu;exact cu.le (cm.trans s1 (cm.trans zgy zgA)) (aj _ bd dG eQ ky (by rw[zgz,MJ];exact kz) kA (by rw[gO,kW]))
    ·exact iC.elim
   ·exact iC.elim
def T1(G:a7)(N B:Nat)(ops:Array Oper)(o:Oper)(S:ao)(e:Env):EX→Prop
 | .yes=>dN ops (S.den G N B e) o=some true
 | .no=>dN ops (S.den G N B e) o=some false
 | .on gs=>(fM e gs=true→dN ops (S.den G N B e) o=some true)∧(fM e gs=false→dN ops (S.den G N B e) o=some false)
 | .bad=>True
def qP(b:Bool):aD→Option Bool
 | .av (.v (.bool c))=>some (c==b)
 | .tuple _=>some false
 |_=>none
def E5(G:a7)(b:Bool)(e:Env)(v:ab):EX→Prop
 | .yes=>qP b (v.den G e)=some true
 | .no=>qP b (v.den G e)=some false
 | .on gs=>(fM e gs=true→qP b (v.den G e)=some true)∧(fM e gs=false→qP b (v.den G e)=some false)
 | .bad=>True
theorem T2{a b:Bool}(h:a=b):(a==b)=true:=by cases a<;>cases b<;>first|rfl|cases h
theorem T3{a b:Bool}(h: ¬a=b):(a==b)=false:=by cases a<;>cases b<;>first|rfl|exact absurd rfl h
theorem lx{l:List b4}{b:Bool}{e:Env}(hf: ∀c∈l,c.ok e)(g:ab):E5 G b e g (match g.rt,lr g l with
 |some .bool,some c=>match decide (c=b)with
  |true=>.yes
  |false=>.no
 |some .bool,none=>.on [(g,b)]
 |_,_=>.bad):=by
 split
 ·rename_i c aa ae
  have aj:=qE ae hf
  have hd:=fX (G:=G) (e:=e) aa
  rw[aj]at hd
  cases gB:decide (c=b)with
  |true=>show qP b (g.den G e)=some true;rw[hd];exact congrArg some (T2 (of_decide_eq_true gB))
  |false=>show qP b (g.den G e)=some false;rw[hd];exact congrArg some (T3 (of_decide_eq_false gB))
 ·rename_i aa ae
  have hd:=fX (G:=G) (e:=e) aa
  simp only[E5,fM,Bool.and_true];rw[hd];exact⟨fun h=>congrArg some h,fun h=>congrArg some h⟩
 ·trivial
theorem xY{h:ab}{c:Bool}{v:ab}{e:Env}(hc:h.az e .bool=c):(ab.fI h c v).den G e=v.den G e:=by
 simp only[ab.den,hc];cases c<;>rfl
theorem T4{h:ab}{c:Bool}{v:ab}{e:Env}(hc:h.az e .bool= !c):(ab.fI h c v).den G e= .tuple []:=by
 simp only[ab.den,hc];cases c<;>rfl
theorem T5{l:List b4}{b:Bool}{e:Env}(hf: ∀c∈l,c.ok e): ∀v:ab,E5 G b e v (vE l b v)
 | .fI h c v=>by
  have aX:=T5 (b:=b) hf v
  have MK:h.az e .bool≠c→qP b ((ab.fI h c v).den G e)=some false:=fun hn=>by
   rw[T4 (by cases ba:h.az e .bool<;>cases c<;>first|rfl|exact absurd ba hn)]
   rfl
  simp only[vE]
  split
  ·cases ah:vE l b v with
   |yes=>
    rw[ah]at aX;refine⟨fun aZ=>?_,fun aZ=>?_⟩
    ·simp only[fM,Bool.and_true,beq_iff_eq]at aZ
     rw[xY aZ];exact aX
    ·simp only[fM,Bool.and_true,beq_eq_false_iff_ne]at aZ
     exact MK aZ
   |no=>
    rw[ah]at aX;show qP b _=some false
    by_cases ba:h.az e .bool=c
    ·rw[xY ba];exact aX
    ·exact MK ba
   |on gs=>
    rw[ah]at aX;refine⟨fun aZ=>?_,fun aZ=>?_⟩
    ·simp only[fM,Bool.and_eq_true,beq_iff_eq]at aZ
     rw[xY aZ.1];exact aX.1 aZ.2
    ·by_cases ba:h.az e .bool=c
     ·rw[xY ba]
      refine aX.2 ?_
      simp only[fM,ba,beq_self_eq_true,Bool.true_and]at aZ;exact aZ
     ·exact MK ba
   |bad=>trivial
  ·trivial
 | .cs x=>by
  unfold vE
  split
  ·rename_i c heq
   cases heq
   cases gB:decide (c=b)with
   |true=>exact congrArg some (T2 (of_decide_eq_true gB))
   |false=>exact congrArg some (T3 (of_decide_eq_false gB))
  ·rename_i heq;cases heq
  ·rename_i heq;cases heq
  ·exact lx hf _
 | .tp l=>rfl
 | .aT r i=>lx hf (.aT r i)
 | .fd c i k r=>lx hf (.fd c i k r)
 | .ip c i k=>lx hf (.ip c i k)
 | .cg l=>lx hf (.cg l)
 | .ed i o=>lx hf (.ed i o)
 | .gM i x o=>lx hf (.gM i x o)
 | .aN i=>lx hf (.aN i)
 | .fn f a b=>lx hf (.fn f a b)
 | .gY i=>lx hf (.gY i)
 | .lQ g o=>lx hf (.lQ g o)
 | .gW i o x n=>lx hf (.gW i o x n)
 | .cB i n=>lx hf (.cB i n)
 | .fi g i o=>lx hf (.fi g i o)
 | .er t a rs l=>lx hf (.er t a rs l)
 | .top=>lx hf .top
theorem ML{ops:Array Oper}{o:Oper}{S:ao}{e:Env}(hf:S.ct e):T1 G N B ops o S e (guardOf N ops S o):=by
 unfold guardOf
 cases ah:o.guard with
 |none=>simp only[T1,dN,ah]
 |some Ky=>
  obtain⟨j,b⟩:=Ky;simp only
  cases hd:ml ops j with
  |none=>trivial
  |some d=>
   simp only
   cases gT:Nat.blt d N with
   |false=>trivial
   |true=>
    have bG:d<N:=e6 gT
    have ag:=La (G:=G) hf (x:=S.at d)
    have hc:=T5 (G:=G) (b:=b) hf ((S.at d).res S.g)
    rw[E5.eq_def]at hc
    have key: ∀q,qP b (((S.at d).res S.g).den G e)=some q→dN ops (S.den G N B e) o=some q:=fun q h=>by
     rw[ag]at h;simp only[dN,ah,hd,vj,if_pos bG];generalize (S.at d).den G e=v at h;unfold qP at h
     split at h
     ·rename_i c
      cases h
      cases b<;>cases c<;>rfl
     ·cases h;rfl
     ·cases h
    simp only;generalize vE S.g b ((S.at d).res S.g)=fI at hc
    cases fI with
    |yes=>exact key _ hc
    |no=>exact key _ hc
    |on gs=>exact⟨fun h=>key _ (hc.1 h),fun h=>key _ (hc.2 h)⟩
    |bad=>trivial
end
end Go.aK
namespace Go.aK
open Go
section
variable {P:Program} {G:a7} {N B:Nat} {M:List aQ} {T:List (Nat × bK)} {inl:Nat→List ab→ao→aC}
theorem A3{S:ao}{g:ab}{b:Bool}(ad:S.cr)(ah:g.lt S.k=true):({S with g:=.dT g b::S.g}:ao).cr:=
 ⟨ad.l,ad.h,by
  show(b4.lt S.k (.dT g b)&&fj S.k S.g)=true;rw[ad.g,Bool.and_true]
  exact ah⟩
theorem A4{S:ao}{g:ab}{b:Bool}{e:Env}(hf:S.ct e)(ah:g.az e .bool=b):({S with g:=.dT g b::S.g}:ao).ct e:=fun c hc=>by
 rcases List.mem_cons.1 hc with rfl|hc
 ·exact ah
 ·exact hf c hc
theorem MM{a b:Bool}(h: ¬a=b):a= !b:=by cases a<;>cases b<;>first|rfl|exact absurd rfl h
theorem T6{g:ab}{b:Bool}{x y:aC}{e:Env}(h:g.az e .bool=b):run M (E2 g b x y) e=run M x e:=by
 cases b<;>exact tB h
theorem zgB{g:ab}{b:Bool}{x y:aC}{e:Env}(h:g.az e .bool= !b):run M (E2 g b x y) e=run M y e:=by
 cases b<;>exact tB h
theorem zgC{g:ab}{b:Bool}{x y:aC}{e:Env}(ai:(E2 g b x y).safe M e)(h:g.az e .bool=b):x.safe M e:=by
 cases b with
 |true=>exact ai.1 h
 |false=>exact ai.2 h
theorem xZ{S:ao}: ∀{gs:List (ab × Bool)},S.cr→lV S.k gs=true→({S with g:=hy gs S.g}:ao).cr
 |[],ad,_=>ad
 |(g,b)::r,ad,h=>by
  simp only[lV,Bool.and_eq_true]at h;exact A3 (S:={S with g:=hy r S.g}) (b:=b) (xZ ad h.2) h.1
theorem x1{S:ao}{e:Env}: ∀{gs:List (ab × Bool)},S.ct e→fM e gs=true→({S with g:=hy gs S.g}:ao).ct e
 |[],hf,_=>hf
 |(g,b)::r,hf,h=>by
  simp only[fM,Bool.and_eq_true,beq_iff_eq]at h;exact A4 (S:={S with g:=hy r S.g}) (b:=b) (x1 hf h.2) h.1
theorem E6{k:Nat}{v:ab}: ∀{gs:List (ab × Bool)},lV k gs=true→v.lt k=true→(kg gs v).lt k=true
 |[],_,h=>h
 |(g,b)::r,ah,h=>by
  simp only[lV,Bool.and_eq_true]at ah;simp only[kg,ab.lt,ah.1,E6 ah.2 h,Bool.and_self]
theorem E7{k m:Nat}(h:k≤m): ∀{gs:List (ab × Bool)},lV k gs=true→lV m gs=true
 |[],_=>rfl
 |(g,b)::r,ah=>by
  simp only[lV,Bool.and_eq_true]at ah⊢;exact⟨gD h ah.1,E7 h ah.2⟩
theorem E8{k:Nat}{e ay:Env}(h:bW k e ay): ∀{gs:List (ab × Bool)},lV k gs=true→fM ay gs=fM e gs
 |[],_=>rfl
 |(g,b)::r,ah=>by
  simp only[lV,Bool.and_eq_true]at ah;simp only[fM,eE h ah.1,E8 h ah.2]
theorem E9{v:ab}{e:Env}: ∀{gs:List (ab × Bool)},fM e gs=true→(kg gs v).den G e=v.den G e
 |[],_=>rfl
 |(g,b)::r,h=>by
  simp only[fM,Bool.and_eq_true,beq_iff_eq]at h;exact(xY h.1).trans (E9 h.2)
theorem Fa{v:ab}{e:Env}: ∀{gs:List (ab × Bool)},fM e gs=false→(kg gs v).den G e= .tuple []
 |[],h=>by cases h
 |(g,b)::r,h=>by
  by_cases ah:g.az e .bool=b
  ·simp only[fM,ah,beq_self_eq_true,Bool.true_and]at h
   exact(xY ah).trans (Fa h)
  ·exact T4 (MM ah)
theorem Fb{n:fe}{e:Env}: ∀{gs:List (ab × Bool)},(qM gs n).ok M e→fM e gs=true→n.ok M e
 |[],h,_=>h
 |(g,b)::r,h,aZ=>by
  simp only[fM,Bool.and_eq_true,beq_iff_eq]at aZ;exact Fb (gs:=r) (h aZ.1) aZ.2
theorem MN{x:aC}{y:List b4→aC}{e:Env}: ∀{gs:List (ab × Bool)} {l:List b4},fM e gs=true→run M (tA y gs x l) e=run M x e∧((tA y gs x l).safe M e→x.safe M e)
 |[],_,_=>⟨rfl,fun h=>h⟩
 |(g,b)::r,l,h=>by
  simp only[fM,Bool.and_eq_true,beq_iff_eq]at h;obtain⟨aa,ae⟩:=MN (x:=x) (y:=y) (l:=.dT g b::l) h.2;exact⟨(T6 h.1).trans aa,fun ai=>ae (zgC ai h.1)⟩
theorem MO{x:aC}{y:List b4→aC}{e:Env}{k:Nat}: ∀{gs:List (ab × Bool)} {l:List b4},fM e gs=false→lV k gs=true→fj k l=true→(∀c∈l,c.ok e)→∃h1,run M (tA y gs x l) e=run M (y h1) e∧fj k h1=true∧∀c∈h1,c.ok e
 |[],_,h,_,_,_=>by cases h
 |(g,b)::r,l,h,ah,aq,hc=>by
  simp only[lV,Bool.and_eq_true]at ah
  have sW: ∀b,fj k (.dT g b::l)=true:=fun b=>by
   show(b4.lt k (.dT g b)&&fj k l)=true;rw[aq,Bool.and_true];exact ah.1
  by_cases ft:g.az e .bool=b
  ·simp only[fM,ft,beq_self_eq_true,Bool.true_and]at h
   obtain⟨h1,aa,ae,au⟩:=MO (x:=x) (y:=y) (k:=k) (gs:=r) (l:=.dT g b::l) h ah.2 (sW b) fun c hm=>by
    rcases List.mem_cons.1 hm with rfl|hm
    ·exact ft
    ·exact hc c hm
   exact⟨h1,(T6 ft).trans aa,ae,au⟩
  ·refine⟨.dT g (!b)::l,zgB (MM ft),sW _,fun c hm=>?_⟩
   rcases List.mem_cons.1 hm with rfl|hm
   ·exact MM ft
   ·exact hc c hm
theorem T7{S:ao}{dst:Option Nat}{l:List b4}{e:Env}(ad:S.cr)(aq:fj S.k l=true)(hc: ∀c∈l,c.ok e):
 ∃aS:ao,r6 S dst l= .cG .ch aS∧aS.cr∧aS.ct e∧S.k≤aS.k∧aS.den G N B e=(S.den G N B e).put dst (.tuple []):=
 ⟨_,rfl,jc ⟨ad.l,ad.h,aq⟩ rfl,jd hc,by rw[je];exact Nat.le_refl _,by rw[fa];rfl⟩
mutual
theorem T8(id t n:Nat)(es:List (List a1)): ∀a:aD,Sub (hN [(id,.row true t n es)] a) (dX id a):=fun a=>by
 cases a with
 |agg l=>exact(x2 id t n es l).agg
 |tuple l=>exact(x2 id t n es l).tuple
 |aN k=>
  by_cases h:k=id
  ·simp only[dX,h,if_true]
   exact Sub.top _
  ·simp only[dX,h,if_false,hN,aE,if_neg (fun e:id=k=>h e.symm)]
   exact Sub.refl _
 |fn f p q=>
  intro w ro σ β N c hc;simp only[hN]at hc
  cases hc with
  |fn _ _ _ c d aa ae au aP=>
   have ak:=(x2 id t n es p).at
   have aH:=(x2 id t n es q).at
   refine .fn f _ _ c d (by rw[aa,ak.1]) (by rw[ae,aH.1]) (fun j y af=>?_) fun j y af=>?_
   ·obtain⟨x,hx,ai⟩:=ak.2 j y af
    exact ai _ _ _ _ _ _ (au j x hx)
   ·obtain⟨x,hx,ai⟩:=aH.2 j y af
    exact ai _ _ _ _ _ _ (aP j x hx)
 |av x=>exact Sub.refl _
 |top=>exact Sub.refl _
 |ptr k o=>simp only[dX,hN];split<;>first|exact Sub.top _|exact Sub.refl _
 |dz k o=>simp only[dX,hN];split<;>first|exact Sub.top _|exact Sub.refl _
 |cV k i o=>simp only[dX,hN];split<;>first|exact Sub.top _|exact Sub.refl _
 |ref k=>simp only[dX,hN];split<;>first|exact Sub.top _|exact Sub.refl _
theorem x2(id t n:Nat)(es:List (List a1)): ∀l:List aD,fT (kF [(id,.row true t n es)] l) (ef id l):=fun l=>by
 match l with
 |[]=>exact .nil
 |x::r=>exact .cons (T8 id t n es x) (x2 id t n es r)
end
theorem T9(σ:Heap): ∀l:List aD,kF σ l=l.map (hN σ)
 |[]=>rfl
 |x::r=>by simp only[kF,List.map_cons,T9 σ r]
theorem zgD{e:Env}{id t:Nat}{c:bK}{k:Nat}: ∀y:ab,Sub (hN [(id,.row true t (bY c) (List.map (b9 c) ((ab.aT (.li c) k).az e (.li c))))] (y.den G e)) ((ab.m7 id (.aT (.li c) k) y).den G e):=fun y=>by
 unfold ab.m7
 split
 ·rename_i j
  split
  ·rename_i af
   obtain rfl:=Nat.eq_of_beq_eq_true af;simp only[ab.den,hN,aE,if_true];rw[show(ab.aT (.li c) k).az e (.li c)=(Env.at e k).as (.li c)by simp only[ab.az,ab.fq,ab.dyn,cA]]
   exact lP.fm fun _ _ _ h=>.li _ _ _ h
  ·rename_i af
   have b3: ¬id=j:=fun h=>by rw[h,Nat.beq_refl]at af;cases af
   simp only[ab.den,hN,aE,if_neg b3];exact Sub.refl _
 ·rw[EB]
  exact T8 _ _ _ _ _
theorem zgE{S:ao}{e:Env}(id:Nat)(ad:S.cr)(hf:S.ct e):(xU S id).cr∧(xU S id).ct e∧(xU S id).k=S.k∧cm (S.den G N B e) ((xU S id).den G N B e):=by
 unfold xU
 split
 ·rename_i t c r k ah
  split
  ·rename_i ag
   cases hr ag
   have hx:(ab.aT (.li c) k).lt S.k=true:=vH (o:=.rw t c (.aT (.li c) k)) ad.h ah
   refine⟨⟨fun i y ax=>?_,og id ad.h,ad.g⟩,hf,rfl,?_⟩
   ·simp only[MC,a8.get_map]at ax
    cases aH:S.l.get i with
    |none=>rw[aH]at ax;cases ax
    |some z=>
     rw[aH]at ax;simp only[Option.map_some,Option.some.injEq]at ax;subst ax;show(ab.m7 id _ z).lt S.k=true;unfold ab.m7
     split
     ·split
      ·exact hx
      ·rfl
     ·exact tC _ (ad.l i z aH)
   ·have bc:aE (S.den G N B e).heap id=some (.row false t (bY c) (List.map (b9 c) ((ab.aT (.li c) k).az e (.li c)))):=by
     simp only[ao.den,eh,ah,Option.map_some,bF.den]
    refine(cm.m7 (S.den G N B e) id).trans ?_
    unfold Go.aK.m7;rw[bc];refine cm.of rfl (Nat.le_refl _) ?_ (fun i v aw=>?_) fun j o an=>?_
    ·simp only[ao.den,nU,D7]
    ·simp only[ao.den,n8]at aw
     split at aw
     rotate_left
     ·cases aw
     rename_i hi;simp only[MC,a8.get_map,Option.some.injEq]at aw;subst aw
     refine⟨hN [(id,.row true t (bY c) (List.map (b9 c) ((ab.aT (.li c) k).az e (.li c))))] (match S.l.get (0+i)with
      |some x=>x.den G e
      |none=>.top),by simp only[ao.den,T9,List.getElem?_map,n8,if_pos hi,Option.map_some];rfl,?_⟩
     cases aH:S.l.get (0+i)with
     |none=>exact Sub.top _
     |some z=>exact zgD z
    ·have an:aE (cx G e (ht id S.h)) j=some o:=an
     rw[px,qo]at an
     split at an
     ·cases an
     rename_i b3
     cases aH:aE (cx G e S.h) j with
     |none=>rw[aH]at an;cases an
     |some Ua=>
      rw[aH]at an;simp only[Option.map_some,Option.some.injEq]at an;subst an;refine⟨kI [(id,.row true t (bY c) (List.map (b9 c) ((ab.aT (.li c) k).az e (.li c))))] Ua,?_,?_⟩
      ·rw[qt,zC]
       rw[if_neg (fun h=>b3 h.symm)];show Option.map _ (aE (cx G e S.h) j)=_;rw[aH];rfl
      ·cases Ua with
       |box t cs=>exact .box t (x2 _ _ _ _ cs)
       |row z t n es=>exact .same _
       |bL bO=>exact .same _
  ·exact⟨ad,hf,rfl,cm.refl _⟩
 ·exact⟨ad,hf,rfl,cm.refl _⟩
theorem MP{e:Env}: ∀(as:List ab) {S:ao},S.cr→S.ct e→(mG as S).cr∧(mG as S).ct e∧(mG as S).k=S.k∧cm (S.den G N B e) ((mG as S).den G N B e)
 |[],S,ad,hf=>⟨ad,hf,rfl,cm.refl _⟩
 |a::r,S,ad,hf=>by
  unfold mG
  split
  ·rename_i h;cases h
  ·rename_i id eP h
   cases h;obtain⟨aa,ae,au,aP⟩:=zgE (G:=G) (N:=N) (B:=B) id ad hf;obtain⟨g1,g2,g3,g4⟩:=MP r aa ae;exact⟨g1,g2,g3.trans au,aP.trans g4⟩
  ·rename_i h
   cases h;exact MP r ad hf
theorem zgF{ops:Array Oper}{o:Oper}{S:ao}{as:List ab}{e:Env}(ak:preB P N S o=some as)(ad:S.cr)(hf:S.ct e):
 (mG as S).cr∧(mG as S).ct e∧(mG as S).k=S.k∧cm (S.den G N B e) ((mG as S).den G N B e)∧dN ops ((mG as S).den G N B e) o=some true:=by
 have hn:o.guard=none:=by
  unfold preB at ak
  split at ak
  ·split at ak
   ·cases ak
   ·assumption
  ·cases ak
 obtain⟨aa,ae,au,aP⟩:=MP (G:=G) (N:=N) (B:=B) as ad hf
 exact⟨aa,ae,au,aP,by unfold dN;rw[hn]⟩
theorem uE(bV:fO P G M inl){ops:Array Oper}: ∀(l:List Oper) {S:ao} {e:Env} {Q:Exit→aO→Prop},S.cr→S.ct e→(hI P N B T inl ops l S).safe M e→(∀ex st,jA G N B M (hI P N B T inl ops l S) e S.k ex st→Q ex st)→cu P G ops Q l (S.den G N B e)
 |[],S,e,Q,ad,hf,_,eu=>cu.nil (eu _ _ ⟨.ch,S,e,rfl,trivial,cm.refl _,ad,hf,bW.refl _ _,Nat.le_refl _⟩)
 |o::r,S,e,Q,ad,hf,ai,eu=>by
  have ah:=ML (G:=G) (N:=N) (B:=B) (ops:=ops) (o:=o) hf
  have eW:=ai
  unfold hI at eW
  cases iW:guardOf N ops S o with
  |yes=>
   rw[iW]at ah eW;simp only at eW
   cases ak:preB P N S o with
   |some as=>
    rw[ak]at eW
    have gO:hI P N B T inl ops (o::r) S=exec P N B T inl o (mG as S) (hI P N B T inl ops r):=by rw[hI,iW];simp only[ak]
    obtain⟨f1,f2,f3,f4,f5⟩:=zgF (G:=G) (B:=B) (ops:=ops) ak ad hf;refine cu.le f4 (MI bV f1 f2 f5 eW fun db ay aa ae au aP bE cF=>uE bV r aa ae bE fun ex st ak=>eu ex st (ak.sub ?_ (f3 ▸ au) (f3 ▸ aP)))
    rw[gO,cF]
   |none=>
    rw[ak]at eW
    have gO:hI P N B T inl ops (o::r) S=exec P N B T inl o S (hI P N B T inl ops r):=by rw[hI,iW];simp only[ak]
    refine MI bV ad hf ah eW fun db ay aa ae au aP bE cF=>uE bV r aa ae bE fun ex st ak=>eu ex st (ak.sub ?_ au aP)
    rw[gO,cF]
  |no=>
   rw[iW]at ah eW
   have gO:hI P N B T inl ops (o::r) S=hI P N B T inl ops r (S.put o.dst (.tp [])):=by rw[hI,iW]
   refine cu.pass ah ?_
   have hd:(S.den G N B e).put o.dst (.tuple [])=(S.put o.dst (.tp [])).den G N B e:=by rw[fa];rfl
   rw[hd];refine uE bV r (jc ad rfl) (jd hf) eW fun ex st ak=>eu ex st (ak.sub (by rw[gO]) (bW.refl _ _) (by rw[je];exact Nat.le_refl _))
  |on gs=>
   rw[iW]at ah eW;simp only at eW;obtain⟨g1,g2⟩:=ah
   split at eW
   ·rename_i kM
    split at eW
    ·rename_i q aw
     split at eW
     ·rename_i hc
      have gO:hI P N B T inl ops (o::r) S=emit S.k q.xs (q.ns.map (qM gs)) (hI P N B T inl ops r ((S.e1 S.k q.xs).put o.dst (kg gs q.v))):=by rw[hI,iW];simp only[kM,aw,hc]
      simp only[Bool.and_eq_true]at hc;obtain⟨gU,gu⟩:=mF eW;obtain⟨b5,a2,a3⟩:=r7 (M:=M) (G:=G) (N:=N) (B:=B) ad hf hc.1
      have bQ:bW S.k e (de M e S.k q.xs):=jS (Nat.le_refl _)
      have hW:fM (de M e S.k q.xs) gs=fM e gs:=E8 bQ kM
      have aj:S.k≤S.k+q.xs.length:=Nat.le_add_right _ _
      have fC:(kg gs q.v).lt (S.k+q.xs.length)=true:=E6 (E7 aj kM) hc.2
      have MQ:((S.e1 S.k q.xs).put o.dst (kg gs q.v)).cr:=jc b5 fC
      have A5:=uE bV (ops:=ops) r (Q:=Q) MQ (jd a2) gu fun ex st ak=>eu ex st (ak.sub (by rw[gO,lU]) bQ (by rw[je];exact aj))
      rw[fa,a3]at A5
      cases ft:fM e gs with
      |true=>
       have h4:=x1 hf ft
       have ig:=xZ ad kM
       have dC:=vt (G:=G) (B:=B) (M:=M) aw (de M e S.k q.xs) (ij bQ ig.g h4) (jy hc.1) fun n hn=>Fb (gU (qM gs n) (List.mem_map.2 ⟨n,hn,rfl⟩)) (hW.trans ft)
       have x3:({S with g:=hy gs S.g}:ao).den G N B (de M e S.k q.xs)=S.den G N B e:=lu (S:={S with g:=hy gs S.g}) bQ ig
       rw[x3]at dC;refine cu.step (g1 ft) dC.step ?_
       rw[E9 (hW.trans ft)]at A5;exact A5
      |false=>
       refine cu.pass (g2 ft) ?_
       rw[Fa (hW.trans ft)]at A5;exact A5
     ·exact eW.elim
    ·rename_i aw
     have gO:hI P N B T inl ops (o::r) S=qK N S o.dst gs (tA (r6 S o.dst) gs (exec P N B T inl o {S with g:=hy gs S.g} (.cG .ch)) S.g) (hI P N B T inl ops r):=by rw[hI,iW];simp only[aw,kM]
     obtain⟨t1,_,t3⟩:=Mu (G:=G) (B:=B) ad hf eW
     have fin: ∀(aS:ao) (aB:Env),run M (tA (r6 S o.dst) gs (exec P N B T inl o {S with g:=hy gs S.g} (.cG .ch)) S.g) e=some (.ch,aS,aB)→aS.cr→aS.ct aB→bW S.k e aB→S.k≤aS.k→cu P G ops Q r (aS.den G N B aB):=fun aS aB ag aa ae au aP=>by
      obtain⟨dO,bd,s1,s2,kv,ky,kz,kA,kW⟩:=t3 aS aB ag aa ae au aP;exact cu.le s1 (uE bV r s2 kv kA fun ex st ak=>eu ex st (ak.sub (by rw[gO,kW]) ky kz))
     cases ft:fM e gs with
     |false=>
      refine cu.pass (g2 ft) ?_
      obtain⟨h1,c0,df,gX⟩:=MO (M:=M) (x:=exec P N B T inl o {S with g:=hy gs S.g} (.cG .ch)) (y:=r6 S o.dst) (l:=S.g) ft kM ad.g hf
      obtain⟨aS,r3,pC,MR,MS,MT⟩:=T7 (G:=G) (N:=N) (B:=B) (dst:=o.dst) ad df gX;rw[←MT];exact fin aS e (by rw[c0,r3];rfl) pC MR (bW.refl _ _) MS
     |true=>
      have h4:=x1 hf ft
      have ig:=xZ ad kM
      obtain⟨f1,f2⟩:=MN (M:=M) (x:=exec P N B T inl o {S with g:=hy gs S.g} (.cG .ch)) (y:=r6 S o.dst) (l:=S.g) ft
      refine MI bV (S:={S with g:=hy gs S.g}) ig h4 (g1 ft) (f2 t1) fun db ay aa ae au aP _ cF=>fin db ay ?_ aa ae au aP
      exact f1.trans cF
   ·exact eW.elim
  |bad=>rw[iW]at eW;exact eW.elim
end
end Go.aK
namespace Go.aK
open Go
def A6(i:Nat)(y:ab):List b4→Bool
 |[]=>false
 | .rg j b::r=>(Nat.beq j i&&eH b y)||A6 i y r
 |_::r=>A6 i y r
def x4(j:Nat)(all:List b4):List b4→Option Bool
 |[]=>none
 | .d2 i (.pg .lss .i64) x y::r=>match Nat.beq i j with
  |true=>match eH x y with
   |true=>some false
   |false=>match x with
    | .aT (.int .i64) m=>match A6 m y all&&(match y.rt with|some (.int .i64)=>true|_=>false)with
     |true=>some true
     |false=>none
    |_=>none
  |false=>x4 j all r
 |_::r=>x4 j all r
def MU(g:ab)(l:List b4):Option Bool:=
 match lr g l with
 |some b=>some b
 |none=>match g with
  | .aT .bool j=>x4 j l l
  |_=>none
def A7(i:Nat):List b4→Option ab
 |[]=>none
 | .d1 j .nd x::r=>match Nat.beq j i with
  |true=>match x.rt with
   |some .bool=>some x
   |_=>none
  |false=>A7 i r
 |_::r=>A7 i r
def ao.dT(S:ao)(v:ab)(b:Bool):ao:=
 match v with
 | .aT .bool i=>match A7 i S.g with
  |some x=>{S with g:=.dT x (!b):: .dT (.aT .bool i) b::S.g}
  |none=>{S with g:=.dT (.aT .bool i) b::S.g}
 |v=>{S with g:=.dT v b::S.g}
def MV(N:Nat)(S:ao)(x:Operand)(f g:ao→aC):aC:=
 match S.aY N x with
 | .cs (.bool true)=>f S
 | .cs (.bool false)=>g S
 |v=>match v.rt with
  |some .bool=>match MU v S.g with
   |some true=>f S
   |some false=>g S
   |none=>.it v (f (S.dT v true)) (g (S.dT v false))
  |_=>.bad 38
def comp(P:Program)(N B:Nat)(T:List (Nat × bK))(inl:Nat→List ab→ao→aC)(L:(ao→aC)→Nat→ao→aC)(D:Array Oper→ao→aC):Code→Nat→ao→aC
 | .skip,_,S=>.cG .ch S
 | .ret,_,S=>.cG .ret S
 | .exit id,_,S=>.cG (.ext id) S
 | .region _ ops draw,_,S=>match draw with
  |true=>D ops S
  |false=>hI P N B T inl ops ops.toList S
 | .cond x a b,cur,S=>MV N S x (comp P N B T inl L D a cur) (comp P N B T inl L D b cur)
 | .block id c,_,S=>(comp P N B T inl L D c id S).rel (pj id)
 | .seq a b,cur,S=>iL N S (comp P N B T inl L D a cur S) (comp P N B T inl L D b cur)
 | .loop c,cur,S=>L (comp P N B T inl L D c cur) cur S
 |_,_,_=>.bad 6
section
variable {P:Program} {G:a7} {N B:Nat} {M:List aQ} {T:List (Nat × bK)} {inl:Nat→List ab→ao→aC} {L:(ao→aC)→Nat→ao→aC} {D:Array Oper→ao→aC}
theorem A8{i:Nat}{y:ab}{e:Env}: ∀{l:List b4},A6 i y l=true→(∀c∈l,c.ok e)→0≤cl (Env.at e i)∧cl (Env.at e i)<cl (y.dyn e)
 | .rg j b::r,h,hc=>by
  simp only[A6,Bool.or_eq_true,Bool.and_eq_true]at h
  rcases h with⟨aa,ae⟩|h
  ·rw[←Nat.eq_of_beq_eq_true aa,←e0 ae]
   exact hc (.rg j b) (by simp)
  ·exact A8 h fun c hm=>hc c (by simp[hm])
 | .d1 _ _ _::r,h,hc=>A8 (l:=r) h fun c hm=>hc c (by simp[hm])
 | .d2 _ _ _ _::r,h,hc=>A8 (l:=r) h fun c hm=>hc c (by simp[hm])
 | .dT _ _::r,h,hc=>A8 (l:=r) h fun c hm=>hc c (by simp[hm])
theorem zgG(d:aF):(d.as (.int .i64):Int)=cl d∨(d.as (.int .i64):Int)=0:=by
 obtain⟨r,v⟩:=d
 by_cases h:r= .int .i64
 ·subst h
  exact .inl (cA _ _)
 ·refine .inr ?_
  unfold aF.as
  split
  ·rename_i h' _;exact absurd h' h
  ·rfl
theorem A9{j:Nat}{e:Env}{b:Bool}{all:List b4}(aZ: ∀c∈all,c.ok e): ∀{l:List b4},x4 j all l=some b→(∀c∈l,c.ok e)→(ab.aT .bool j).az e .bool=b
 | .d2 i f x y::r,h,hc=>by
  have aL:=hc (.d2 i f x y) (by simp)
  have ag: ∀{b},x4 j all r=some b→(ab.aT .bool j).az e .bool=b:=fun h=>A9 aZ h fun c hm=>hc c (by simp[hm])
  unfold x4 at h
  split at h
  ·cases h
  ·rename_i zU iM s4 eP heq
   cases heq
   split at h
   ·rename_i oN
    have oN:=Nat.eq_of_beq_eq_true oN
    subst oN;simp only[b4.ok]at aL
    have aw:(ab.aT .bool i).az e .bool=Ar .lss (x.az e (.int .i64)) (y.az e (.int .i64)):=by
     simp only[ab.az,ab.fq,ab.dyn,cA,aL];rfl
    rw[aw]
    split at h
    ·rename_i he
     cases h;rw[e0 he];exact decide_eq_false (Int.lt_irrefl _)
    ·split at h
     ·rename_i m _
      split at h
      ·rename_i aj
       cases h;simp only[Bool.and_eq_true]at aj
       have aa:=A8 aj.1 aZ
       have ax:y.rt=some (.int .i64):=by
        have:=aj.2
        split at this
        ·assumption
        ·cases this
       rw[lS ax]at aa
       have hx:(ab.aT (.int .i64) m).az e (.int .i64)=(Env.at e m).as (.int .i64):=by simp only[ab.az,ab.fq,ab.dyn,cA]
       rw[hx];refine decide_eq_true ?_
       have ae:=aa.2
       rcases zgG (Env.at e m)with q|q
       ·rw[q];exact ae
       ·rw[q];exact Int.lt_of_le_of_lt aa.1 ae
      ·cases h
     ·cases h
   ·exact ag h
  ·rename_i heq
   cases heq;exact ag h
 | .d1 _ _ _::r,h,hc=>A9 aZ (l:=r) h fun c hm=>hc c (by simp[hm])
 | .rg _ _::r,h,hc=>A9 aZ (l:=r) h fun c hm=>hc c (by simp[hm])
 | .dT _ _::r,h,hc=>A9 aZ (l:=r) h fun c hm=>hc c (by simp[hm])
theorem Ub{e:Env}{g:ab}{b:Bool}{l:List b4}(h:MU g l=some b)(hc: ∀c∈l,c.ok e):g.az e .bool=b:=by
 unfold MU at h
 split at h
 ·rename_i aj;cases h;exact qE aj hc
 ·split at h
  ·exact A9 hc h hc
  ·cases h
def jb(P:Program)(G:a7)(N B:Nat)(M:List aQ)(c:Code)(f:ao→aC):Prop:=
 ∀(S:ao) (e:Env),S.cr→S.ct e→(f S).safe M e→b1 P G c (jA G N B M (f S) e S.k) (S.den G N B e)
theorem MW{i:Nat}{x:ab}{e:Env}{k:Nat}: ∀{l:List b4},A7 i l=some x→(∀c∈l,c.ok e)→fj k l=true→(ab.aT .bool i).az e .bool= !(x.az e .bool)∧x.lt k=true
 |[],h,_,_=>by cases h
 |c::r,h,hc,aq=>by
  have zF: ∀c∈r,c.ok e:=fun c hm=>hc c (List.mem_cons_of_mem _ hm)
  have sW:c.lt k=true∧fj k r=true:=by simpa only[fj,Bool.and_eq_true]using aq
  unfold A7 at h
  split at h
  ·rename_i heq;cases heq
  ·rename_i j y eP heq
   cases heq
   split at h
   ·rename_i af
    have af:=Nat.eq_of_beq_eq_true af
    subst af
    split at h
    ·cases h
     have aL:Env.at e j=⟨gF.nd.c,gF.nd.den (x.az e gF.nd.a)⟩:=hc _ (List.mem_cons_self ..)
     have aa:=sW.1
     simp only[b4.lt,Bool.and_eq_true]at aa;refine⟨?_,aa.2⟩
     simp only[ab.az,ab.fq,ab.dyn,aL,cA];rfl
    ·cases h
   ·exact MW h zF sW.2
  ·rename_i heq
   cases heq;exact MW h zF sW.2
theorem Uc{S:ao}{v:ab}{b:Bool}{e:Env}(ad:S.cr)(hf:S.ct e)(aq:v.lt S.k=true)(aw:v.az e .bool=b):(S.dT v b).cr∧(S.dT v b).ct e∧(S.dT v b).k=S.k∧(S.dT v b).den G N B e=S.den G N B e:=by
 unfold ao.dT
 split
 ·rename_i i
  split
  ·rename_i x hx
   obtain⟨aa,ae⟩:=MW hx hf ad.g;rw[aw]at aa
   have au:x.az e .bool= !b:=by rw[aa];cases x.az e .bool<;>rfl
   have b5:=A3 (b:=b) ad aq
   have a2:=A4 hf aw
   exact⟨A3 (S:={S with g:=.dT (.aT .bool i) b::S.g}) (b:=!b) b5 ae,A4 (S:={S with g:=.dT (.aT .bool i) b::S.g}) a2 au,rfl,rfl⟩
  ·exact⟨A3 ad aq,A4 hf aw,rfl,rfl⟩
 ·exact⟨A3 ad aq,A4 hf aw,rfl,rfl⟩
theorem zgH{x:Operand}{a b:Code}{f g:ao→aC}(hf:jb P G N B M a f)(ah:jb P G N B M b g):jb P G N B M (.cond x a b) (fun S=>MV N S x f g):=by
 intro S e ad e7 ai
 have hx:=bH (G:=G) (N:=N) (B:=B) e7 x
 have bG:=D8 (N:=N) ad x
 simp only at ai⊢
 unfold MV at ai⊢
 generalize S.aY N x=v at ai hx bG⊢
 split at ai
 ·exact b1.Rt hx (hf S e ad e7 ai)
 ·exact b1.Ru hx (ah S e ad e7 ai)
 ·rename_i aa ae
  split at ai
  ·rename_i ag
   have hd:=fX (G:=G) (e:=e) ag
   rw[←hx]at hd
   have hd:=hd.trans (show _=aD.av (.v (.bool _))from rfl)
   split at ai
   ·rename_i aj
    rw[Ub aj e7]at hd;exact b1.Rt hd (hf S e ad e7 ai)
   ·rename_i aj
    rw[Ub aj e7]at hd;exact b1.Ru hd (ah S e ad e7 ai)
   ·refine b1.cond hd (fun aG=>?_) (fun aG=>?_)
    ·obtain⟨c0,df,gX,pD⟩:=Uc (G:=G) (N:=N) (B:=B) ad e7 bG aG
     have:=hf _ e c0 df (ai.1 aG)
     rw[pD]at this;refine b1.mono this fun ex st ak=>ak.sub ?_ (bW.refl _ _) (Nat.le_of_eq gX.symm)
     rw[tB aG]
    ·obtain⟨c0,df,gX,pD⟩:=Uc (G:=G) (N:=N) (B:=B) ad e7 bG aG
     have:=ah _ e c0 df (ai.2 aG)
     rw[pD]at this;refine b1.mono this fun ex st ak=>ak.sub ?_ (bW.refl _ _) (Nat.le_of_eq gX.symm)
     rw[tB aG]
  ·exact ai.elim
theorem zgI{id:Nat}{c:Code}{f:ao→aC}(hf:jb P G N B M c f):jb P G N B M (.block id c) (fun S=>(f S).rel (pj id)):=by
 intro S e ad e7 ai
 have an:=zeL (f S) id
 refine b1.block (b1.mono (hf S e ad e7 ((k6 an).1 ai)) fun ex st ak=>?_)
 obtain⟨x,db,ay,aa,ae,au,aP,bE,cF,dZ⟩:=ak
 have ag:run M ((f S).rel (pj id)) e=some (pj id x,db,ay):=by rw[wH an,aa];rfl
 cases x with
 |ch=>cases ex<;>first|exact⟨_,db,ay,ag,trivial,au,aP,bE,cF,dZ⟩|exact ae.elim
 |ret=>cases ex<;>first|exact⟨_,db,ay,ag,trivial,au,aP,bE,cF,dZ⟩|exact ae.elim
 |lq n=>exact(by cases ex<;>exact ae.elim)
 |ext n=>
  cases ex with
  |exit m=>
   have ae:n=m:=ae
   subst ae;show(bif Nat.beq n id then _ else _)
   cases ad:Nat.beq n id with
   |true=>exact⟨.ch,db,ay,by rw[ag];simp only[pj,ad],trivial,au,aP,bE,cF,dZ⟩
   |false=>exact⟨.ext n,db,ay,by rw[ag];simp only[pj,ad],rfl,au,aP,bE,cF,dZ⟩
  |_=>exact ae.elim
theorem zr{a b:Code}{f g:ao→aC}(hf:jb P G N B M a f)(ah:jb P G N B M b g):jb P G N B M (.seq a b) (fun S=>iL N S (f S) g):=by
 intro S e ad e7 ai
 obtain⟨t1,t2,t3⟩:=EU (G:=G) (B:=B) ad e7 ai
 refine b1.seq (b1.mono (hf S e ad e7 t1) fun ex st ak=>?_)
 obtain⟨x,db,ay,aa,ae,au,aP,bE,cF,dZ⟩:=ak
 have other:x≠ .ch→ex≠ .normal→jA G N B M (iL N S (f S) g) e S.k ex st:=fun b3 _=>⟨x,db,ay,t2 x db ay aa b3 (TT ae),ae,au,aP,bE,cF,dZ⟩
 cases x with
 |ch=>
  cases ex with
  |normal=>
   obtain⟨dO,bd,s1,s2,kv,ky,kz,kA,kW⟩:=t3 db ay aa aP bE cF dZ;exact b1.le au (b1.le s1 (b1.mono (ah dO bd s2 kv kA) fun ex st ak=>ak.sub kW ky kz))
  |_=>exact ae.elim
 |ret=>cases ex<;>first|exact other (by simp) (by simp)|exact ae.elim
 |ext n=>cases ex<;>first|exact other (by simp) (by simp)|exact ae.elim
 |lq n=>cases ex<;>exact ae.elim
theorem MX{c:Code}{x:bZ}{ex:Exit}(h:AZ x ex)(k: ∀{Q:Exit→aO→Prop} {s:aO},Q ex s→b1 P G c Q s):jb P G N B M c (fun S=>.cG x S):=
 fun S e ad hf _=>k ⟨x,S,e,rfl,h,cm.refl _,ad,hf,bW.refl _ _,Nat.le_refl _⟩
def MY(P:Program)(G:a7)(N B:Nat)(M:List aQ)(L:(ao→aC)→Nat→ao→aC):Prop:=∀c f id,jb P G N B M c f→jb P G N B M (.loop c) (L f id)
def MZ(P:Program)(G:a7)(N B:Nat)(M:List aQ)(D:Array Oper→ao→aC):Prop:=∀id ops,jb P G N B M (.region id ops true) (D ops)
theorem oQ(bV:fO P G M inl)(fK:MY P G N B M L)(mi:MZ P G N B M D): ∀(c:Code) (cur:Nat),jb P G N B M c (comp P N B T inl L D c cur)
 | .skip,_=>MX (ex:=.normal) trivial b1.skip
 | .ret,_=>MX (ex:=.ret) trivial b1.ret
 | .exit id,_=>MX (ex:=.exit id) rfl b1.exit
 | .region id ops draw,_=>by
  cases draw with
  |true=>exact mi id ops
  |false=>
   intro S e ad hf ai
   have iX:ops=ops.toList.toArray:=by simp
   rw[iX];refine b1.region ?_
   rw[←iX];exact uE bV ops.toList ad hf ai fun _ _ h=>h
 | .cond x a b,cur=>zgH (oQ bV fK mi a cur) (oQ bV fK mi b cur)
 | .block id c,_=>zgI (oQ bV fK mi c id)
 | .seq a b,cur=>zr (oQ bV fK mi a cur) (oQ bV fK mi b cur)
 | .loop c,cur=>fK c _ cur (oQ bV fK mi c cur)
 | .rangeFunc _ _ _ _,_=>fun _ _ _ _ h=>h.elim
 | .scope _,_=>fun _ _ _ _ h=>h.elim
 | .label _,_=>fun _ _ _ _ h=>h.elim
 | .goto _,_=>fun _ _ _ _ h=>h.elim
 | .refuse _,_=>fun _ _ _ _ h=>h.elim
end
end Go.aK
namespace Go.aK
open Go
def Ba:Nat→List ab→List (Nat × ab)
 |_,[]=>[]
 |i,x::r=>(i,x)::Ba (i+1) r
def x5(P:Program)(N:Nat)(S:ao):List ResultVar→Option (List ab)
 |[]=>some []
 | .tmp t::r=>match x5 P N S r with
  |some l=>some (S.aY N (.tmp t)::l)
  |none=>none
 | .cell p t::r=>match x5 P N S r,vl S (S.aY N (.tmp p))with
  |some l,some cs=>match qd P t cs with
   |some v=>some (v::l)
   |none=>none
  |_,_=>none
def M0(P:Program)(fn:Func)(N:Nat)(S:ao):Option ab:=
 match x5 P N S fn.results.toList with
 |some [x]=>some x
 |some l=>some (.tp l)
 |none=>none
def sM:bZ→bZ
 | .ret=>.ch
 |x=>x
def zgJ:bZ→Bool
 | .ch=>true
 | .ret=>true
 |_=>false
def uG(P:Program)(fn:Func)(N:Nat)(S:ao):aC:=
 match M0 P fn N S with
 |some v=>match v.lt S.k with
  |true=>.cG .ch {S with l:=a8.put .emp 0 v}
  |false=>.bad 44
 |none=>.bad 43
structure jG where
 L:Nat→Nat→(Nat→List ab→ao→aC)→(ao→aC)→Nat→ao→aC
 D:Nat→Nat→(Nat→List ab→ao→aC)→Array Oper→ao→aC
def qe(as:List ab)(S:ao):ao:={S with l:=fk (Ba 0 as)}
def M1(P:Program)(H:jG)(T:List (Nat × bK))(inl:Nat→List ab→ao→aC)(c:Code)(N:Nat)(as:List ab)(S:ao):aC:=
 comp P N S.n T inl (H.L N S.n inl) (H.D N S.n inl) c 0 (qe as S)
def x6(n:Nat)(m:Nat):Nat:=
 match n with
 |0=>m
 |k+1=>k+1
def aC.nq:aC→Nat
 | .cG _ _=>0
 | .lt _ _ t=>t.nq
 | .eF _ t=>t.nq
 | .it _ a b=>x6 a.nq b.nq
 | .dB _ a _ k=>x6 a.nq k.nq
 | .en _ _ _ _ _ a k=>x6 a.nq k.nq
 | .eZ _ _ _ a k=>x6 a.nq k.nq
 | .bad n=>n
def zgK(f n:Nat):Nat:=
 match Nat.ble 1000 n with
 |true=>n
 |false=>f*1000+n
def CX(P:Program)(f:Nat)(fn:Func)(N:Nat)(t:aC):aC:=
 match t.fr zgJ with
 |true=>(t.rel sM).eI (uG P fn N) none
 |false=>.bad (zgK f t.nq)
def M3(P:Program)(H:jG)(T:List (Nat × bK))(inl:Nat→List ab→ao→aC)(f:Nat)(as:List ab)(S:ao):aC:=
 match P.funcs[f]? with
 |some fn=>match fn.body with
  |some c=>CX P f fn (as.length+(fn.ntmps-as.length)) (M1 P H T inl c (as.length+(fn.ntmps-as.length)) as S)
  |none=>.bad 41
 |none=>.bad 42
section
variable {P:Program} {G:a7} {N B:Nat} {M:List aQ} {T:List (Nat × bK)} {inl:Nat→List ab→ao→aC} {H:jG}
def M4(P:Program)(G:a7)(M:List aQ)(H:jG):Prop:=∀(inl:Nat→List ab→ao→aC),fO P G M inl→∀N B,MY P G N B M (H.L N B inl)∧MZ P G N B M (H.D N B inl)
theorem Ud{t:TypeId}{l:List ab}{v:ab}{e:Env}(h:qd P t l=some v):
 (∃n,mh P t=some n∧n≤l.length∧0<n∧v.den G e= .agg ((ab.bP G e l).take n))∨(mh P t=none∧scalar P t=true∧∃r,l=v::r):=by
 unfold qd at h
 split at h
 ·rename_i n hn
  split at h
  ·rename_i ad
   simp only[Bool.and_eq_true]at ad;cases h;refine .inl ⟨n,hn,Nat.le_of_ble_eq_true ad.1,Nat.le_of_ble_eq_true ad.2,?_⟩
   simp only[ab.den,e5,List.map_take]
  ·cases h
 ·rename_i hn
  split at h
  ·rename_i ai
   cases h;exact .inr ⟨hn,ai,_,rfl⟩
  ·cases h
theorem Fc{S:ao}{e:Env}(hf:S.ct e): ∀{l:List ResultVar} {vs:List ab},x5 P N S l=some vs→m2 P (S.den G N B e) l=some (ab.bP G e vs)
 |[],vs,h=>by cases h;rfl
 | .tmp t::r,vs,h=>by
  simp only[x5]at h
  split at h
  ·rename_i l aq
   cases h
   have:=bH (G:=G) (N:=N) (B:=B) hf (.tmp t)
   simp only[m2,Fc hf aq,ab.bP,←this];rfl
  ·cases h
 | .cell p t::r,vs,h=>by
  simp only[x5]at h
  split at h
  ·rename_i l cs aq hc
   split at h
   ·rename_i v aw
    cases h
    have aa:=bH (G:=G) (N:=N) (B:=B) hf (.tmp p)
    have ae:=AD (G:=G) (N:=N) (B:=B) (e:=e) hc
    rw[←aa]at ae
    have ae:fo (S.den G N B e).heap ((S.den G N B e).cR.getD p .top)=some (ab.bP G e cs):=ae
    simp only[m2,Fc hf aq,ae,ab.bP]
    rcases Ud (G:=G) (e:=e) aw with⟨n,g1,g2,g3,g4⟩|⟨g1,g2,eP,g3⟩
    ·simp only[g1,g4]
     rw[if_pos ⟨by rw[mc];exact g2,g3⟩]
    ·subst g3
     simp only[g1,g2,if_true,ab.bP]
   ·cases h
  ·cases h
theorem Qo{fn:Func}{S:ao}{e:Env}{v:ab}(hf:S.ct e)(h:M0 P fn N S=some v):zP P fn (S.den G N B e)=some (v.den G e):=by
 unfold M0 at h
 unfold zP
 split at h
 ·rename_i x hx
  cases h;rw[Fc hf hx];rfl
 ·rename_i l b3 aq
  cases h;rw[Fc hf aq]
  match l with
  |[]=>rfl
  |[x]=>exact absurd rfl (b3 x)
  |x::y::l=>rfl
 ·cases h
theorem CY(t:aC):t.iz sM:=nh (t.lvl+1) (Nat.lt_succ_self _) (fun n _ x h=>by cases x<;>first|rfl|exact h) (fun n x h=>by cases x<;>first|rfl|exact h)
theorem M5: ∀{l:List ab} {i j:Nat},(fk (Ba i l)).get j=if j<i then none else l[j-i]?
 |[],i,j=>by simp only[Ba,fk];split<;>simp[a8.get]
 |x::r,i,j=>by
  simp only[Ba,fk,a8.hZ,M5 (l:=r)]
  by_cases h:i=j
  ·subst h;simp
  ·rw[if_neg h]
   by_cases ae:j<i
   ·rw[if_pos ae,if_pos (by omega)]
   ·rw[if_neg ae,if_neg (by omega),show j-i=(j-(i+1))+1 by omega,List.getElem?_cons_succ]
theorem Ql{as:List ab}{S:ao}{e:Env}{k:Nat}:(qe as S).den G (as.length+k) S.n e=⟨ab.bP G e as++List.replicate k .top,cx G e S.h,S.n,S.n⟩:=by
 simp only[ao.den,qe,aO.mk.injEq,and_true,true_and]
 apply List.ext_getElem?
 intro j
 rw[n8,Nat.zero_add,M5,if_neg (Nat.not_lt_zero _),Nat.sub_zero,e5,List.getElem?_append,List.getElem?_replicate,List.length_map]
 by_cases h:j<as.length
 ·rw[if_pos (by omega),if_pos h,List.getElem?_map,List.getElem?_eq_getElem h]
  rfl
 ·rw[if_neg h]
  by_cases ae:j<as.length+k
  ·rw[if_pos ae,if_pos (by omega),List.getElem?_eq_none (by omega)]
  ·rw[if_neg ae,if_neg (by omega)]
theorem Qk{as:List ab}{S:ao}(ad:S.cr)(aq:ab.cK S.k as=true):(qe as S).cr:=by
 refine⟨fun i x hx=>?_,ad.h,ad.g⟩
 simp only[qe,M5,Nat.not_lt_zero,if_false,Nat.sub_zero]at hx
 have hm:=List.mem_of_getElem? hx
 clear hx
 induction as with
 |nil=>cases hm
 |cons y r aX=>
  simp only[ab.cK,Bool.and_eq_true]at aq
  rcases List.mem_cons.1 hm with rfl|hm
  ·exact aq.1
  ·exact aX aq.2 hm
theorem b1.Qn{c:Code}{Q:Exit→aO→Prop}{s:aO}(h:b1 P G c (fun e st=>∃Fe,cm st Fe∧Q e Fe) s):b1 P G c Q s:=fun E a w ag=>
 wp_mono (h E a w ag) fun _ bb w' ⟨st,⟨Fe,aq,aH⟩,ae⟩=>⟨Fe,aH,aq E G bb w' ae⟩
theorem zgL(k5:M4 P G M H)(bV:fO P G M inl):fO P G M (M3 P H T inl):=by
 intro f as S e ad aq hf ai
 unfold M3 at ai⊢
 split at ai
 ·rename_i fn mb
  split at ai
  ·rename_i c hc
   generalize gT:as.length+(fn.ntmps-as.length)=N at ai;generalize aG:M1 P H T inl c N as S=t at ai;unfold CX at ai⊢
   split at ai
   ·rename_i zt
    obtain⟨g1,g2,g3⟩:=jf (t.rel sM) none ai
    have uF:t.safe M e:=(k6 (CY t)).1 g1
    have zu:=oQ (T:=T) (B:=S.n) (N:=N) bV (k5 inl bV N S.n).1 (k5 inl bV N S.n).2 c 0 (qe as S) e (Qk ad aq) hf (by
     unfold M1 at aG;rw[aG];exact uF)
    have cD:comp P N S.n T inl (H.L N S.n inl) (H.D N S.n inl) c 0 (qe as S)=t:=aG
    rw[cD,←gT,Ql,gT]at zu;refine dF.Qm (k:=fn.ntmps-as.length) mb hc (by rw[mc]) (b1.Qn (b1.mono zu fun ex st ak=>?_))
    obtain⟨x,db,ay,aa,ae,au,aP,bE,cF,dZ⟩:=ak;refine⟨_,au,?_⟩
    obtain⟨iM,dO,bd,c0,df⟩:=jg (M:=M) (e:=e) zt;rw[aa]at c0
    cases c0
    have ag:run M (t.rel sM) e=some (.ch,db,ay):=by
     rw[wH (CY t),aa]
     cases x<;>first|rfl|cases df
    obtain⟨oR,_⟩:=g3 db ay ag;rw[ag]at g2
    have g2:run M ((t.rel sM).eI (uG P fn N) none) e=run M (uG P fn N db) ay:=g2
    unfold uG at oR g2
    split at oR
    ·rename_i v aw
     split at oR
     ·rename_i fC
      simp only[aw,fC]at g2;refine⟨(by cases x<;>cases ex<;>first|exact .inl rfl|exact .inr rfl|exact ae.elim|cases df),v.den G ay,cx G ay db.h,Qo bE aw,fun _ _ h=>h,{db with l:=a8.put .emp 0 v},ay,g2,?_,rfl,⟨fun i x hx=>?_,aP.h,aP.g⟩,bE,cF,dZ⟩
      ·simp only[ao.at,a8.hZ,if_true]
      ·simp only[a8.hZ]at hx
       split at hx
       ·cases hx;exact fC
       ·simp[a8.get]at hx
     ·exact oR.elim
    ·exact oR.elim
   ·exact ai.elim
  ·exact ai.elim
 ·exact ai.elim
end
end Go.aK
