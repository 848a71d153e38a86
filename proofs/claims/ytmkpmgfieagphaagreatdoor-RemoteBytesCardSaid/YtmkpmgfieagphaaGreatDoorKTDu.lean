/- TD, part Q: regions whose order is fixed. Conditions: none. -/
import Derived.Test.YtmkpmgfieagphaaGreatDoorKTDm2
namespace Go.aL
open Go
def xR(k:Nat):bK→List b5
 | .f1 .n6 x=>[.d1 k .n6 x]
 | .f1 (.iU c) x=>[.d1 k (.iU c) x]
 | .f1 .nf x=>[.d1 k .nf x]
 | .f2 (.ju .add .i64 .i64) x y=>[.d2 k (.ju .add .i64 .i64) x y]
 | .f2 (.ph .lss .i64) x y=>[.d2 k (.ph .lss .i64) x y]
 |_=>[]
def xS(k:Nat):List bK→List b5→List b5
 |[],g=>g
 |x::r,g=>xS (k+1) r (xR k x++g)
def ao.e2(S:ao)(k:Nat)(xs:List bK):ao:={S with k:=k+xs.length,g:=xS k xs S.g}
inductive EY where
 |yes
 |no
 |on (gs:List (ab × Bool))
 |bad
def vF(l:List b5)(b:Bool):ab→EY
 | .cs (.bool c)=>match decide (c=b)with
  |true=>.yes
  |false=>.no
 | .tp _=>.no
 | .fJ h c v=>match h.rt with
  |some .bool=>match vF l b v with
   | .yes=>.on [(h,c)]
   | .no=>.no
   | .on gs=>.on ((h,c)::gs)
   | .bad=>.bad
  |_=>.bad
 |g=>match g.rt,lu g l with
  |some .bool,some c=>match decide (c=b)with
   |true=>.yes
   |false=>.no
  |some .bool,none=>.on [(g,b)]
  |_,_=>.bad
def guardOf(N:Nat)(ops:Array Oper)(S:ao)(o:Oper):EY:=
 match o.guard with
 |none=>.yes
 |some (j,b)=>match mm ops j with
  |some d=>match Nat.blt d N with
   |true=>vF S.g b ((S.at d).res S.g)
   |false=>.bad
  |none=>.bad
def hz:List (ab × Bool)→List b5→List b5
 |[],l=>l
 |(g,b)::r,l=>.dU g b::hz r l
def qN:List (ab × Bool)→ff→ff
 |[],n=>n
 |(g,b)::r,n=>.SI g b (qN r n)
def lW(k:Nat):List (ab × Bool)→Bool
 |[]=>true
 |(g,_)::r=>g.lt k&&lW k r
def fN(e:Env):List (ab × Bool)→Bool
 |[]=>true
 |(g,b)::r=>(g.az e .bool==b)&&fN e r
def Mz(P:Program)(B:Nat)(S:ao)(t:TypeId)(x:ab):Option db:=
 match x.rt,isStr P t&&Nat.ble B S.n with
 |some .str,true=>some ⟨[],[],none,(S.n,.it .st x (.cs (.int .i64 0)))::S.h,S.n+1,.gZ S.n⟩
 |_,_=>none
def EZ(P:Program)(N B:Nat)(T:List (Nat × bL))(S:ao)(o:Oper):Option db:=
 match o.op with
 | .alloc t=>LQ P B S t
 | .box t x=>LR B S t (S.aZ N x)
 | .store t p x=>LS P S t (S.aZ N p) (S.aZ N x)
 | .buildSlice t len ps=>match L2 P N B T S t len ps.toList with
  |some r=>some r
  |none=>match L3 P B T S t len ps.toList with
   |some r=>some r
   |none=>match L1 P N T S t len ps.toList with
    |some r=>some r
    |none=>L4 P N B S t len ps.toList
 | .makeSlice t x y=>L5 P B T S t (S.aZ N x) (S.aZ N y)
 | .range t x=>Mz P B S t (S.aZ N x)
 | .makeMap t none=>Mx P B T S t
 | .mapUpdate t m x y=>My P T S t (S.aZ N m) (S.aZ N x) (S.aZ N y)
 | .call c=>match c.callee,c.args.toList,c.argTypes.toList with
  | .builtin .append,[x,y],[t,bD]=>match Nat.beq t bD with
   |true=>L6 P B S t (S.aZ N x) (S.aZ N y)
   |false=>L7 P B S t bD (S.aZ N x) (S.aZ N y)
  |_,_,_=>none
 |_=>none
structure qO where
 xs:List bK
 g:ab
 h:List (Nat × bG)
 v:ab
 bh:ab
def TQ(S:ao)(x:ab):Option qO:=
 match x with
 | .gZ id=>match da S.h id with
  |some (.it .st s p)=>match s.rt,p.rt with
   |some .str,some (.int .i64)=>some ⟨[.f2 .l7 s p,.f2 .l9 s p,.f2 .l8 s p,.f2 .kY s p],.aU .bool S.k,jv S.h id (.it .st s (.aU (.int .i64) (S.k+3))),
    .tp [.cs (.bool true),.aU (.int .i64) (S.k+1),.aU (.int .i32) (S.k+2)],.tp [.cs (.bool false)]⟩
   |_,_=>none
  |_=>none
 |_=>none
def MA(N:Nat)(S:ao)(o:Oper):Option qO:=
 match o.op with
 | .next x true=>TQ S (S.aZ N x)
 |_=>none
def qO.ok(q:qO)(S:ao):Bool:=(hy S.k q.xs&&q.g.lt (S.k+q.xs.length))&&(eH (S.k+q.xs.length) q.h&&(q.v.lt (S.k+q.xs.length)&&q.bh.lt (S.k+q.xs.length)))
def qO.st(q:qO)(S:ao)(dst:Option Nat):ao:=(ao.put {S.e2 S.k q.xs with h:=q.h,g:=.dU q.g true::(S.e2 S.k q.xs).g} dst q.v).EU
def qO.xT(q:qO)(S:ao)(dst:Option Nat):ao:=(ao.put {S.e2 S.k q.xs with g:=.dU q.g false::(S.e2 S.k q.xs).g} dst q.bh).EU
def bG.kind:bG→bG→Bool
 | .dj _ _,.dj _ _=>true
 | .rw _ c _,.rw _ d _=>Nat.beq (bZ c) (bZ d)
 | .it _ _ _,.it _ _ _=>true
 |_,_=>false
def AW(n:Nat)(aM:List (Nat × bG)):List (Nat × bG)→Bool
 |[]=>true
 |(id,o)::r=>(match Nat.blt id n with
  |true=>match da aM id with
   |some cA=>bG.kind cA o
   |none=>false
  |false=>true)&&AW n aM r
mutual
def ab.r6(n:Nat):ab→Bool
 | .ch l=>ab.tz n l
 | .tp l=>ab.tz n l
 | .ee k _=>Nat.blt k n
 | .gN k _ _=>Nat.blt k n
 | .gX k _ _ _=>Nat.blt k n
 | .aO k=>Nat.blt k n
 | .cC k _=>Nat.blt k n
 | .fj _ (some k) _=>Nat.blt k n
 | .fn _ a b=>ab.tz n a&&ab.tz n b
 | .gZ k=>Nat.blt k n
 | .fJ _ _ x=>ab.r6 n x
 |_=>true
def ab.tz(n:Nat):List ab→Bool
 |[]=>true
 |x::r=>ab.r6 n x&&ab.tz n r
end
def og(n:Nat):List (Nat × bG)→Bool
 |[]=>true
 |(id,.dj _ l)::r=>Nat.blt id n&&(ab.tz n l&&og n r)
 |(id,.rw _ _ _)::r=>Nat.blt id n&&og n r
 |(id,.it _ _ _)::r=>Nat.blt id n&&og n r
def ao.back(S:ao)(dst:Option Nat)(C:ao):ao:=(⟨S.l,C.h,C.n,C.k,C.g⟩:ao).put dst (C.at 0)
def E0(S C:ao):Bool:=(ab.r6 C.n (C.at 0)&&og C.n C.h)&&(Nat.ble S.n C.n&&AW S.n S.h C.h)
def AX(S:ao)(dst:Option Nat)(C:ao):aC:=
 match E0 S C with
 |true=>.cH .cj (S.back dst C)
 |false=>.bad 34
def MB(C:ao):List ab→List ab→Nat→Option (Nat × Nat × Nat)
 | .aO k::r,.aO m::eQ,off=>match Nat.beq k m,da C.h k,da C.h m with
  |false,none,some (.rw _ _ _)=>some (off,k,m)
  |_,_,_=>MB C r eQ (off+1)
 |_::r,_::eQ,off=>MB C r eQ (off+1)
 |_,_,_=>none
def E1(C:ao):List (Nat × bG)→Option (Nat × Nat × Nat × Nat)
 |[]=>none
 |(id,.dj _ zgj)::r=>match da C.h id with
  |some (.dj _ l)=>match MB C zgj l 0 with
   |some (off,k,m)=>some (id,off,k,m)
   |none=>E1 C r
  |_=>E1 C r
 |_::r=>E1 C r
def E2(m:Nat):Option ab→Bool
 |some (.aO j)=>Nat.beq j m
 |_=>false
def xU(B id off k m:Nat)(C:ao):ao:=
 match da C.h id,da C.h m with
 |some (.dj t l),some (.rw gO c x)=>match E2 m (l[off]?)&&((Nat.ble B k&&Nat.blt k C.n)&& !(Nat.beq id k))with
  |true=>⟨(C.l.map (ab.kill m)).map (ab.kill k),jv ((k,.rw gO c x)::hv k (hv m C.h)) id (.dj t ((ab.eg k (ab.eg m l)).set off (.aO k))),C.n,C.k,C.g⟩
  |false=>C
 |_,_=>C
def vG(B:Nat)(S C:ao):ao:=
 match E1 C S.h with
 |some (id,off,k,m)=>xU B id off k m C
 |none=>C
def MC(B:Nat)(C:ao):List (Nat × bG)→Option Nat
 |[]=>none
 |(id,.rw _ _ _)::r=>match da C.h id,Nat.ble B id with
  |none,true=>some id
  |_,_=>MC B C r
 |_::r=>MC B C r
def tA(B d k m:Nat)(C:ao):ao:=
 match da C.h m with
 |some (.rw gO c x)=>match E2 m (C.l.get d)&&(Nat.ble B k&&Nat.blt k C.n)with
  |true=>ao.put ⟨(C.l.map (ab.kill m)).map (ab.kill k),(k,.rw gO c x)::hv k (hv m C.h),C.n,C.k,C.g⟩ (some d) (.aO k)
  |false=>C
 |_=>C
def vH(B N:Nat)(S C:ao)(dst:Option Nat):ao:=
 match dst with
 |some d=>match C.l.get d,MC B C S.h with
  |some (.aO m),some k=>match Nat.ble S.n m&&Nat.blt d N with
   |true=>match Nat.blt d N with
    |true=>tA B d k m C
    |false=>C
   |false=>C
  |_,_=>C
 |none=>C
def AY(P:Program)(N:Nat)(S:ao)(o:Oper):Option (Nat × List ab):=
 match o.op with
 | .call c=>match c.callee with
  | .value x=>match S.aZ N x with
   | .fn (.func f) p q=>some (f,p++c.args.toList.map (S.aZ N)++q)
   |_=>none
  | .invoke x name=>match S.aZ N x with
   | .et t a rs l=>match methodOf P t name,r0 a l,decide (pw l=some rs)with
    |some f,some v,true=>some (f,[v]++c.args.toList.map (S.aZ N)++[])
    |_,_,_=>none
   |_=>none
  |_=>none
 |_=>none
def ab.m8(id:Nat)(x y:ab):ab:=
 match y with
 | .aO j=>match Nat.beq j id with
  |true=>x
  |false=>.aO j
 |y=>ab.kill id y
def MD(id:Nat)(x:ab)(S:ao):ao:=⟨S.l.map (ab.m8 id x),hv id S.h,S.n,S.k,S.g⟩
def xV(S:ao)(id:Nat):ao:=
 match da S.h id with
 |some (.rw _ c (.aU r k))=>match hT r (.li c)with
  |true=>MD id (.aU r k) S
  |false=>S
 |_=>S
def mH:List ab→ao→ao
 |[],S=>S
 | .aO id::r,S=>mH r (xV S id)
 |_::r,S=>mH r S
def TR(f:Nat):List Nat→Bool
 |[]=>false
 |g::r=>Nat.beq g f||TR f r
def preB(P:Program)(N:Nat)(S:ao)(o:Oper):Option (List ab):=
 match o.op with
 | .call _=>match o.guard with
  |some _=>none
  |none=>match AY P N S o with
   |some (f,aG)=>match TR f zed with
    |true=>some aG
    |false=>none
   |none=>none
 |_=>none
def AZ(f:gG)(x:ab):List b5→Option Nat
 |[]=>none
 | .d1 j g y::r=>match decide (g=f)&&eI y x with
  |true=>some j
  |false=>AZ f x r
 |_::r=>AZ f x r
def ME(S:ao)(r:dt):Option (aV × Nat):=
 match r.xs,r.ns,r.v with
 |[.f1 f x],[],.aU t k=>match Nat.beq k S.k with
  |true=>match AZ f x S.g with
   |some j=>match Nat.blt j S.k with
    |true=>some (t,j)
    |false=>none
   |none=>none
  |false=>none
 |_,_,_=>none
def TS(f:cD)(a b:Int):Option ab:=
 match f with
 | .ju .add .i64 .i64=>some (.cs (.int .i64 (bA .add .i64 a b)))
 | .ju .sub .i64 .i64=>some (.cs (.int .i64 (bA .sub .i64 a b)))
 | .ju .mul .i64 .i64=>some (.cs (.int .i64 (bA .mul .i64 a b)))
 | .ph op .i64=>some (.cs (.bool (As op a b)))
 |_=>none
def MF(S:ao)(r:dt):Option ab:=
 match r.xs,r.ns,r.v with
 |[.f2 f (.cs (.int .i64 a)) (.cs (.int .i64 b))],[],.aU t k=>match Nat.beq k S.k&&hT t f.c with
  |true=>TS f a b
  |false=>none
 |_,_,_=>none
def MG(o:Oper):Nat:=
 match o.op with
 | .pick _ _ _=>1
 | .alloc _=>2
 | .box _ _=>3
 | .build _ _=>4
 | .buildSlice _ _ _=>5
 | .insert _ _ _ _=>6
 | .load _ _=>7
 | .store _ _ _=>8
 | .nilCheck _=>9
 | .binOp _ _ _ _ _=>10
 | .unOp _ _ _=>11
 | .convert _ _ _=>12
 | .makeInterface _ _=>13
 | .makeFunc _ _ _=>14
 | .makeMap _ _=>15
 | .makeSlice _ _ _=>16
 | .slice _ _ _ _ _=>17
 | .fieldAddr _ _ _=>18
 | .field _ _ _=>19
 | .indexAddr _ _ _=>20
 | .index _ _ _=>21
 | .lookup _ _ _ _=>22
 | .mapUpdate _ _ _ _=>23
 | .call c=>match c.callee with
  | .builtin .append=>30
  | .builtin .len=>31
  | .builtin .copy=>32
  | .builtin _=>33
  | .value _=>34
  |_=>35
 | .range _ _=>40
 | .next _ _=>41
 | .extract _ _=>42
 |_=>50
def exec(P:Program)(N B:Nat)(T:List (Nat × bL))(inl:Nat→List ab→ao→aC)(o:Oper)(S:ao)(k:ao→aC):aC:=
 match qJ P N S o with
 |some r=>match hy S.k r.xs&&r.v.lt (S.k+r.xs.length)with
  |true=>match ME S r with
   |some (t,j)=>k (S.put o.dst (.aU t j))
   |none=>match MF S r with
    |some v=>k (S.put o.dst v)
    |none=>emit S.k r.xs r.ns (k ((S.e2 S.k r.xs).put o.dst r.v))
  |false=>.bad 30
 |none=>match EZ P N B T S o with
  |some r=>match hy S.k r.xs&&(r.v.lt (S.k+r.xs.length)&&eH (S.k+r.xs.length) r.h)with
   |true=>emit S.k r.xs r.ns (k ((r.st S o.dst).e2 S.k r.xs))
   |false=>.bad 31
  |none=>match MA N S o with
   |some q=>match q.ok S with
    |true=>emit S.k q.xs [] (.it q.g (k (q.st S o.dst)) (k (q.xT S o.dst)))
    |false=>.bad 33
   |none=>match AY P N S o with
    |some (f,aG)=>match m5 P f with
     |true=>iM N S ((inl f aG S).eJ (AX S o.dst) none) fun C=>k (vH B N S (vG B S C) o.dst)
     |false=>.bad 32
    |none=>.bad (100+MG o)
def E3(g:ab)(b:Bool)(x y:aC):aC:=
 match b with
 |true=>.it g x y
 |false=>.it g y x
def tB(y:List b5→aC):List (ab × Bool)→aC→List b5→aC
 |[],x,_=>x
 |(g,b)::r,x,l=>E3 g b (tB y r x (.dU g b::l)) (y (.dU g (!b)::l))
def r7(S:ao)(dst:Option Nat)(l:List b5):aC:=.cH .cj (ao.put {S with g:=l} dst (.tp []))
def hJ(P:Program)(N B:Nat)(T:List (Nat × bL))(inl:Nat→List ab→ao→aC)(ops:Array Oper):List Oper→ao→aC
 |[],S=>.cH .cj S
 |o::r,S=>match guardOf N ops S o with
  | .yes=>match preB P N S o with
   |some aG=>exec P N B T inl o (mH aG S) (hJ P N B T inl ops r)
   |none=>exec P N B T inl o S (hJ P N B T inl ops r)
  | .no=>hJ P N B T inl ops r (S.put o.dst (.tp []))
  | .on gs=>match lW S.k gs with
   |true=>match qJ P N {S with g:=hz gs S.g} o with
    |some q=>match hy S.k q.xs&&q.v.lt (S.k+q.xs.length)with
     |true=>emit S.k q.xs (q.ns.map (qN gs)) (hJ P N B T inl ops r ((S.e2 S.k q.xs).put o.dst (kh gs q.v)))
     |false=>.bad 35
    |none=>qL N S o.dst gs (tB (r7 S o.dst) gs (exec P N B T inl o {S with g:=hz gs S.g} (.cH .cj)) S.g) (hJ P N B T inl ops r)
   |false=>.bad 36
  | .bad=>.bad 37
section
variable {P:Program} {G:a8} {N B:Nat} {M:List aR} {T:List (Nat × bL)} {inl:Nat→List ab→ao→aC}
theorem zgk{S:ao}{o:Oper}{t:TypeId}{x:Operand}{r:db}(an:o.op= .range t x)(h:Mz P B S t (S.aZ N x)=some r):mF P G N B M o S r:=fun e hf hx hn=>by
 unfold Mz at h
 split at h
 ·rename_i AI hc
  cases h;simp only[Bool.and_eq_true]at hc
  have jy:aJ G (S.den G N B e) x= .av (.v (.string ((S.aZ N x).az e .str))):=by rw[bI hf];exact fY AI
  have:=zdM (P:=P) (G:=G) (s:=S.den G N B e) t x an (uX hc.1) jy (Nat.le_of_ble_eq_true hc.2)
  unfold db.st;rw[fb];exact this
 ·cases h
theorem zgl{S:ao}{o:Oper}{q:qO}{e:Env}(h:MA N S o=some q)(hf:S.cu e)(hx: ∀(j:Nat) (x:bK),q.xs[j]? =some x→Env.at e (S.k+j)=x.den M e):
 (q.g.az e .bool=true→dR P G o (S.den G N B e) ((ao.put {S with h:=q.h} o.dst q.v).den G N B e))∧(q.g.az e .bool=false→dR P G o (S.den G N B e) ((S.put o.dst q.bh).den G N B e)):=by
 unfold MA at h
 split at h
 ·rename_i x an
  unfold TQ at h
  split at h
  ·rename_i id aw
   split at h
   ·rename_i s p ah
    split at h
    ·rename_i aa ae
     cases h
     have jy:aJ G (S.den G N B e) x= .ref id:=by rw[bI hf,aw];rfl
     have bd:aE (S.den G N B e).heap id=some (.bM (qv (s.az e .str) (Int.toNat (p.az e (.int .i64))))):=by
      show aE (cy G e S.h) id=_;rw[ei,ah];rfl
     have x0:=hx 0 _ rfl
     have ar:=hx 1 _ rfl
     have b7:=hx 2 _ rfl
     have cd:=hx 3 _ rfl
     simp only[bK.den,cD.den,Nat.add_zero]at x0 ar b7 cd
     have tt:(ab.aU .bool S.k).az e .bool=decide (Int.toNat (p.az e (.int .i64))<ByteArray.size (s.az e .str)):=by
      simp only[ab.az,ab.fr,ab.dyn,x0,cB]
     refine⟨fun aH=>?_,fun aH=>?_⟩
     ·rw[tt]at aH
      have:=zdO (P:=P) (G:=G) (s:=S.den G N B e) x an jy bd (of_decide_eq_true aH) (c:=(Utf8.decode (s.az e .str) (Int.toNat (p.az e (.int .i64)))).1) (k:=(Utf8.decode (s.az e .str) (Int.toNat (p.az e (.int .i64)))).2) rfl
      rw[fb]
      have bb:(({S with h:=jv S.h id (.it .st s (.aU (.int .i64) (S.k+3)))}:ao).den G N B e)={S.den G N B e with heap:=eN (S.den G N B e).heap id (.bM (qv (s.az e .str) (Int.toNat (p.az e (.int .i64))+(Utf8.decode (s.az e .str) (Int.toNat (p.az e (.int .i64)))).2)))}:=by
       simp only[ao.den,tj,bG.den]
       congr 3
       simp only[ab.az,ab.fr,ab.dyn,cd,cB];rfl
      rw[bb]
      have zgm:(ab.tp [.cs (.bool true),.aU (.int .i64) (S.k+1),.aU (.int .i32) (S.k+2)]).den G e= .tuple [.av (.v (.bool true)),.av (.v (.int .i64 ((Int.toNat (p.az e (.int .i64)):Nat):Int))),.av (.v (.int .i32 (((Utf8.decode (s.az e .str) (Int.toNat (p.az e (.int .i64)))).1:Nat):Int)))]:=by
       simp only[ab.den,ab.bQ,ar,b7,cB,fH,j9]
      rw[zgm];exact this
     ·rw[tt]at aH
      have:=zdN (P:=P) (G:=G) (s:=S.den G N B e) x an jy bd (Nat.le_of_not_lt (of_decide_eq_false aH))
      rw[fb];exact this.step
    ·cases h
   ·cases h
  ·cases h
 ·cases h
theorem TT{S:ao}{o:Oper}{r:db}(h:EZ P N B T S o=some r):mF P G N B M o S r:=by
 unfold EZ at h
 split at h
 ·exact zfI (by assumption) h
 ·exact zfJ (by assumption) h
 ·exact zfL (by assumption) h
 ·split at h
  ·rename_i aI
   cases h;exact zfY (by assumption) aI
  ·split at h
   ·rename_i aI
    cases h;exact zfX (by assumption) aI
   ·split at h
    ·rename_i aI
     cases h;exact zfV (by assumption) aI
    ·exact zfZ (by assumption) h
 ·exact zf0 (by assumption) h
 ·exact zgk (by assumption) h
 ·exact zgh (by assumption) h
 ·exact zgi (by assumption) h
 ·rename_i c an
  split at h
  ·rename_i x y t bD hc hx aH
   split at h
   ·rename_i ad
    have:=Nat.eq_of_beq_eq_true ad
    subst this;obtain⟨callee,args,ts⟩:=c;simp only at hc hx aH;rw[hc,Ag hx,Ag aH]at an;exact zf3 an h
   ·obtain⟨callee,args,ts⟩:=c
    simp only at hc hx aH;rw[hc,Ag hx,Ag aH]at an;exact zf4 an h
  ·cases h
 ·cases h
theorem tC{g:ab}{a b:aC}{e:Env}{v:Bool}(h:g.az e .bool=v):run M (.it g a b) e=match v with|true=>run M a e|false=>run M b e:=by
 simp only[run,aC.fold,h]
 cases v<;>rfl
def A0:b0→Exit→Prop
 | .cj,.normal=>True
 | .ext n,.exit m=>n=m
 | .ret,.ret=>True
 |_,_=>False
def jB(G:a8)(N B:Nat)(M:List aR)(t:aC)(e:Env)(aX:Nat):Exit→aP→Prop:=fun ex st=>
 ∃x dc ay,run M t e=some (x,dc,ay)∧A0 x ex∧cn st (dc.den G N B ay)∧dc.ct∧dc.cu ay∧bX aX e ay∧aX≤dc.k
theorem jB.sub{t bD:aC}{e ay:Env}{k bk:Nat}{ex:Exit}{st:aP}(h:jB G N B M bD ay bk ex st)(ag:run M t e=run M bD ay)(a1:bX k e ay)(aj:k≤bk):jB G N B M t e k ex st:=by
 obtain⟨x,dc,bf,aa,ae,au,aQ,bF,cG,ea⟩:=h
 exact⟨x,dc,bf,ag.trans aa,ae,au,aQ,bF,bX.trans a1 cG aj,Nat.le_trans aj ea⟩
theorem TU{x:b0}{ex:Exit}(h:A0 x ex)(n:Nat):x.bT n=false:=by
 cases x with
 |lr m=>cases ex<;>cases h
 |_=>rfl
def fP(P:Program)(G:a8)(M:List aR)(inl:Nat→List ab→ao→aC):Prop:=
 ∀f aG (S:ao) e,S.ct→ab.cL S.k aG=true→S.cu e→(inl f aG S).safe M e→
  dG P G f (ab.bQ G e aG) (cy G e S.h) S.n fun r bV=>∃C ay,run M (inl f aG S) e=some (.cj,C,ay)∧r=(C.at 0).den G ay∧bV=cy G ay C.h∧C.ct∧C.cu ay∧bX S.k e ay∧S.k≤C.k
theorem zgn{e:Env}{k:Nat}{x:bK}(h:Env.at e k=x.den M e): ∀c∈xR k x,c.ok e:=fun c hc=>by
 unfold xR at hc
 split at hc
 ·rw[List.mem_singleton]at hc;subst hc;exact h
 ·rw[List.mem_singleton]at hc;subst hc;exact h
 ·rw[List.mem_singleton]at hc;subst hc;exact h
 ·rw[List.mem_singleton]at hc;subst hc;exact h
 ·rw[List.mem_singleton]at hc;subst hc;exact h
 ·cases hc
theorem zgo{k:Nat}{x:bK}(h:x.lt k=true):fk (k+1) (xR k x)=true:=by
 have ad:Nat.blt k (k+1)=true:=jS (Nat.lt_succ_self k)
 unfold xR
 split
 ·simp only[fk,b5.lt,ad,gE (Nat.le_succ k) (x:=_) h,Bool.and_self]
 ·simp only[fk,b5.lt,ad,gE (Nat.le_succ k) (x:=_) h,Bool.and_self]
 ·simp only[fk,b5.lt,ad,gE (Nat.le_succ k) (x:=_) h,Bool.and_self]
 ·simp only[bK.lt,Bool.and_eq_true]at h
  simp only[fk,b5.lt,ad,gE (Nat.le_succ k) h.1,gE (Nat.le_succ k) h.2,Bool.and_self]
 ·simp only[bK.lt,Bool.and_eq_true]at h
  simp only[fk,b5.lt,ad,gE (Nat.le_succ k) h.1,gE (Nat.le_succ k) h.2,Bool.and_self]
 ·rfl
theorem TV{k:Nat}: ∀{a b:List b5},fk k a=true→fk k b=true→fk k (a++b)=true
 |[],_,_,h=>h
 |c::a,b,h,h'=>by
  simp only[fk,Bool.and_eq_true]at h;simp only[List.cons_append,fk,h.1,TV h.2 h',Bool.and_self]
theorem TW{e:Env}: ∀{xs:List bK} {k:Nat} {g:List b5},(∀c∈g,c.ok e)→(∀(j:Nat) (x:bK),xs[j]? =some x→Env.at e (k+j)=x.den M e)→∀c∈xS k xs g,c.ok e
 |[],_,_,h,_=>h
 |x::r,k,g,h,hx=>by
  refine TW (xs:=r) (k:=k+1) (fun c hc=>?_) fun j y ax=>?_
  ·rcases List.mem_append.1 hc with hc|hc
   ·exact zgn (hx 0 x (by simp)) c hc
   ·exact h c hc
  ·have:=hx (j+1) y (by simpa using ax)
   rw[show k+1+j=k+(j+1)by omega];exact this
theorem TX: ∀{xs:List bK} {k:Nat} {g:List b5},hy k xs=true→fk k g=true→fk (k+xs.length) (xS k xs g)=true
 |[],_,_,_,h=>h
 |x::r,k,g,aq,h=>by
  simp only[hy,Bool.and_eq_true]at aq
  have:=TX (xs:=r) (k:=k+1) (g:=xR k x++g) aq.2 (TV (zgo aq.1) (oa (Nat.le_succ k) h))
  rw[List.length_cons,show k+(r.length+1)=k+1+r.length by omega]
  exact this
theorem r8{S:ao}{e:Env}{xs:List bK}(ad:S.ct)(hf:S.cu e)(aq:hy S.k xs=true):
 (S.e2 S.k xs).ct∧(S.e2 S.k xs).cu (df M e S.k xs)∧(S.e2 S.k xs).den G N B (df M e S.k xs)=S.den G N B e:=by
 have a1:bX S.k e (df M e S.k xs):=jT (Nat.le_refl _)
 refine⟨⟨fun i x hx=>gE (Nat.le_add_right _ _) (ad.l i x hx),tk (Nat.le_add_right _ _) ad.h,TX aq ad.g⟩,TW (ik a1 ad.g hf) (jz aq),?_⟩
 exact(lv a1 ad:S.den G N B (df M e S.k xs)=S.den G N B e)
theorem jd{S:ao}{dst:Option Nat}{v:ab}(ad:S.ct)(aw:v.lt S.k=true):(S.put dst v).ct:=by
 cases dst with
 |none=>exact ad
 |some d=>
  refine⟨fun i x hx=>?_,ad.h,ad.g⟩
  simp only[ao.put,ba.h0]at hx
  split at hx
  ·cases hx;exact aw
  ·exact ad.l i x hx
theorem A1{e:Env}{f:gG}{x:ab}{j:Nat}: ∀{l:List b5},AZ f x l=some j→(∀c∈l,c.ok e)→Env.at e j=⟨f.c,f.den (x.az e f.a)⟩
 | .d1 i g y::r,h,hc=>by
  simp only[AZ]at h
  split at h
  ·rename_i ad
   cases h;simp only[Bool.and_eq_true,decide_eq_true_eq]at ad
   have:=hc (.d1 j g y) (by simp)
   simp only[b5.ok]at this;rw[this,ad.1,e1 ad.2]
  ·exact A1 h fun c hm=>hc c (by simp[hm])
 | .d2 _ _ _ _::r,h,hc=>A1 (l:=r) h fun c hm=>hc c (by simp[hm])
 | .rg _ _::r,h,hc=>A1 (l:=r) h fun c hm=>hc c (by simp[hm])
 | .dU _ _::r,h,hc=>A1 (l:=r) h fun c hm=>hc c (by simp[hm])
theorem zgp{S:ao}{r:dt}{t:aV}{j:Nat}{e:Env}(h:ME S r=some (t,j))(hf:S.cu e)(aq:hy S.k r.xs=true):(ab.aU t j).den G e=r.v.den G (df M e S.k r.xs)∧Nat.blt j S.k=true∧r.ns=[]:=by
 unfold ME at h
 split at h
 ·rename_i f x bD k hx hn aw
  split at h
  ·rename_i aj
   split at h
   ·rename_i zj2 af
    split at h
    ·rename_i bH
     cases h;refine⟨?_,bH,hn⟩
     have aa:=A1 af hf
     have ae:=jz (M:=M) (e:=e) aq 0 (.f1 f x) (by rw[hx];rfl)
     rw[Nat.add_zero]at ae;rw[aw,Nat.eq_of_beq_eq_true aj];simp only[ab.den];rw[aa,ae]
     have zgq:x.lt S.k=true:=by
      rw[hx]at aq;simp only[hy,bK.lt,Bool.and_eq_true]at aq;exact aq.1
     simp only[bK.den];rw[eF (jT (Nat.le_refl _)) zgq]
    ·cases h
   ·cases h
  ·cases h
 ·cases h
theorem zgr{S:ao}{r:dt}{v:ab}{e:Env}(h:MF S r=some v)(aq:hy S.k r.xs=true):v.den G e=r.v.den G (df M e S.k r.xs)∧v.lt S.k=true∧r.ns=[]:=by
 unfold MF at h
 split at h
 ·rename_i f a b t k hx hn aw
  split at h
  ·rename_i aj
   simp only[Bool.and_eq_true]at aj
   have ae:=jz (M:=M) (e:=e) aq 0 _ (by rw[hx];rfl)
   rw[Nat.add_zero]at ae;rw[aw,Nat.eq_of_beq_eq_true aj.1,hs aj.2];unfold TS at h
   split at h<;>first|cases h|skip
   all_goals
    refine⟨?_,rfl,hn⟩
    simp only[ab.den,ae,bK.den,cB,ab.az,ab.fr,ab.dyn,cD.den];rfl
  ·cases h
 ·cases h
theorem je{S:ao}{dst:Option Nat}{v:ab}{e:Env}(hf:S.cu e):(S.put dst v).cu e:=by
 cases dst<;>exact hf
theorem jf{S:ao}{dst:Option Nat}{v:ab}:(S.put dst v).k=S.k:=by cases dst<;>rfl
end
end Go.aL
namespace Go.aL
open Go
section
variable {P:Program} {G:a8} {N B:Nat} {M:List aR} {T:List (Nat × bL)} {inl:Nat→List ab→ao→aC}
theorem cv.zgs{ops:Array Oper}{o:Oper}{rest:List Oper}{s:aP}{Q:Exit→aP→Prop}{A:aP→Prop}(ah:dO ops s o=some true)
 (h: ∀(E:Entry) (a:Act) (w:World),Rel E G s a w→∀(K:Act→World→Prop) (Q:Exit→Act→World→Prop),(∀t,A t→∀bc w',Rel E G t bc w'→K bc w')→o.wp P a w K Q)(k: ∀t,A t→cv P G ops Q rest t):cv P G ops Q (o::rest) s:=
 fun E a w ag=>wpList_step fun _ hK=>by
  have ax:=n2 ag ah
  simp only[ax,if_true];exact h E a w ag _ _ fun t aH bc w' dX=>hK bc w' (k t aH E bc w' dX)
mutual
theorem E4{n:Nat}{e:Env}: ∀{x:ab},ab.r6 n x=true→gB n (x.den G e)=true:=fun {x} h=>by
 cases x with
 |ch l=>simp only[ab.den,gB];exact xW (l:=l) h
 |tp l=>simp only[ab.den,gB];exact xW (l:=l) h
 |fn f a b=>
  simp only[ab.r6,Bool.and_eq_true]at h;simp only[ab.den,gB,xW h.1,xW h.2,Bool.and_self]
 |ee k o=>simp only[ab.den,gB];exact decide_eq_true (e7 h)
 |gN k x o=>simp only[ab.den,gB];exact decide_eq_true (e7 (i:=k) h)
 |gX k o x n=>simp only[ab.den,gB];exact decide_eq_true (e7 (i:=k) h)
 |cC k n=>simp only[ab.den,gB];exact decide_eq_true (e7 (i:=k) h)
 |fj g i o=>
  cases i with
  |none=>simp only[ab.den];cases g.az e .bool<;>rfl
  |some k=>
   have aa:decide (k<n)=true:=decide_eq_true (e7 (i:=k) h)
   simp only[ab.den];cases g.az e .bool
   ·rfl
   ·exact aa
 |aO k=>simp only[ab.den,gB];exact decide_eq_true (e7 h)
 |gZ k=>simp only[ab.den,gB];exact decide_eq_true (e7 h)
 |fJ g b x=>
  have:gB n (x.den G e)=true:=E4 h
  simp only[ab.den]
  cases g.az e .bool<;>cases b<;>first|exact this|rfl
 |lR g o=>simp only[ab.den];cases G g<;>rfl
 |_=>rfl
theorem xW{n:Nat}{e:Env}: ∀{l:List ab},ab.tz n l=true→lb n (ab.bQ G e l)=true:=fun {l} h=>by
 match l with
 |[]=>rfl
 |x::r=>
  simp only[ab.tz,Bool.and_eq_true]at h;simp only[ab.bQ,lb,E4 h.1,xW h.2,Bool.and_self]
end
theorem xX{n:Nat}{e:Env}: ∀{h:List (Nat × bG)},og n h=true→ld n (cy G e h)=true
 |[],_=>rfl
 |(id,.dj t l)::r,h=>by
  simp only[og,Bool.and_eq_true]at h;simp only[cy,bG.den,ld,xX h.2.2,xW h.2.1,decide_eq_true (e7 h.1),Bool.and_self]
 |(id,.rw t c x)::r,h=>by
  simp only[og,Bool.and_eq_true]at h;simp only[cy,bG.den,ld,xX h.2,decide_eq_true (e7 h.1),Bool.and_self]
 |(id,.it q x p)::r,h=>by
  simp only[og,Bool.and_eq_true]at h;simp only[cy,bG.den,ld,xX h.2,decide_eq_true (e7 h.1),Bool.and_self]
theorem TY: ∀{h:List (Nat × bG)} {id:Nat} {o:bG},da h id=some o→(id,o)∈h
 |(i,p)::r,id,o,h=>by
  simp only[da]at h
  split at h
  ·rename_i ad
   cases h;rw[Nat.eq_of_beq_eq_true ad];simp
  ·exact List.mem_cons_of_mem _ (TY h)
theorem zgt{n:Nat}{aM:List (Nat × bG)}{e ay:Env}: ∀{h:List (Nat × bG)},AW n aM h=true→∀id o,id<n→aE (cy G ay h) id=some o→∃cA,aE (cy G e aM) id=some cA∧EA cA o:=by
 have key: ∀{h:List (Nat × bG)},AW n aM h=true→∀id pB,(id,pB)∈h→id<n→∃cA,da aM id=some cA∧bG.kind cA pB=true:=by
  intro h
  induction h with
  |nil=>intro _ _ _ hm;cases hm
  |cons p r aY=>
   obtain⟨j,q⟩:=p;intro aj id pB hm bH;simp only[AW,Bool.and_eq_true]at aj
   rcases List.mem_cons.1 hm with he|he
   ·cases he
    have aa:=aj.1
    rw[jS bH]at aa;simp only at aa
    split at aa
    ·rename_i cA an;exact⟨cA,an,aa⟩
    ·cases aa
   ·exact aY aj.2 id pB he bH
 intro h aj id o bH ah
 rw[ei]at ah
 cases ai:da h id with
 |none=>rw[ai]at ah;cases ah
 |some pB=>
  rw[ai]at ah;cases ah;obtain⟨cA,aa,ae⟩:=key aj id pB (TY ai) bH;refine⟨cA.den G e,by rw[ei,aa];rfl,?_⟩
  cases cA<;>cases pB<;>first|trivial|(cases ae;done)|exact Nat.eq_of_beq_eq_true ae
mutual
theorem tD(id:Nat){k:Nat}: ∀{x:ab},x.lt k=true→(x.kill id).lt k=true:=fun {x} h=>by
 cases x with
 |ch l=>exact tE id (l:=l) h
 |tp l=>exact tE id (l:=l) h
 |fn f a b=>
  simp only[ab.lt,Bool.and_eq_true]at h;simp only[ab.kill,ab.lt,Bool.and_eq_true];exact⟨tE id h.1,tE id h.2⟩
 |fJ g b x=>
  simp only[ab.lt,Bool.and_eq_true]at h;simp only[ab.kill,ab.lt,Bool.and_eq_true];exact⟨h.1,tD id h.2⟩
 |ee j o=>simp only[ab.kill];split<;>first|rfl|exact h
 |gN j x o=>simp only[ab.kill];split<;>first|rfl|exact h
 |gX j o x n=>simp only[ab.kill];split<;>first|rfl|exact h
 |cC j n=>simp only[ab.kill];split<;>rfl
 |fj g i o=>
  cases i with
  |none=>exact h
  |some j=>simp only[ab.kill];split<;>exact h
 |aO j=>simp only[ab.kill];split<;>first|rfl|exact h
 |gZ j=>simp only[ab.kill];split<;>first|rfl|exact h
 |_=>exact h
theorem tE(id:Nat){k:Nat}: ∀{l:List ab},ab.cL k l=true→ab.cL k (ab.eg id l)=true:=fun {l} h=>by
 match l with
 |[]=>rfl
 |x::r=>
  simp only[ab.cL,Bool.and_eq_true]at h;simp only[ab.eg,ab.cL,Bool.and_eq_true];exact⟨tD id h.1,tE id h.2⟩
end
theorem TZ{S:ao}{o:Oper}{r:db}{e:Env}(ad:S.ct)(hf:S.cu e)(aq:hy S.k r.xs=true)(aw:r.v.lt (S.k+r.xs.length)=true)(bb:eH (S.k+r.xs.length) r.h=true):
 ((r.st S o.dst).e2 S.k r.xs).ct∧((r.st S o.dst).e2 S.k r.xs).cu (df M e S.k r.xs):=by
 obtain⟨b6,a2,_⟩:=r8 (M:=M) (G:=fun _=>none) (N:=0) (B:=0) ad hf aq
 have ah:(r.st S o.dst).g=S.g:=by unfold db.st;cases o.dst<;>rfl
 refine⟨⟨fun i x hx=>?_,?_,?_⟩,?_⟩
 ·have hx:(r.st S o.dst).l.get i=some x:=hx
  show x.lt (S.k+r.xs.length)=true
  have base: ∀x,(r.l S.l).get i=some x→x.lt (S.k+r.xs.length)=true:=fun x hx=>by
   unfold db.l at hx
   split at hx
   ·exact gE (Nat.le_add_right _ _) (ad.l i x hx)
   ·rw[ba.get_map]at hx
    cases aI:S.l.get i with
    |none=>rw[aI]at hx;cases hx
    |some y=>
     rw[aI]at hx;cases hx;exact tD _ (gE (Nat.le_add_right _ _) (ad.l i y aI))
  unfold db.st at hx
  cases hd:o.dst with
  |none=>rw[hd]at hx;exact base x hx
  |some d=>
   rw[hd]at hx;simp only[ao.put,ba.h0]at hx
   split at hx
   ·cases hx;exact aw
   ·exact base x hx
 ·have:((r.st S o.dst).e2 S.k r.xs).h=r.h:=by unfold db.st ao.e2;cases o.dst<;>rfl
  rw[this];exact bb
 ·show fk (S.k+r.xs.length) (xS S.k r.xs (r.st S o.dst).g)=true
  rw[ah];exact b6.g
 ·show ∀c∈xS S.k r.xs (r.st S o.dst).g,_
  rw[ah];exact a2
theorem A2{k:Nat}: ∀{a b:List ab},ab.cL k a=true→ab.cL k b=true→ab.cL k (a++b)=true
 |[],_,_,h=>h
 |x::a,b,h,h'=>by
  simp only[ab.cL,Bool.and_eq_true]at h;simp only[List.cons_append,ab.cL,h.1,A2 h.2 h',Bool.and_self]
theorem MH{k:Nat}{x:ab}(hx:x.lt k=true): ∀{l:List ab} {i:Nat},ab.cL k l=true→ab.cL k (l.set i x)=true
 |[],_,h=>h
 |y::l,0,h=>by simp only[ab.cL,Bool.and_eq_true,List.set]at h⊢;exact⟨hx,h.2⟩
 |y::l,i+1,h=>by simp only[ab.cL,Bool.and_eq_true,List.set]at h⊢;exact⟨h.1,MH hx h.2⟩
theorem E5{k:Nat}{o:bG}(an:o.lt k=true): ∀{l:List (Nat × bG)} {i:Nat},eH k l=true→eH k (jv l i o)=true
 |[],_,_=>by simp only[jv,eH,an,Bool.and_self]
 |(j,x)::l,i,h=>by
  simp only[eH,Bool.and_eq_true]at h;simp only[jv]
  split
  ·simp only[eH,Bool.and_eq_true];exact⟨an,h.2⟩
  ·simp only[eH,Bool.and_eq_true];exact⟨h.1,E5 an h.2⟩
theorem vI{k id:Nat}{o:bG}: ∀{l:List (Nat × bG)},eH k l=true→da l id=some o→o.lt k=true
 |[],_,h=>by cases h
 |(j,x)::l,aq,h=>by
  simp only[eH,Bool.and_eq_true]at aq;simp only[da]at h
  split at h
  ·cases h;exact aq.1
  ·exact vI aq.2 h
theorem MI{e:Env}{x:ab}: ∀{l:List ab} {i:Nat},ab.bQ G e (l.set i x)=(ab.bQ G e l).set i (x.den G e)
 |[],_=>rfl
 |y::l,0=>rfl
 |y::l,i+1=>by simp only[List.set,ab.bQ,MI (l:=l)]
theorem oh(id:Nat){k:Nat}: ∀{h:List (Nat × bG)},eH k h=true→eH k (hv id h)=true
 |[],h=>h
 |(j,.dj t l)::r,h=>by
  simp only[eH,Bool.and_eq_true]at h;unfold hv
  split
  ·exact oh id h.2
  ·simp only[eH,Bool.and_eq_true]
   exact⟨tE id h.1,oh id h.2⟩
 |(j,.rw t c x)::r,h=>by
  simp only[eH,Bool.and_eq_true]at h;unfold hv
  split
  ·exact oh id h.2
  ·simp only[eH,Bool.and_eq_true]
   exact⟨h.1,oh id h.2⟩
 |(j,.it q x p)::r,h=>by
  simp only[eH,Bool.and_eq_true]at h;unfold hv
  split
  ·exact oh id h.2
  ·simp only[eH,Bool.and_eq_true]
   exact⟨h.1,oh id h.2⟩
theorem zgu{id off k m:Nat}{C:ao}{e:Env}(ad:C.ct)(hf:C.cu e):(xU B id off k m C).ct∧(xU B id off k m C).cu e∧(xU B id off k m C).k=C.k∧cn (C.den G N B e) ((xU B id off k m C).den G N B e):=by
 unfold xU
 split
 ·rename_i t l gO c x ah hm
  split
  ·rename_i hc
   simp only[Bool.and_eq_true,Bool.not_eq_true']at hc;obtain⟨aW,⟨dq,c8⟩,gj⟩:=hc;refine⟨⟨fun i y ax=>?_,E5 (o:=.dj t _) (MH (x:=.aO k) rfl (tE _ (tE _ (vI (o:=.dj t l) ad.h ah)))) ?_,ad.g⟩,hf,rfl,?_⟩
   ·simp only[ba.get_map]at ax
    cases aI:C.l.get i with
    |none=>rw[aI]at ax;cases ax
    |some z=>
     rw[aI]at ax;simp only[Option.map_some,Option.some.injEq]at ax;subst ax;exact tD _ (tD _ (ad.l i z aI))
   ·have aa:=vI (o:=.rw gO c x) ad.h hm
    have ae:=oh k (oh m ad.h)
    simp only[eH,Bool.and_eq_true];exact⟨aa,ae⟩
   ·refine cn.zfR id off m k gO (bZ c) (t:=t) (cs:=ab.bQ G e l) (es:=List.map (cb c) (x.az e (.li c))) (by simp only[ao.den,ei,ah,Option.map_some,bG.den]) (by simp only[ao.den,ei,hm,Option.map_some,bG.den]) ?_ (Nat.le_of_ble_eq_true dq) (e7 c8) (Nat.ne_of_beq_eq_false gj) ?_
    ·rw[e6,List.getElem?_map]
     unfold E2 at aW
     split at aW
     ·rename_i aq
      rw[aq]
      have:=Nat.eq_of_beq_eq_true aW
      subst this;rfl
     ·cases aW
    ·simp only[ao.den,xN,tj,cy,bG.den,py,MI,vB,ab.den]
  ·exact⟨ad,hf,rfl,cn.refl _⟩
 ·exact⟨ad,hf,rfl,cn.refl _⟩
theorem zgv{S C:ao}{e:Env}(ad:C.ct)(hf:C.cu e):(vG B S C).ct∧(vG B S C).cu e∧(vG B S C).k=C.k∧cn (C.den G N B e) ((vG B S C).den G N B e):=by
 unfold vG
 split
 ·exact zgu ad hf
 ·exact⟨ad,hf,rfl,cn.refl _⟩
theorem cn.tA{s bp:aP}(d m k gO n:Nat){es:List (List a6)}(hm:aE s.heap m=some (.row false gO n es))(hc:s.cS[d]? =some (.aO m))(ad:s.base≤k)(bH:k<s.next)
 (h:(aP.put ⟨eg k (eg m s.cS),(k,.row false gO n es)::dv k (dv m s.heap),s.next,s.base⟩ (some d) (.aO k):aP)=bp):cn s bp:=by
 subst h
 intro E G a w ⟨β,ro,ag⟩
 have LZ:=ag.heap.c6 m _ hm
 have fe:=ag.Tq (w':=w) m k ad bH hm (.row false gO n es) (β m) rfl rfl rfl (Nat.le_refl _) (fun _ _ _=>rfl) (fun _ ad=>.inl ad) rfl (by
  cases LZ with
  |row _ _ _ xs aa ae au=>exact .row gO n es xs (by rw[dS];exact aa) ae au)
 have aw:=ag.slot d _ hc
 have T0:=fe.put (some d) (.aO k) (a.tmps.getD d undef) (by
  generalize a.tmps.getD d undef=bS at aw⊢
  cases aw with
  |aO _ _ _ ak=>
   refine .aO _ _ bH fun z bD cJ dQ _=>?_
   rw[ak _ _ _ _ hm]
   exact(dS _ _ _).symm)
 have a1:a.put (some d) (a.tmps.getD d undef)=a:=by
  have hd:d<a.tmps.size:=by
   rw[ag.size];exact(List.getElem?_eq_some_iff.1 hc).1
  have:a.tmps.setIfInBounds d (a.tmps.getD d undef)=a.tmps:=by
   apply Array.ext
   ·simp
   ·intro i aa ae
    rw[Array.getElem_setIfInBounds]
    split
    ·rename_i hi
     subst hi;simp[Array.getD,hd]
    ·rfl
  show({a with tmps:=a.tmps.setIfInBounds d (a.tmps.getD d undef)}:Act)=a
  rw[this]
 rw[a1]at T0
 exact⟨_,ro,T0⟩
theorem zgw{d k m:Nat}{C:ao}{e:Env}(hd:d<N)(ad:C.ct)(hf:C.cu e):(tA B d k m C).ct∧(tA B d k m C).cu e∧(tA B d k m C).k=C.k∧cn (C.den G N B e) ((tA B d k m C).den G N B e):=by
 unfold Go.aL.tA
 split
 ·rename_i gO c x hm
  split
  ·rename_i hc
   simp only[Bool.and_eq_true]at hc;obtain⟨aW,dq,c8⟩:=hc;refine⟨jd ⟨fun i y ax=>?_,?_,ad.g⟩ rfl,je hf,jf,?_⟩
   ·simp only[ba.get_map]at ax
    cases aI:C.l.get i with
    |none=>rw[aI]at ax;cases ax
    |some z=>
     rw[aI]at ax;simp only[Option.map_some,Option.some.injEq]at ax;subst ax;exact tD _ (tD _ (ad.l i z aI))
   ·have aa:=vI (o:=.rw gO c x) ad.h hm
    have ae:=oh k (oh m ad.h)
    simp only[eH,Bool.and_eq_true];exact⟨aa,ae⟩
   ·refine cn.tA d m k gO (bZ c) (es:=List.map (cb c) (x.az e (.li c))) (by simp only[ao.den,ei,hm,Option.map_some,bG.den]) ?_ (Nat.le_of_ble_eq_true dq) (e7 c8) ?_
    ·unfold E2 at aW
     split at aW
     ·rename_i aq
      have:=Nat.eq_of_beq_eq_true aW
      subst this;simp only[ao.den,n9,hd,if_true,Nat.zero_add,aq,ab.den]
     ·cases aW
    ·rw[fb]
     simp only[ao.den,xN,cy,bG.den,py,ab.den]
  ·exact⟨ad,hf,rfl,cn.refl _⟩
 ·exact⟨ad,hf,rfl,cn.refl _⟩
theorem zgx{S C:ao}{dst:Option Nat}{e:Env}(ad:C.ct)(hf:C.cu e):(vH B N S C dst).ct∧(vH B N S C dst).cu e∧(vH B N S C dst).k=C.k∧cn (C.den G N B e) ((vH B N S C dst).den G N B e):=by
 unfold vH
 split
 ·split
  ·split
   ·split
    ·rename_i hd
     exact zgw (e7 hd) ad hf
    ·exact⟨ad,hf,rfl,cn.refl _⟩
   ·exact⟨ad,hf,rfl,cn.refl _⟩
  ·exact⟨ad,hf,rfl,cn.refl _⟩
 ·exact⟨ad,hf,rfl,cn.refl _⟩
theorem T1{o:Oper}{S:ao}{e:Env}{f:Nat}{aG:List ab}(h:AY P N S o=some (f,aG))(hf:S.cu e)(ad:S.ct):
 ∃p q xs,ab.bQ G e aG=p++xs.toList.map (aJ G (S.den G N B e))++q∧vw P G o (S.den G N B e) f p q xs∧ab.cL S.k aG=true:=by
 have xY: ∀l:List Operand,ab.cL S.k (l.map (S.aZ N))=true:=fun l=>by
  induction l with
  |nil=>rfl
  |cons y r aY=>simp only[List.map_cons,ab.cL,D9 ad y,aY,Bool.and_self]
 unfold AY at h
 split at h
 ·rename_i c AA
  obtain⟨callee,args,ts⟩:=c
  split at h
  ·rename_i x hx
   simp only at hx;subst hx
   split at h
   ·rename_i zj3 p q' vr
    cases h;refine⟨ab.bQ G e p,ab.bQ G e q',args,?_,.value AA (by rw[bI hf,vr];rfl),?_⟩
    ·rw[e6,e6,e6,List.map_append,List.map_append,List.map_map]
     congr 2
     exact List.map_congr_left fun y _=>(bI hf y).symm
    ·have fS:=D9 (N:=N) ad x
     rw[vr]at fS;simp only[ab.lt,Bool.and_eq_true]at fS;exact A2 (A2 fS.1 (xY _)) fS.2
   ·cases h
  ·rename_i x name hx
   simp only at hx;subst hx
   split at h
   ·rename_i t a rs l vr
    split at h
    ·rename_i g v hm aw gM
     cases h;refine⟨[v.den G e],[],args,?_,.invoke AA hm fun E a w β ro ag=>zfx hf vr aw (of_decide_eq_true gM) ag,?_⟩
     ·simp only[e6,List.map_append,List.map_map,List.map_cons,List.map_nil]
      congr 2
      exact List.map_congr_left fun y _=>(bI hf y).symm
     ·have fS:=D9 (N:=N) ad x
      rw[vr]at fS;exact A2 (A2 (by simp only[ab.cL,zfz fS aw,Bool.and_self]) (xY _)) rfl
    ·cases h
   ·cases h
  ·cases h
 ·cases h
theorem MJ(bW:fP P G M inl){ops:Array Oper}{o:Oper}{r:List Oper}{S:ao}{k:ao→aC}{e:Env}{Q:Exit→aP→Prop}(ad:S.ct)(hf:S.cu e)(hw:dO ops (S.den G N B e) o=some true)(ai:(exec P N B T inl o S k).safe M e)
 (aj: ∀dc ay,dc.ct→dc.cu ay→bX S.k e ay→S.k≤dc.k→(k dc).safe M ay→run M (exec P N B T inl o S k) e=run M (k dc) ay→cv P G ops Q r (dc.den G N B ay)):cv P G ops Q (o::r) (S.den G N B e):=by
 have iD:=ai
 unfold exec at iD
 split at iD
 ·rename_i q aw
  split at iD
  ·rename_i hc
   split at iD
   ·rename_i t j A3
    have gP:exec P N B T inl o S k=k (S.put o.dst (.aU t j)):=by unfold exec;rw[aw];simp only[hc,A3]
    simp only[Bool.and_eq_true]at hc;obtain⟨cK,dI,yI⟩:=zgp (M:=M) (G:=G) A3 hf hc.1
    have bR:bX S.k e (df M e S.k q.xs):=jT (Nat.le_refl _)
    have dD:=vu (G:=G) (B:=B) (M:=M) aw (df M e S.k q.xs) (ik bR ad.g hf) (jz hc.1) (by rw[yI];intro n hn;cases hn)
    rw[lv bR ad,←cK]at dD
    have mW:(S.den G N B e).put o.dst ((ab.aU t j).den G e)=(S.put o.dst (.aU t j)).den G N B e:=by rw[fb]
    refine cv.step hw (mW ▸ dD.step) ?_
    exact aj _ e (jd ad dI) (je hf) (bX.refl _ _) (by rw[jf];exact Nat.le_refl _) iD (by rw[gP])
   rename_i A3
   split at iD
   ·rename_i v xG
    have gP:exec P N B T inl o S k=k (S.put o.dst v):=by unfold exec;rw[aw];simp only[hc,A3,xG]
    simp only[Bool.and_eq_true]at hc;obtain⟨cK,dI,yI⟩:=zgr (M:=M) (G:=G) (e:=e) xG hc.1
    have bR:bX S.k e (df M e S.k q.xs):=jT (Nat.le_refl _)
    have dD:=vu (G:=G) (B:=B) (M:=M) aw (df M e S.k q.xs) (ik bR ad.g hf) (jz hc.1) (by rw[yI];intro n hn;cases hn)
    rw[lv bR ad,←cK]at dD
    have mW:(S.den G N B e).put o.dst (v.den G e)=(S.put o.dst v).den G N B e:=by rw[fb]
    refine cv.step hw (mW ▸ dD.step) ?_
    exact aj _ e (jd ad dI) (je hf) (bX.refl _ _) (by rw[jf];exact Nat.le_refl _) iD (by rw[gP])
   rename_i xG
   have gP:exec P N B T inl o S k=emit S.k q.xs q.ns (k ((S.e2 S.k q.xs).put o.dst q.v)):=by unfold exec;rw[aw];simp only[hc,A3,xG]
   simp only[Bool.and_eq_true]at hc;obtain⟨gV,gv⟩:=mG iD;obtain⟨b6,a2,a3⟩:=r8 (M:=M) (G:=G) (N:=N) (B:=B) ad hf hc.1
   have bR:bX S.k e (df M e S.k q.xs):=jT (Nat.le_refl _)
   have dD:=vu (G:=G) (B:=B) (M:=M) aw (df M e S.k q.xs) (ik bR ad.g hf) (jz hc.1) gV
   rw[lv bR ad]at dD
   have mW:(S.den G N B e).put o.dst (q.v.den G (df M e S.k q.xs))=((S.e2 S.k q.xs).put o.dst q.v).den G N B (df M e S.k q.xs):=by rw[fb,a3]
   refine cv.step hw (mW ▸ dD.step) ?_
   exact aj _ _ (jd b6 hc.2) (je a2) bR (by rw[jf];exact Nat.le_add_right _ _) gv (by rw[gP,lV])
  ·exact iD.elim
 ·rename_i aw
  split at iD
  ·rename_i q aI
   split at iD
   ·rename_i hc
    have gP:exec P N B T inl o S k=emit S.k q.xs q.ns (k ((q.st S o.dst).e2 S.k q.xs)):=by unfold exec;rw[aw,aI];simp only[hc]
    simp only[Bool.and_eq_true]at hc;obtain⟨gV,gv⟩:=mG iD
    have bR:bX S.k e (df M e S.k q.xs):=jT (Nat.le_refl _)
    have dD:=TT (G:=G) (M:=M) aI (df M e S.k q.xs) (ik bR ad.g hf) (jz hc.1) gV
    rw[lv bR ad]at dD;obtain⟨cK,dI⟩:=TZ (M:=M) (o:=o) ad hf hc.1 hc.2.1 hc.2.2;refine cv.step hw dD ?_
    have rm:S.k≤((q.st S o.dst).e2 S.k q.xs).k:=Nat.le_add_right _ _
    exact aj ((q.st S o.dst).e2 S.k q.xs) _ cK dI bR rm gv (by rw[gP,lV])
   ·exact iD.elim
  ·rename_i aI
   split at iD
   ·rename_i q qm
    split at iD
    ·rename_i hc
     have gP:exec P N B T inl o S k=emit S.k q.xs [] (.it q.g (k (q.st S o.dst)) (k (q.xT S o.dst))):=by unfold exec;rw[aw,aI,qm];simp only[hc]
     simp only[qO.ok,Bool.and_eq_true]at hc;obtain⟨_,gv⟩:=mG iD
     have bR:bX S.k e (df M e S.k q.xs):=jT (Nat.le_refl _)
     obtain⟨b6,a2,a3⟩:=r8 (M:=M) (G:=G) (N:=N) (B:=B) ad hf hc.1.1;obtain⟨cK,dI⟩:=zgl (P:=P) (G:=G) (B:=B) qm (ik bR ad.g hf) (jz hc.1.1);rw[lv bR ad]at cK dI
     have rm: ∀b,Nat.ble S.k (S.k+b)=true:=fun b=>Nat.ble_eq_true_of_le (Nat.le_add_right _ _)
     have cr:run M (exec P N B T inl o S k) e=run M (.it q.g (k (q.st S o.dst)) (k (q.xT S o.dst))) (df M e S.k q.xs):=by rw[gP,lV]
     have dU: ∀b,q.g.az (df M e S.k q.xs) .bool=b→∀c∈(b5.dU q.g b::(S.e2 S.k q.xs).g),c.ok (df M e S.k q.xs):=fun b ah c hm=>by
      rcases List.mem_cons.1 hm with rfl|hm
      ·exact ah
      ·exact a2 c hm
     cases ah:q.g.az (df M e S.k q.xs) .bool with
     |true=>
      refine cv.step hw (cK ah) ?_
      have qP:(q.st S o.dst).ct:=TM (jd (S:={S.e2 S.k q.xs with h:=q.h,g:=.dU q.g true::(S.e2 S.k q.xs).g}) ⟨b6.l,hc.2.1,by simp only[fk,b5.lt,Bool.and_eq_true];exact⟨hc.1.2,b6.g⟩⟩ hc.2.2.1)
      have e8:(q.st S o.dst).cu (df M e S.k q.xs):=TN (je (S:={S.e2 S.k q.xs with h:=q.h,g:=.dU q.g true::(S.e2 S.k q.xs).g}) (dU true ah))
      have hd:(ao.put {S with h:=q.h} o.dst q.v).den G N B (df M e S.k q.xs)=(q.st S o.dst).den G N B (df M e S.k q.xs):=by cases o.dst<;>rfl
      rw[hd];exact aj _ _ qP e8 bR (by show S.k≤(ao.put _ _ _).k;rw[jf];exact Nat.le_add_right _ _) (gv.1 ah) (by rw[cr,tC ah])
     |false=>
      refine cv.step hw (dI ah) ?_
      have qP:(q.xT S o.dst).ct:=TM (jd (S:={S.e2 S.k q.xs with g:=.dU q.g false::(S.e2 S.k q.xs).g}) ⟨b6.l,b6.h,by simp only[fk,b5.lt,Bool.and_eq_true];exact⟨hc.1.2,b6.g⟩⟩ hc.2.2.2)
      have e8:(q.xT S o.dst).cu (df M e S.k q.xs):=TN (je (S:={S.e2 S.k q.xs with g:=.dU q.g false::(S.e2 S.k q.xs).g}) (dU false ah))
      have hd:(S.put o.dst q.bh).den G N B (df M e S.k q.xs)=(q.xT S o.dst).den G N B (df M e S.k q.xs):=by cases o.dst<;>rfl
      rw[hd];exact aj _ _ qP e8 bR (by show S.k≤(ao.put _ _ _).k;rw[jf];exact Nat.le_add_right _ _) (gv.2 ah) (by rw[cr,tC ah])
    ·exact iD.elim
   rename_i qm
   split at iD
   ·rename_i f aG vd
    split at iD
    ·rename_i gC
     have gP:exec P N B T inl o S k=iM N S ((inl f aG S).eJ (AX S o.dst) none) fun C=>k (vH B N S (vG B S C) o.dst):=by unfold exec;rw[aw,aI,qm,vd];simp only[gC]
     obtain⟨t1,_,t3⟩:=EV (G:=G) (B:=B) ad hf iD;obtain⟨g1,g2,g3⟩:=jg (inl f aG S) none t1;obtain⟨p,q',args,mW,vx,bH⟩:=T1 (G:=G) (B:=B) vd hf ad
     have hp:=bW f _ S e ad bH hf g1
     rw[mW]at hp
     refine cv.zgs (A:=fun t=>∃C ay,run M (inl f aG S) e=some (.cj,C,ay)∧C.ct∧C.cu ay∧bX S.k e ay∧S.k≤C.k∧E0 S C=true∧t=(S.back o.dst C).den G N B ay) hw
      (zfE vx gC hp fun r bV ⟨C,ay,aW,dq,c8,gj,iO,kD,jI⟩=>?_) fun t ⟨C,ay,aW,gj,iO,kD,jI,bg,aH⟩=>?_
     ·have ah:=(g3 C ay aW).1
      have bg:E0 S C=true:=by
       unfold AX at ah
       split at ah
       ·assumption
       ·exact ah.elim
      have eu:=bg
      simp only[E0,Bool.and_eq_true]at eu;refine⟨C.n,Nat.le_of_ble_eq_true eu.2.1,?_,?_,?_,C,ay,aW,gj,iO,kD,jI,bg,?_⟩
      ·rw[dq];exact E4 eu.1.1
      ·rw[c8];exact xX eu.1.2
      ·rw[c8];exact zgt eu.2.2
      ·rw[dq,c8,ao.back,fb]
       have:=lv (G:=G) (N:=N) (B:=B) kD ad
       have ql:kd G ay S.l 0 N=kd G e S.l 0 N:=congrArg aP.cS this
       simp only[ao.den,ql]
     ·subst aH
      have ah:=(g3 C ay aW)
      have cr:run M ((inl f aG S).eJ (AX S o.dst) none) e=some (.cj,S.back o.dst C,ay):=by
       rw[g2,aW];simp only[iB,AX,bg];rfl
      have qP:(S.back o.dst C).ct:=by
       unfold ao.back;refine jd ⟨fun i x hx=>gE jI (ad.l i x hx),gj.h,gj.g⟩ ?_
       show(C.at 0).lt C.k=true;unfold ao.at
       cases hD:C.l.get 0 with
       |none=>rfl
       |some y=>exact gj.l 0 y hD
      obtain⟨dP,bf,s1,s2,ky,kz,kA,kB,kX⟩:=t3 _ _ cr qP (je iO) kD (by unfold ao.back;rw[jf];exact jI)
      obtain⟨gV,gv,MK,zgy⟩:=zgv (G:=G) (N:=N) (B:=B) (S:=S) s2 ky;obtain⟨dH,eR,zgz,zgA⟩:=zgx (G:=G) (N:=N) (B:=B) (S:=S) (dst:=o.dst) gV gv;exact cv.le (cn.trans s1 (cn.trans zgy zgA)) (aj _ bf dH eR kz (by rw[zgz,MK];exact kA) kB (by rw[gP,kX]))
    ·exact iD.elim
   ·exact iD.elim
def T2(G:a8)(N B:Nat)(ops:Array Oper)(o:Oper)(S:ao)(e:Env):EY→Prop
 | .yes=>dO ops (S.den G N B e) o=some true
 | .no=>dO ops (S.den G N B e) o=some false
 | .on gs=>(fN e gs=true→dO ops (S.den G N B e) o=some true)∧(fN e gs=false→dO ops (S.den G N B e) o=some false)
 | .bad=>True
def qQ(b:Bool):aD→Option Bool
 | .av (.v (.bool c))=>some (c==b)
 | .tuple _=>some false
 |_=>none
def E6(G:a8)(b:Bool)(e:Env)(v:ab):EY→Prop
 | .yes=>qQ b (v.den G e)=some true
 | .no=>qQ b (v.den G e)=some false
 | .on gs=>(fN e gs=true→qQ b (v.den G e)=some true)∧(fN e gs=false→qQ b (v.den G e)=some false)
 | .bad=>True
theorem T3{a b:Bool}(h:a=b):(a==b)=true:=by cases a<;>cases b<;>first|rfl|cases h
theorem T4{a b:Bool}(h: ¬a=b):(a==b)=false:=by cases a<;>cases b<;>first|rfl|exact absurd rfl h
theorem ly{l:List b5}{b:Bool}{e:Env}(hf: ∀c∈l,c.ok e)(g:ab):E6 G b e g (match g.rt,lu g l with
 |some .bool,some c=>match decide (c=b)with
  |true=>.yes
  |false=>.no
 |some .bool,none=>.on [(g,b)]
 |_,_=>.bad):=by
 split
 ·rename_i c aa ae
  have aj:=qF ae hf
  have hd:=fY (G:=G) (e:=e) aa
  rw[aj]at hd
  cases gC:decide (c=b)with
  |true=>show qQ b (g.den G e)=some true;rw[hd];exact congrArg some (T3 (of_decide_eq_true gC))
  |false=>show qQ b (g.den G e)=some false;rw[hd];exact congrArg some (T4 (of_decide_eq_false gC))
 ·rename_i aa ae
  have hd:=fY (G:=G) (e:=e) aa
  simp only[E6,fN,Bool.and_true];rw[hd];exact⟨fun h=>congrArg some h,fun h=>congrArg some h⟩
 ·trivial
theorem xZ{h:ab}{c:Bool}{v:ab}{e:Env}(hc:h.az e .bool=c):(ab.fJ h c v).den G e=v.den G e:=by
 simp only[ab.den,hc];cases c<;>rfl
theorem T5{h:ab}{c:Bool}{v:ab}{e:Env}(hc:h.az e .bool= !c):(ab.fJ h c v).den G e= .tuple []:=by
 simp only[ab.den,hc];cases c<;>rfl
theorem T6{l:List b5}{b:Bool}{e:Env}(hf: ∀c∈l,c.ok e): ∀v:ab,E6 G b e v (vF l b v)
 | .fJ h c v=>by
  have aY:=T6 (b:=b) hf v
  have ML:h.az e .bool≠c→qQ b ((ab.fJ h c v).den G e)=some false:=fun hn=>by
   rw[T5 (by cases bb:h.az e .bool<;>cases c<;>first|rfl|exact absurd bb hn)]
   rfl
  simp only[vF]
  split
  ·cases ah:vF l b v with
   |yes=>
    rw[ah]at aY;refine⟨fun a1=>?_,fun a1=>?_⟩
    ·simp only[fN,Bool.and_true,beq_iff_eq]at a1
     rw[xZ a1];exact aY
    ·simp only[fN,Bool.and_true,beq_eq_false_iff_ne]at a1
     exact ML a1
   |no=>
    rw[ah]at aY;show qQ b _=some false
    by_cases bb:h.az e .bool=c
    ·rw[xZ bb];exact aY
    ·exact ML bb
   |on gs=>
    rw[ah]at aY;refine⟨fun a1=>?_,fun a1=>?_⟩
    ·simp only[fN,Bool.and_eq_true,beq_iff_eq]at a1
     rw[xZ a1.1];exact aY.1 a1.2
    ·by_cases bb:h.az e .bool=c
     ·rw[xZ bb]
      refine aY.2 ?_
      simp only[fN,bb,beq_self_eq_true,Bool.true_and]at a1;exact a1
     ·exact ML bb
   |bad=>trivial
  ·trivial
 | .cs x=>by
  unfold vF
  split
  ·rename_i c heq
   cases heq
   cases gC:decide (c=b)with
   |true=>exact congrArg some (T3 (of_decide_eq_true gC))
   |false=>exact congrArg some (T4 (of_decide_eq_false gC))
  ·rename_i heq;cases heq
  ·rename_i heq;cases heq
  ·exact ly hf _
 | .tp l=>rfl
 | .aU r i=>ly hf (.aU r i)
 | .fd c i k r=>ly hf (.fd c i k r)
 | .ip c i k=>ly hf (.ip c i k)
 | .ch l=>ly hf (.ch l)
 | .ee i o=>ly hf (.ee i o)
 | .gN i x o=>ly hf (.gN i x o)
 | .aO i=>ly hf (.aO i)
 | .fn f a b=>ly hf (.fn f a b)
 | .gZ i=>ly hf (.gZ i)
 | .lR g o=>ly hf (.lR g o)
 | .gX i o x n=>ly hf (.gX i o x n)
 | .cC i n=>ly hf (.cC i n)
 | .fj g i o=>ly hf (.fj g i o)
 | .et t a rs l=>ly hf (.et t a rs l)
 | .top=>ly hf .top
theorem MM{ops:Array Oper}{o:Oper}{S:ao}{e:Env}(hf:S.cu e):T2 G N B ops o S e (guardOf N ops S o):=by
 unfold guardOf
 cases ah:o.guard with
 |none=>simp only[T2,dO,ah]
 |some Kz=>
  obtain⟨j,b⟩:=Kz;simp only
  cases hd:mm ops j with
  |none=>trivial
  |some d=>
   simp only
   cases gU:Nat.blt d N with
   |false=>trivial
   |true=>
    have bH:d<N:=e7 gU
    have ag:=Lb (G:=G) hf (x:=S.at d)
    have hc:=T6 (G:=G) (b:=b) hf ((S.at d).res S.g)
    rw[E6.eq_def]at hc
    have key: ∀q,qQ b (((S.at d).res S.g).den G e)=some q→dO ops (S.den G N B e) o=some q:=fun q h=>by
     rw[ag]at h;simp only[dO,ah,hd,vk,if_pos bH];generalize (S.at d).den G e=v at h;unfold qQ at h
     split at h
     ·rename_i c
      cases h
      cases b<;>cases c<;>rfl
     ·cases h;rfl
     ·cases h
    simp only;generalize vF S.g b ((S.at d).res S.g)=fJ at hc
    cases fJ with
    |yes=>exact key _ hc
    |no=>exact key _ hc
    |on gs=>exact⟨fun h=>key _ (hc.1 h),fun h=>key _ (hc.2 h)⟩
    |bad=>trivial
end
end Go.aL
namespace Go.aL
open Go
section
variable {P:Program} {G:a8} {N B:Nat} {M:List aR} {T:List (Nat × bL)} {inl:Nat→List ab→ao→aC}
theorem A4{S:ao}{g:ab}{b:Bool}(ad:S.ct)(ah:g.lt S.k=true):({S with g:=.dU g b::S.g}:ao).ct:=
 ⟨ad.l,ad.h,by
  show(b5.lt S.k (.dU g b)&&fk S.k S.g)=true;rw[ad.g,Bool.and_true]
  exact ah⟩
theorem A5{S:ao}{g:ab}{b:Bool}{e:Env}(hf:S.cu e)(ah:g.az e .bool=b):({S with g:=.dU g b::S.g}:ao).cu e:=fun c hc=>by
 rcases List.mem_cons.1 hc with rfl|hc
 ·exact ah
 ·exact hf c hc
theorem MN{a b:Bool}(h: ¬a=b):a= !b:=by cases a<;>cases b<;>first|rfl|exact absurd rfl h
theorem T7{g:ab}{b:Bool}{x y:aC}{e:Env}(h:g.az e .bool=b):run M (E3 g b x y) e=run M x e:=by
 cases b<;>exact tC h
theorem zgB{g:ab}{b:Bool}{x y:aC}{e:Env}(h:g.az e .bool= !b):run M (E3 g b x y) e=run M y e:=by
 cases b<;>exact tC h
theorem zgC{g:ab}{b:Bool}{x y:aC}{e:Env}(ai:(E3 g b x y).safe M e)(h:g.az e .bool=b):x.safe M e:=by
 cases b with
 |true=>exact ai.1 h
 |false=>exact ai.2 h
theorem x1{S:ao}: ∀{gs:List (ab × Bool)},S.ct→lW S.k gs=true→({S with g:=hz gs S.g}:ao).ct
 |[],ad,_=>ad
 |(g,b)::r,ad,h=>by
  simp only[lW,Bool.and_eq_true]at h;exact A4 (S:={S with g:=hz r S.g}) (b:=b) (x1 ad h.2) h.1
theorem x2{S:ao}{e:Env}: ∀{gs:List (ab × Bool)},S.cu e→fN e gs=true→({S with g:=hz gs S.g}:ao).cu e
 |[],hf,_=>hf
 |(g,b)::r,hf,h=>by
  simp only[fN,Bool.and_eq_true,beq_iff_eq]at h;exact A5 (S:={S with g:=hz r S.g}) (b:=b) (x2 hf h.2) h.1
theorem E7{k:Nat}{v:ab}: ∀{gs:List (ab × Bool)},lW k gs=true→v.lt k=true→(kh gs v).lt k=true
 |[],_,h=>h
 |(g,b)::r,ah,h=>by
  simp only[lW,Bool.and_eq_true]at ah;simp only[kh,ab.lt,ah.1,E7 ah.2 h,Bool.and_self]
theorem E8{k m:Nat}(h:k≤m): ∀{gs:List (ab × Bool)},lW k gs=true→lW m gs=true
 |[],_=>rfl
 |(g,b)::r,ah=>by
  simp only[lW,Bool.and_eq_true]at ah⊢;exact⟨gE h ah.1,E8 h ah.2⟩
theorem E9{k:Nat}{e ay:Env}(h:bX k e ay): ∀{gs:List (ab × Bool)},lW k gs=true→fN ay gs=fN e gs
 |[],_=>rfl
 |(g,b)::r,ah=>by
  simp only[lW,Bool.and_eq_true]at ah;simp only[fN,eF h ah.1,E9 h ah.2]
theorem Fa{v:ab}{e:Env}: ∀{gs:List (ab × Bool)},fN e gs=true→(kh gs v).den G e=v.den G e
 |[],_=>rfl
 |(g,b)::r,h=>by
  simp only[fN,Bool.and_eq_true,beq_iff_eq]at h;exact(xZ h.1).trans (Fa h.2)
theorem Fb{v:ab}{e:Env}: ∀{gs:List (ab × Bool)},fN e gs=false→(kh gs v).den G e= .tuple []
 |[],h=>by cases h
 |(g,b)::r,h=>by
  by_cases ah:g.az e .bool=b
  ·simp only[fN,ah,beq_self_eq_true,Bool.true_and]at h
   exact(xZ ah).trans (Fb h)
  ·exact T5 (MN ah)
theorem Fc{n:ff}{e:Env}: ∀{gs:List (ab × Bool)},(qN gs n).ok M e→fN e gs=true→n.ok M e
 |[],h,_=>h
 |(g,b)::r,h,a1=>by
  simp only[fN,Bool.and_eq_true,beq_iff_eq]at a1;exact Fc (gs:=r) (h a1.1) a1.2
theorem MO{x:aC}{y:List b5→aC}{e:Env}: ∀{gs:List (ab × Bool)} {l:List b5},fN e gs=true→run M (tB y gs x l) e=run M x e∧((tB y gs x l).safe M e→x.safe M e)
 |[],_,_=>⟨rfl,fun h=>h⟩
 |(g,b)::r,l,h=>by
  simp only[fN,Bool.and_eq_true,beq_iff_eq]at h;obtain⟨aa,ae⟩:=MO (x:=x) (y:=y) (l:=.dU g b::l) h.2;exact⟨(T7 h.1).trans aa,fun ai=>ae (zgC ai h.1)⟩
theorem MP{x:aC}{y:List b5→aC}{e:Env}{k:Nat}: ∀{gs:List (ab × Bool)} {l:List b5},fN e gs=false→lW k gs=true→fk k l=true→(∀c∈l,c.ok e)→∃h2,run M (tB y gs x l) e=run M (y h2) e∧fk k h2=true∧∀c∈h2,c.ok e
 |[],_,h,_,_,_=>by cases h
 |(g,b)::r,l,h,ah,aq,hc=>by
  simp only[lW,Bool.and_eq_true]at ah
  have sX: ∀b,fk k (.dU g b::l)=true:=fun b=>by
   show(b5.lt k (.dU g b)&&fk k l)=true;rw[aq,Bool.and_true];exact ah.1
  by_cases fu:g.az e .bool=b
  ·simp only[fN,fu,beq_self_eq_true,Bool.true_and]at h
   obtain⟨h2,aa,ae,au⟩:=MP (x:=x) (y:=y) (k:=k) (gs:=r) (l:=.dU g b::l) h ah.2 (sX b) fun c hm=>by
    rcases List.mem_cons.1 hm with rfl|hm
    ·exact fu
    ·exact hc c hm
   exact⟨h2,(T7 fu).trans aa,ae,au⟩
  ·refine⟨.dU g (!b)::l,zgB (MN fu),sX _,fun c hm=>?_⟩
   rcases List.mem_cons.1 hm with rfl|hm
   ·exact MN fu
   ·exact hc c hm
theorem T8{S:ao}{dst:Option Nat}{l:List b5}{e:Env}(ad:S.ct)(aq:fk S.k l=true)(hc: ∀c∈l,c.ok e):
 ∃aT:ao,r7 S dst l= .cH .cj aT∧aT.ct∧aT.cu e∧S.k≤aT.k∧aT.den G N B e=(S.den G N B e).put dst (.tuple []):=
 ⟨_,rfl,jd ⟨ad.l,ad.h,aq⟩ rfl,je hc,by rw[jf];exact Nat.le_refl _,by rw[fb];rfl⟩
mutual
theorem T9(id t n:Nat)(es:List (List a6)): ∀a:aD,Sub (hO [(id,.row true t n es)] a) (dY id a):=fun a=>by
 cases a with
 |agg l=>exact(x3 id t n es l).agg
 |tuple l=>exact(x3 id t n es l).tuple
 |aO k=>
  by_cases h:k=id
  ·simp only[dY,h,if_true]
   exact Sub.top _
  ·simp only[dY,h,if_false,hO,aE,if_neg (fun e:id=k=>h e.symm)]
   exact Sub.refl _
 |fn f p q=>
  intro w ro σ β N c hc;simp only[hO]at hc
  cases hc with
  |fn _ _ _ c d aa ae au aQ=>
   have ak:=(x3 id t n es p).at
   have aI:=(x3 id t n es q).at
   refine .fn f _ _ c d (by rw[aa,ak.1]) (by rw[ae,aI.1]) (fun j y af=>?_) fun j y af=>?_
   ·obtain⟨x,hx,ai⟩:=ak.2 j y af
    exact ai _ _ _ _ _ _ (au j x hx)
   ·obtain⟨x,hx,ai⟩:=aI.2 j y af
    exact ai _ _ _ _ _ _ (aQ j x hx)
 |av x=>exact Sub.refl _
 |top=>exact Sub.refl _
 |ptr k o=>simp only[dY,hO];split<;>first|exact Sub.top _|exact Sub.refl _
 |dA k o=>simp only[dY,hO];split<;>first|exact Sub.top _|exact Sub.refl _
 |cW k i o=>simp only[dY,hO];split<;>first|exact Sub.top _|exact Sub.refl _
 |ref k=>simp only[dY,hO];split<;>first|exact Sub.top _|exact Sub.refl _
theorem x3(id t n:Nat)(es:List (List a6)): ∀l:List aD,fU (kG [(id,.row true t n es)] l) (eg id l):=fun l=>by
 match l with
 |[]=>exact .nil
 |x::r=>exact .cons (T9 id t n es x) (x3 id t n es r)
end
theorem Ua(σ:Heap): ∀l:List aD,kG σ l=l.map (hO σ)
 |[]=>rfl
 |x::r=>by simp only[kG,List.map_cons,Ua σ r]
theorem zgD{e:Env}{id t:Nat}{c:bL}{k:Nat}: ∀y:ab,Sub (hO [(id,.row true t (bZ c) (List.map (cb c) ((ab.aU (.li c) k).az e (.li c))))] (y.den G e)) ((ab.m8 id (.aU (.li c) k) y).den G e):=fun y=>by
 unfold ab.m8
 split
 ·rename_i j
  split
  ·rename_i af
   obtain rfl:=Nat.eq_of_beq_eq_true af;simp only[ab.den,hO,aE,if_true];rw[show(ab.aU (.li c) k).az e (.li c)=(Env.at e k).aG (.li c)by simp only[ab.az,ab.fr,ab.dyn,cB]]
   exact lQ.fo fun _ _ _ h=>.li _ _ _ h
  ·rename_i af
   have b4: ¬id=j:=fun h=>by rw[h,Nat.beq_refl]at af;cases af
   simp only[ab.den,hO,aE,if_neg b4];exact Sub.refl _
 ·rw[EC]
  exact T9 _ _ _ _ _
theorem zgE{S:ao}{e:Env}(id:Nat)(ad:S.ct)(hf:S.cu e):(xV S id).ct∧(xV S id).cu e∧(xV S id).k=S.k∧cn (S.den G N B e) ((xV S id).den G N B e):=by
 unfold xV
 split
 ·rename_i t c r k ah
  split
  ·rename_i ag
   cases hs ag
   have hx:(ab.aU (.li c) k).lt S.k=true:=vI (o:=.rw t c (.aU (.li c) k)) ad.h ah
   refine⟨⟨fun i y ax=>?_,oh id ad.h,ad.g⟩,hf,rfl,?_⟩
   ·simp only[MD,ba.get_map]at ax
    cases aI:S.l.get i with
    |none=>rw[aI]at ax;cases ax
    |some z=>
     rw[aI]at ax;simp only[Option.map_some,Option.some.injEq]at ax;subst ax;show(ab.m8 id _ z).lt S.k=true;unfold ab.m8
     split
     ·split
      ·exact hx
      ·rfl
     ·exact tD _ (ad.l i z aI)
   ·have bd:aE (S.den G N B e).heap id=some (.row false t (bZ c) (List.map (cb c) ((ab.aU (.li c) k).az e (.li c)))):=by
     simp only[ao.den,ei,ah,Option.map_some,bG.den]
    refine(cn.m8 (S.den G N B e) id).trans ?_
    unfold Go.aL.m8;rw[bd];refine cn.of rfl (Nat.le_refl _) ?_ (fun i v aw=>?_) fun j o an=>?_
    ·simp only[ao.den,nV,D8]
    ·simp only[ao.den,n9]at aw
     split at aw
     rotate_left
     ·cases aw
     rename_i hi;simp only[MD,ba.get_map,Option.some.injEq]at aw;subst aw
     refine⟨hO [(id,.row true t (bZ c) (List.map (cb c) ((ab.aU (.li c) k).az e (.li c))))] (match S.l.get (0+i)with
      |some x=>x.den G e
      |none=>.top),by simp only[ao.den,Ua,List.getElem?_map,n9,if_pos hi,Option.map_some]<;>rfl,?_⟩
     cases aI:S.l.get (0+i)with
     |none=>exact Sub.top _
     |some z=>exact zgD z
    ·have an:aE (cy G e (hv id S.h)) j=some o:=an
     rw[py,qp]at an
     split at an
     ·cases an
     rename_i b4
     cases aI:aE (cy G e S.h) j with
     |none=>rw[aI]at an;cases an
     |some Ub=>
      rw[aI]at an;simp only[Option.map_some,Option.some.injEq]at an;subst an;refine⟨kJ [(id,.row true t (bZ c) (List.map (cb c) ((ab.aU (.li c) k).az e (.li c))))] Ub,?_,?_⟩
      ·rw[qu,zD]
       rw[if_neg (fun h=>b4 h.symm)];show Option.map _ (aE (cy G e S.h) j)=_;rw[aI];rfl
      ·cases Ub with
       |box t cs=>exact .box t (x3 _ _ _ _ cs)
       |row z t n es=>exact .same _
       |bM bP=>exact .same _
  ·exact⟨ad,hf,rfl,cn.refl _⟩
 ·exact⟨ad,hf,rfl,cn.refl _⟩
theorem MQ{e:Env}: ∀(aG:List ab) {S:ao},S.ct→S.cu e→(mH aG S).ct∧(mH aG S).cu e∧(mH aG S).k=S.k∧cn (S.den G N B e) ((mH aG S).den G N B e)
 |[],S,ad,hf=>⟨ad,hf,rfl,cn.refl _⟩
 |a::r,S,ad,hf=>by
  unfold mH
  split
  ·rename_i h;cases h
  ·rename_i id eQ h
   cases h;obtain⟨aa,ae,au,aQ⟩:=zgE (G:=G) (N:=N) (B:=B) id ad hf;obtain⟨g1,g2,g3,g4⟩:=MQ r aa ae;exact⟨g1,g2,g3.trans au,aQ.trans g4⟩
  ·rename_i h
   cases h;exact MQ r ad hf
theorem zgF{ops:Array Oper}{o:Oper}{S:ao}{aG:List ab}{e:Env}(ak:preB P N S o=some aG)(ad:S.ct)(hf:S.cu e):
 (mH aG S).ct∧(mH aG S).cu e∧(mH aG S).k=S.k∧cn (S.den G N B e) ((mH aG S).den G N B e)∧dO ops ((mH aG S).den G N B e) o=some true:=by
 have hn:o.guard=none:=by
  unfold preB at ak
  split at ak
  ·split at ak
   ·cases ak
   ·assumption
  ·cases ak
 obtain⟨aa,ae,au,aQ⟩:=MQ (G:=G) (N:=N) (B:=B) aG ad hf
 exact⟨aa,ae,au,aQ,by unfold dO;rw[hn]⟩
theorem uF(bW:fP P G M inl){ops:Array Oper}: ∀(l:List Oper) {S:ao} {e:Env} {Q:Exit→aP→Prop},S.ct→S.cu e→(hJ P N B T inl ops l S).safe M e→(∀ex st,jB G N B M (hJ P N B T inl ops l S) e S.k ex st→Q ex st)→cv P G ops Q l (S.den G N B e)
 |[],S,e,Q,ad,hf,_,ew=>cv.nil (ew _ _ ⟨.cj,S,e,rfl,trivial,cn.refl _,ad,hf,bX.refl _ _,Nat.le_refl _⟩)
 |o::r,S,e,Q,ad,hf,ai,ew=>by
  have ah:=MM (G:=G) (N:=N) (B:=B) (ops:=ops) (o:=o) hf
  have eX:=ai
  unfold hJ at eX
  cases iX:guardOf N ops S o with
  |yes=>
   rw[iX]at ah eX;simp only at eX
   cases ak:preB P N S o with
   |some aG=>
    rw[ak]at eX
    have gP:hJ P N B T inl ops (o::r) S=exec P N B T inl o (mH aG S) (hJ P N B T inl ops r):=by rw[hJ,iX];simp only[ak]
    obtain⟨f1,f2,f3,f4,f5⟩:=zgF (G:=G) (B:=B) (ops:=ops) ak ad hf;refine cv.le f4 (MJ bW f1 f2 f5 eX fun dc ay aa ae au aQ bF cG=>uF bW r aa ae bF fun ex st ak=>ew ex st (ak.sub ?_ (f3 ▸ au) (f3 ▸ aQ)))
    rw[gP,cG]
   |none=>
    rw[ak]at eX
    have gP:hJ P N B T inl ops (o::r) S=exec P N B T inl o S (hJ P N B T inl ops r):=by rw[hJ,iX];simp only[ak]
    refine MJ bW ad hf ah eX fun dc ay aa ae au aQ bF cG=>uF bW r aa ae bF fun ex st ak=>ew ex st (ak.sub ?_ au aQ)
    rw[gP,cG]
  |no=>
   rw[iX]at ah eX
   have gP:hJ P N B T inl ops (o::r) S=hJ P N B T inl ops r (S.put o.dst (.tp [])):=by rw[hJ,iX]
   refine cv.pass ah ?_
   have hd:(S.den G N B e).put o.dst (.tuple [])=(S.put o.dst (.tp [])).den G N B e:=by rw[fb];rfl
   rw[hd];refine uF bW r (jd ad rfl) (je hf) eX fun ex st ak=>ew ex st (ak.sub (by rw[gP]) (bX.refl _ _) (by rw[jf];exact Nat.le_refl _))
  |on gs=>
   rw[iX]at ah eX;simp only at eX;obtain⟨g1,g2⟩:=ah
   split at eX
   ·rename_i kN
    split at eX
    ·rename_i q aw
     split at eX
     ·rename_i hc
      have gP:hJ P N B T inl ops (o::r) S=emit S.k q.xs (q.ns.map (qN gs)) (hJ P N B T inl ops r ((S.e2 S.k q.xs).put o.dst (kh gs q.v))):=by rw[hJ,iX];simp only[kN,aw,hc]
      simp only[Bool.and_eq_true]at hc;obtain⟨gV,gv⟩:=mG eX;obtain⟨b6,a2,a3⟩:=r8 (M:=M) (G:=G) (N:=N) (B:=B) ad hf hc.1
      have bR:bX S.k e (df M e S.k q.xs):=jT (Nat.le_refl _)
      have hX:fN (df M e S.k q.xs) gs=fN e gs:=E9 bR kN
      have aj:S.k≤S.k+q.xs.length:=Nat.le_add_right _ _
      have fD:(kh gs q.v).lt (S.k+q.xs.length)=true:=E7 (E8 aj kN) hc.2
      have MR:((S.e2 S.k q.xs).put o.dst (kh gs q.v)).ct:=jd b6 fD
      have A6:=uF bW (ops:=ops) r (Q:=Q) MR (je a2) gv fun ex st ak=>ew ex st (ak.sub (by rw[gP,lV]) bR (by rw[jf];exact aj))
      rw[fb,a3]at A6
      cases fu:fN e gs with
      |true=>
       have h5:=x2 hf fu
       have ih:=x1 ad kN
       have dD:=vu (G:=G) (B:=B) (M:=M) aw (df M e S.k q.xs) (ik bR ih.g h5) (jz hc.1) fun n hn=>Fc (gV (qN gs n) (List.mem_map.2 ⟨n,hn,rfl⟩)) (hX.trans fu)
       have x4:({S with g:=hz gs S.g}:ao).den G N B (df M e S.k q.xs)=S.den G N B e:=lv (S:={S with g:=hz gs S.g}) bR ih
       rw[x4]at dD;refine cv.step (g1 fu) dD.step ?_
       rw[Fa (hX.trans fu)]at A6;exact A6
      |false=>
       refine cv.pass (g2 fu) ?_
       rw[Fb (hX.trans fu)]at A6;exact A6
     ·exact eX.elim
    ·rename_i aw
     have gP:hJ P N B T inl ops (o::r) S=qL N S o.dst gs (tB (r7 S o.dst) gs (exec P N B T inl o {S with g:=hz gs S.g} (.cH .cj)) S.g) (hJ P N B T inl ops r):=by rw[hJ,iX];simp only[aw,kN]
     obtain⟨t1,_,t3⟩:=Mv (G:=G) (B:=B) ad hf eX
     have fin: ∀(aT:ao) (aB:Env),run M (tB (r7 S o.dst) gs (exec P N B T inl o {S with g:=hz gs S.g} (.cH .cj)) S.g) e=some (.cj,aT,aB)→aT.ct→aT.cu aB→bX S.k e aB→S.k≤aT.k→cv P G ops Q r (aT.den G N B aB):=fun aT aB ag aa ae au aQ=>by
      obtain⟨dP,bf,s1,s2,ky,kz,kA,kB,kX⟩:=t3 aT aB ag aa ae au aQ;exact cv.le s1 (uF bW r s2 ky kB fun ex st ak=>ew ex st (ak.sub (by rw[gP,kX]) kz kA))
     cases fu:fN e gs with
     |false=>
      refine cv.pass (g2 fu) ?_
      obtain⟨h2,c1,dg,gY⟩:=MP (M:=M) (x:=exec P N B T inl o {S with g:=hz gs S.g} (.cH .cj)) (y:=r7 S o.dst) (l:=S.g) fu kN ad.g hf
      obtain⟨aT,r4,pD,MS,MT,MU⟩:=T8 (G:=G) (N:=N) (B:=B) (dst:=o.dst) ad dg gY;rw[←MU];exact fin aT e (by rw[c1,r4];rfl) pD MS (bX.refl _ _) MT
     |true=>
      have h5:=x2 hf fu
      have ih:=x1 ad kN
      obtain⟨f1,f2⟩:=MO (M:=M) (x:=exec P N B T inl o {S with g:=hz gs S.g} (.cH .cj)) (y:=r7 S o.dst) (l:=S.g) fu
      refine MJ bW (S:={S with g:=hz gs S.g}) ih h5 (g1 fu) (f2 t1) fun dc ay aa ae au aQ _ cG=>fin dc ay ?_ aa ae au aQ
      exact f1.trans cG
   ·exact eX.elim
  |bad=>rw[iX]at eX;exact eX.elim
end
end Go.aL
namespace Go.aL
open Go
def A7(i:Nat)(y:ab):List b5→Bool
 |[]=>false
 | .rg j b::r=>(Nat.beq j i&&eI b y)||A7 i y r
 |_::r=>A7 i y r
def x5(j:Nat)(all:List b5):List b5→Option Bool
 |[]=>none
 | .d2 i (.ph .lss .i64) x y::r=>match Nat.beq i j with
  |true=>match eI x y with
   |true=>some false
   |false=>match x with
    | .aU (.int .i64) m=>match A7 m y all&&(match y.rt with|some (.int .i64)=>true|_=>false)with
     |true=>some true
     |false=>none
    |_=>none
  |false=>x5 j all r
 |_::r=>x5 j all r
def MV(g:ab)(l:List b5):Option Bool:=
 match lu g l with
 |some b=>some b
 |none=>match g with
  | .aU .bool j=>x5 j l l
  |_=>none
def A8(i:Nat):List b5→Option ab
 |[]=>none
 | .d1 j .nf x::r=>match Nat.beq j i with
  |true=>match x.rt with
   |some .bool=>some x
   |_=>none
  |false=>A8 i r
 |_::r=>A8 i r
def ao.dU(S:ao)(v:ab)(b:Bool):ao:=
 match v with
 | .aU .bool i=>match A8 i S.g with
  |some x=>{S with g:=.dU x (!b):: .dU (.aU .bool i) b::S.g}
  |none=>{S with g:=.dU (.aU .bool i) b::S.g}
 |v=>{S with g:=.dU v b::S.g}
def MW(N:Nat)(S:ao)(x:Operand)(f g:ao→aC):aC:=
 match S.aZ N x with
 | .cs (.bool true)=>f S
 | .cs (.bool false)=>g S
 |v=>match v.rt with
  |some .bool=>match MV v S.g with
   |some true=>f S
   |some false=>g S
   |none=>.it v (f (S.dU v true)) (g (S.dU v false))
  |_=>.bad 38
def comp(P:Program)(N B:Nat)(T:List (Nat × bL))(inl:Nat→List ab→ao→aC)(L:(ao→aC)→Nat→ao→aC)(D:Array Oper→ao→aC):Code→Nat→ao→aC
 | .skip,_,S=>.cH .cj S
 | .ret,_,S=>.cH .ret S
 | .exit id,_,S=>.cH (.ext id) S
 | .region _ ops draw,_,S=>match draw with
  |true=>D ops S
  |false=>hJ P N B T inl ops ops.toList S
 | .cond x a b,cur,S=>MW N S x (comp P N B T inl L D a cur) (comp P N B T inl L D b cur)
 | .block id c,_,S=>(comp P N B T inl L D c id S).rel (pk id)
 | .seq a b,cur,S=>iM N S (comp P N B T inl L D a cur S) (comp P N B T inl L D b cur)
 | .loop c,cur,S=>L (comp P N B T inl L D c cur) cur S
 |_,_,_=>.bad 6
section
variable {P:Program} {G:a8} {N B:Nat} {M:List aR} {T:List (Nat × bL)} {inl:Nat→List ab→ao→aC} {L:(ao→aC)→Nat→ao→aC} {D:Array Oper→ao→aC}
theorem A9{i:Nat}{y:ab}{e:Env}: ∀{l:List b5},A7 i y l=true→(∀c∈l,c.ok e)→0≤cm (Env.at e i)∧cm (Env.at e i)<cm (y.dyn e)
 | .rg j b::r,h,hc=>by
  simp only[A7,Bool.or_eq_true,Bool.and_eq_true]at h
  rcases h with⟨aa,ae⟩|h
  ·rw[←Nat.eq_of_beq_eq_true aa,←e1 ae]
   exact hc (.rg j b) (by simp)
  ·exact A9 h fun c hm=>hc c (by simp[hm])
 | .d1 _ _ _::r,h,hc=>A9 (l:=r) h fun c hm=>hc c (by simp[hm])
 | .d2 _ _ _ _::r,h,hc=>A9 (l:=r) h fun c hm=>hc c (by simp[hm])
 | .dU _ _::r,h,hc=>A9 (l:=r) h fun c hm=>hc c (by simp[hm])
theorem zgG(d:aF):(d.aG (.int .i64):Int)=cm d∨(d.aG (.int .i64):Int)=0:=by
 obtain⟨r,v⟩:=d
 by_cases h:r= .int .i64
 ·subst h
  exact .inl (cB _ _)
 ·refine .inr ?_
  unfold aF.aG
  split
  ·rename_i h' _;exact absurd h' h
  ·rfl
theorem Ba{j:Nat}{e:Env}{b:Bool}{all:List b5}(a1: ∀c∈all,c.ok e): ∀{l:List b5},x5 j all l=some b→(∀c∈l,c.ok e)→(ab.aU .bool j).az e .bool=b
 | .d2 i f x y::r,h,hc=>by
  have aM:=hc (.d2 i f x y) (by simp)
  have ag: ∀{b},x5 j all r=some b→(ab.aU .bool j).az e .bool=b:=fun h=>Ba a1 h fun c hm=>hc c (by simp[hm])
  unfold x5 at h
  split at h
  ·cases h
  ·rename_i zV iN s5 eQ heq
   cases heq
   split at h
   ·rename_i oO
    have oO:=Nat.eq_of_beq_eq_true oO
    subst oO;simp only[b5.ok]at aM
    have aw:(ab.aU .bool i).az e .bool=As .lss (x.az e (.int .i64)) (y.az e (.int .i64)):=by
     simp only[ab.az,ab.fr,ab.dyn,cB,aM];rfl
    rw[aw]
    split at h
    ·rename_i he
     cases h;rw[e1 he];exact decide_eq_false (Int.lt_irrefl _)
    ·split at h
     ·rename_i m _
      split at h
      ·rename_i aj
       cases h;simp only[Bool.and_eq_true]at aj
       have aa:=A9 aj.1 a1
       have ax:y.rt=some (.int .i64):=by
        have:=aj.2
        split at this
        ·assumption
        ·cases this
       rw[lT ax]at aa
       have hx:(ab.aU (.int .i64) m).az e (.int .i64)=(Env.at e m).aG (.int .i64):=by simp only[ab.az,ab.fr,ab.dyn,cB]
       rw[hx];refine decide_eq_true ?_
       have ae:=aa.2
       rcases zgG (Env.at e m)with q|q
       ·rw[q];exact ae
       ·rw[q];exact Int.lt_of_le_of_lt aa.1 ae
      ·cases h
     ·cases h
   ·exact ag h
  ·rename_i heq
   cases heq;exact ag h
 | .d1 _ _ _::r,h,hc=>Ba a1 (l:=r) h fun c hm=>hc c (by simp[hm])
 | .rg _ _::r,h,hc=>Ba a1 (l:=r) h fun c hm=>hc c (by simp[hm])
 | .dU _ _::r,h,hc=>Ba a1 (l:=r) h fun c hm=>hc c (by simp[hm])
theorem Uc{e:Env}{g:ab}{b:Bool}{l:List b5}(h:MV g l=some b)(hc: ∀c∈l,c.ok e):g.az e .bool=b:=by
 unfold MV at h
 split at h
 ·rename_i aj;cases h;exact qF aj hc
 ·split at h
  ·exact Ba hc h hc
  ·cases h
def jc(P:Program)(G:a8)(N B:Nat)(M:List aR)(c:Code)(f:ao→aC):Prop:=
 ∀(S:ao) (e:Env),S.ct→S.cu e→(f S).safe M e→b2 P G c (jB G N B M (f S) e S.k) (S.den G N B e)
theorem MX{i:Nat}{x:ab}{e:Env}{k:Nat}: ∀{l:List b5},A8 i l=some x→(∀c∈l,c.ok e)→fk k l=true→(ab.aU .bool i).az e .bool= !(x.az e .bool)∧x.lt k=true
 |[],h,_,_=>by cases h
 |c::r,h,hc,aq=>by
  have zG: ∀c∈r,c.ok e:=fun c hm=>hc c (List.mem_cons_of_mem _ hm)
  have sX:c.lt k=true∧fk k r=true:=by simpa only[fk,Bool.and_eq_true]using aq
  unfold A8 at h
  split at h
  ·rename_i heq;cases heq
  ·rename_i j y eQ heq
   cases heq
   split at h
   ·rename_i af
    have af:=Nat.eq_of_beq_eq_true af
    subst af
    split at h
    ·cases h
     have aM:Env.at e j=⟨gG.nf.c,gG.nf.den (x.az e gG.nf.a)⟩:=hc _ (List.mem_cons_self ..)
     have aa:=sX.1
     simp only[b5.lt,Bool.and_eq_true]at aa;refine⟨?_,aa.2⟩
     simp only[ab.az,ab.fr,ab.dyn,aM,cB];rfl
    ·cases h
   ·exact MX h zG sX.2
  ·rename_i heq
   cases heq;exact MX h zG sX.2
theorem Ud{S:ao}{v:ab}{b:Bool}{e:Env}(ad:S.ct)(hf:S.cu e)(aq:v.lt S.k=true)(aw:v.az e .bool=b):(S.dU v b).ct∧(S.dU v b).cu e∧(S.dU v b).k=S.k∧(S.dU v b).den G N B e=S.den G N B e:=by
 unfold ao.dU
 split
 ·rename_i i
  split
  ·rename_i x hx
   obtain⟨aa,ae⟩:=MX hx hf ad.g;rw[aw]at aa
   have au:x.az e .bool= !b:=by rw[aa];cases x.az e .bool<;>rfl
   have b6:=A4 (b:=b) ad aq
   have a2:=A5 hf aw
   exact⟨A4 (S:={S with g:=.dU (.aU .bool i) b::S.g}) (b:=!b) b6 ae,A5 (S:={S with g:=.dU (.aU .bool i) b::S.g}) a2 au,rfl,rfl⟩
  ·exact⟨A4 ad aq,A5 hf aw,rfl,rfl⟩
 ·exact⟨A4 ad aq,A5 hf aw,rfl,rfl⟩
theorem zgH{x:Operand}{a b:Code}{f g:ao→aC}(hf:jc P G N B M a f)(ah:jc P G N B M b g):jc P G N B M (.cond x a b) (fun S=>MW N S x f g):=by
 intro S e ad e8 ai
 have hx:=bI (G:=G) (N:=N) (B:=B) e8 x
 have bH:=D9 (N:=N) ad x
 simp only at ai⊢
 unfold MW at ai⊢
 generalize S.aZ N x=v at ai hx bH⊢
 split at ai
 ·exact b2.Ru hx (hf S e ad e8 ai)
 ·exact b2.Rv hx (ah S e ad e8 ai)
 ·rename_i aa ae
  split at ai
  ·rename_i ag
   have hd:=fY (G:=G) (e:=e) ag
   rw[←hx]at hd
   have hd:=hd.trans (show _=aD.av (.v (.bool _))from rfl)
   split at ai
   ·rename_i aj
    rw[Uc aj e8]at hd;exact b2.Ru hd (hf S e ad e8 ai)
   ·rename_i aj
    rw[Uc aj e8]at hd;exact b2.Rv hd (ah S e ad e8 ai)
   ·refine b2.cond hd (fun aH=>?_) (fun aH=>?_)
    ·obtain⟨c1,dg,gY,pE⟩:=Ud (G:=G) (N:=N) (B:=B) ad e8 bH aH
     have:=hf _ e c1 dg (ai.1 aH)
     rw[pE]at this;refine b2.mono this fun ex st ak=>ak.sub ?_ (bX.refl _ _) (Nat.le_of_eq gY.symm)
     rw[tC aH]
    ·obtain⟨c1,dg,gY,pE⟩:=Ud (G:=G) (N:=N) (B:=B) ad e8 bH aH
     have:=ah _ e c1 dg (ai.2 aH)
     rw[pE]at this;refine b2.mono this fun ex st ak=>ak.sub ?_ (bX.refl _ _) (Nat.le_of_eq gY.symm)
     rw[tC aH]
  ·exact ai.elim
theorem zgI{id:Nat}{c:Code}{f:ao→aC}(hf:jc P G N B M c f):jc P G N B M (.block id c) (fun S=>(f S).rel (pk id)):=by
 intro S e ad e8 ai
 have an:=zeL (f S) id
 refine b2.block (b2.mono (hf S e ad e8 ((k7 an).1 ai)) fun ex st ak=>?_)
 obtain⟨x,dc,ay,aa,ae,au,aQ,bF,cG,ea⟩:=ak
 have ag:run M ((f S).rel (pk id)) e=some (pk id x,dc,ay):=by rw[wI an,aa];rfl
 cases x with
 |cj=>cases ex<;>first|exact⟨_,dc,ay,ag,trivial,au,aQ,bF,cG,ea⟩|exact ae.elim
 |ret=>cases ex<;>first|exact⟨_,dc,ay,ag,trivial,au,aQ,bF,cG,ea⟩|exact ae.elim
 |lr n=>exact(by cases ex<;>exact ae.elim)
 |ext n=>
  cases ex with
  |exit m=>
   have ae:n=m:=ae
   subst ae;show(bif Nat.beq n id then _ else _)
   cases ad:Nat.beq n id with
   |true=>exact⟨.cj,dc,ay,by rw[ag];simp only[pk,ad],trivial,au,aQ,bF,cG,ea⟩
   |false=>exact⟨.ext n,dc,ay,by rw[ag];simp only[pk,ad],rfl,au,aQ,bF,cG,ea⟩
  |_=>exact ae.elim
theorem zt{a b:Code}{f g:ao→aC}(hf:jc P G N B M a f)(ah:jc P G N B M b g):jc P G N B M (.seq a b) (fun S=>iM N S (f S) g):=by
 intro S e ad e8 ai
 obtain⟨t1,t2,t3⟩:=EV (G:=G) (B:=B) ad e8 ai
 refine b2.seq (b2.mono (hf S e ad e8 t1) fun ex st ak=>?_)
 obtain⟨x,dc,ay,aa,ae,au,aQ,bF,cG,ea⟩:=ak
 have other:x≠ .cj→ex≠ .normal→jB G N B M (iM N S (f S) g) e S.k ex st:=fun b4 _=>⟨x,dc,ay,t2 x dc ay aa b4 (TU ae),ae,au,aQ,bF,cG,ea⟩
 cases x with
 |cj=>
  cases ex with
  |normal=>
   obtain⟨dP,bf,s1,s2,ky,kz,kA,kB,kX⟩:=t3 dc ay aa aQ bF cG ea;exact b2.le au (b2.le s1 (b2.mono (ah dP bf s2 ky kB) fun ex st ak=>ak.sub kX kz kA))
  |_=>exact ae.elim
 |ret=>cases ex<;>first|exact other (by simp) (by simp)|exact ae.elim
 |ext n=>cases ex<;>first|exact other (by simp) (by simp)|exact ae.elim
 |lr n=>cases ex<;>exact ae.elim
theorem MY{c:Code}{x:b0}{ex:Exit}(h:A0 x ex)(k: ∀{Q:Exit→aP→Prop} {s:aP},Q ex s→b2 P G c Q s):jc P G N B M c (fun S=>.cH x S):=
 fun S e ad hf _=>k ⟨x,S,e,rfl,h,cn.refl _,ad,hf,bX.refl _ _,Nat.le_refl _⟩
def MZ(P:Program)(G:a8)(N B:Nat)(M:List aR)(L:(ao→aC)→Nat→ao→aC):Prop:=∀c f id,jc P G N B M c f→jc P G N B M (.loop c) (L f id)
def M0(P:Program)(G:a8)(N B:Nat)(M:List aR)(D:Array Oper→ao→aC):Prop:=∀id ops,jc P G N B M (.region id ops true) (D ops)
theorem oR(bW:fP P G M inl)(fL:MZ P G N B M L)(mj:M0 P G N B M D): ∀(c:Code) (cur:Nat),jc P G N B M c (comp P N B T inl L D c cur)
 | .skip,_=>MY (ex:=.normal) trivial b2.skip
 | .ret,_=>MY (ex:=.ret) trivial b2.ret
 | .exit id,_=>MY (ex:=.exit id) rfl b2.exit
 | .region id ops draw,_=>by
  cases draw with
  |true=>exact mj id ops
  |false=>
   intro S e ad hf ai
   have iY:ops=ops.toList.toArray:=by simp
   rw[iY];refine b2.region ?_
   rw[←iY];exact uF bW ops.toList ad hf ai fun _ _ h=>h
 | .cond x a b,cur=>zgH (oR bW fL mj a cur) (oR bW fL mj b cur)
 | .block id c,_=>zgI (oR bW fL mj c id)
 | .seq a b,cur=>zt (oR bW fL mj a cur) (oR bW fL mj b cur)
 | .loop c,cur=>fL c _ cur (oR bW fL mj c cur)
 | .rangeFunc _ _ _ _,_=>fun _ _ _ _ h=>h.elim
 | .scope _,_=>fun _ _ _ _ h=>h.elim
 | .label _,_=>fun _ _ _ _ h=>h.elim
 | .goto _,_=>fun _ _ _ _ h=>h.elim
 | .refuse _,_=>fun _ _ _ _ h=>h.elim
end
end Go.aL
namespace Go.aL
open Go
def Bb:Nat→List ab→List (Nat × ab)
 |_,[]=>[]
 |i,x::r=>(i,x)::Bb (i+1) r
def x6(P:Program)(N:Nat)(S:ao):List ResultVar→Option (List ab)
 |[]=>some []
 | .tmp t::r=>match x6 P N S r with
  |some l=>some (S.aZ N (.tmp t)::l)
  |none=>none
 | .cell p t::r=>match x6 P N S r,vm S (S.aZ N (.tmp p))with
  |some l,some cs=>match qe P t cs with
   |some v=>some (v::l)
   |none=>none
  |_,_=>none
def M1(P:Program)(fn:Func)(N:Nat)(S:ao):Option ab:=
 match x6 P N S fn.results.toList with
 |some [x]=>some x
 |some l=>some (.tp l)
 |none=>none
def sN:b0→b0
 | .ret=>.cj
 |x=>x
def zgJ:b0→Bool
 | .cj=>true
 | .ret=>true
 |_=>false
def uH(P:Program)(fn:Func)(N:Nat)(S:ao):aC:=
 match M1 P fn N S with
 |some v=>match v.lt S.k with
  |true=>.cH .cj {S with l:=ba.put .emp 0 v}
  |false=>.bad 44
 |none=>.bad 43
structure jH where
 L:Nat→Nat→(Nat→List ab→ao→aC)→(ao→aC)→Nat→ao→aC
 D:Nat→Nat→(Nat→List ab→ao→aC)→Array Oper→ao→aC
def qf(aG:List ab)(S:ao):ao:={S with l:=fl (Bb 0 aG)}
def M3(P:Program)(H:jH)(T:List (Nat × bL))(inl:Nat→List ab→ao→aC)(c:Code)(N:Nat)(aG:List ab)(S:ao):aC:=
 comp P N S.n T inl (H.L N S.n inl) (H.D N S.n inl) c 0 (qf aG S)
def x7(n:Nat)(m:Nat):Nat:=
 match n with
 |0=>m
 |k+1=>k+1
def aC.nr:aC→Nat
 | .cH _ _=>0
 | .lt _ _ t=>t.nr
 | .eG _ t=>t.nr
 | .it _ a b=>x7 a.nr b.nr
 | .dC _ a _ k=>x7 a.nr k.nr
 | .eo _ _ _ _ _ a k=>x7 a.nr k.nr
 | .e0 _ _ _ a k=>x7 a.nr k.nr
 | .bad n=>n
def zgK(f n:Nat):Nat:=
 match Nat.ble 1000 n with
 |true=>n
 |false=>f*1000+n
def CY(P:Program)(f:Nat)(fn:Func)(N:Nat)(t:aC):aC:=
 match t.ft zgJ with
 |true=>(t.rel sN).eJ (uH P fn N) none
 |false=>.bad (zgK f t.nr)
def M4(P:Program)(H:jH)(T:List (Nat × bL))(inl:Nat→List ab→ao→aC)(f:Nat)(aG:List ab)(S:ao):aC:=
 match P.funcs[f]? with
 |some fn=>match fn.body with
  |some c=>CY P f fn (aG.length+(fn.ntmps-aG.length)) (M3 P H T inl c (aG.length+(fn.ntmps-aG.length)) aG S)
  |none=>.bad 41
 |none=>.bad 42
section
variable {P:Program} {G:a8} {N B:Nat} {M:List aR} {T:List (Nat × bL)} {inl:Nat→List ab→ao→aC} {H:jH}
def M5(P:Program)(G:a8)(M:List aR)(H:jH):Prop:=∀(inl:Nat→List ab→ao→aC),fP P G M inl→∀N B,MZ P G N B M (H.L N B inl)∧M0 P G N B M (H.D N B inl)
theorem Ue{t:TypeId}{l:List ab}{v:ab}{e:Env}(h:qe P t l=some v):
 (∃n,mi P t=some n∧n≤l.length∧0<n∧v.den G e= .agg ((ab.bQ G e l).take n))∨(mi P t=none∧scalar P t=true∧∃r,l=v::r):=by
 unfold qe at h
 split at h
 ·rename_i n hn
  split at h
  ·rename_i ad
   simp only[Bool.and_eq_true]at ad;cases h;refine .inl ⟨n,hn,Nat.le_of_ble_eq_true ad.1,Nat.le_of_ble_eq_true ad.2,?_⟩
   simp only[ab.den,e6,List.map_take]
  ·cases h
 ·rename_i hn
  split at h
  ·rename_i ai
   cases h;exact .inr ⟨hn,ai,_,rfl⟩
  ·cases h
theorem Fe{S:ao}{e:Env}(hf:S.cu e): ∀{l:List ResultVar} {vs:List ab},x6 P N S l=some vs→m3 P (S.den G N B e) l=some (ab.bQ G e vs)
 |[],vs,h=>by cases h;rfl
 | .tmp t::r,vs,h=>by
  simp only[x6]at h
  split at h
  ·rename_i l aq
   cases h
   have:=bI (G:=G) (N:=N) (B:=B) hf (.tmp t)
   simp only[m3,Fe hf aq,ab.bQ,←this];rfl
  ·cases h
 | .cell p t::r,vs,h=>by
  simp only[x6]at h
  split at h
  ·rename_i l cs aq hc
   split at h
   ·rename_i v aw
    cases h
    have aa:=bI (G:=G) (N:=N) (B:=B) hf (.tmp p)
    have ae:=AE (G:=G) (N:=N) (B:=B) (e:=e) hc
    rw[←aa]at ae
    have ae:fp (S.den G N B e).heap ((S.den G N B e).cS.getD p .top)=some (ab.bQ G e cs):=ae
    simp only[m3,Fe hf aq,ae,ab.bQ]
    rcases Ue (G:=G) (e:=e) aw with⟨n,g1,g2,g3,g4⟩|⟨g1,g2,eQ,g3⟩
    ·simp only[g1,g4]
     rw[if_pos ⟨by rw[me];exact g2,g3⟩]
    ·subst g3
     simp only[g1,g2,if_true,ab.bQ]
   ·cases h
  ·cases h
theorem Qp{fn:Func}{S:ao}{e:Env}{v:ab}(hf:S.cu e)(h:M1 P fn N S=some v):zQ P fn (S.den G N B e)=some (v.den G e):=by
 unfold M1 at h
 unfold zQ
 split at h
 ·rename_i x hx
  cases h;rw[Fe hf hx];rfl
 ·rename_i l b4 aq
  cases h;rw[Fe hf aq]
  match l with
  |[]=>rfl
  |[x]=>exact absurd rfl (b4 x)
  |x::y::l=>rfl
 ·cases h
theorem CZ(t:aC):t.iA sN:=ni (t.lvl+1) (Nat.lt_succ_self _) (fun n _ x h=>by cases x<;>first|rfl|exact h) (fun n x h=>by cases x<;>first|rfl|exact h)
theorem M6: ∀{l:List ab} {i j:Nat},(fl (Bb i l)).get j=if j<i then none else l[j-i]?
 |[],i,j=>by simp only[Bb,fl];split<;>simp[ba.get]
 |x::r,i,j=>by
  simp only[Bb,fl,ba.h0,M6 (l:=r)]
  by_cases h:i=j
  ·subst h;simp
  ·rw[if_neg h]
   by_cases ae:j<i
   ·rw[if_pos ae,if_pos (by omega)]
   ·rw[if_neg ae,if_neg (by omega),show j-i=(j-(i+1))+1 by omega,List.getElem?_cons_succ]
theorem Qm{aG:List ab}{S:ao}{e:Env}{k:Nat}:(qf aG S).den G (aG.length+k) S.n e=⟨ab.bQ G e aG++List.replicate k .top,cy G e S.h,S.n,S.n⟩:=by
 simp only[ao.den,qf,aP.mk.injEq,and_true,true_and]
 apply List.ext_getElem?
 intro j
 rw[n9,Nat.zero_add,M6,if_neg (Nat.not_lt_zero _),Nat.sub_zero,e6,List.getElem?_append,List.getElem?_replicate,List.length_map]
 by_cases h:j<aG.length
 ·rw[if_pos (by omega),if_pos h,List.getElem?_map,List.getElem?_eq_getElem h]
  rfl
 ·rw[if_neg h]
  by_cases ae:j<aG.length+k
  ·rw[if_pos ae,if_pos (by omega),List.getElem?_eq_none (by omega)]
  ·rw[if_neg ae,if_neg (by omega)]
theorem Ql{aG:List ab}{S:ao}(ad:S.ct)(aq:ab.cL S.k aG=true):(qf aG S).ct:=by
 refine⟨fun i x hx=>?_,ad.h,ad.g⟩
 simp only[qf,M6,Nat.not_lt_zero,if_false,Nat.sub_zero]at hx
 have hm:=List.mem_of_getElem? hx
 clear hx
 induction aG with
 |nil=>cases hm
 |cons y r aY=>
  simp only[ab.cL,Bool.and_eq_true]at aq
  rcases List.mem_cons.1 hm with rfl|hm
  ·exact aq.1
  ·exact aY aq.2 hm
theorem b2.Qo{c:Code}{Q:Exit→aP→Prop}{s:aP}(h:b2 P G c (fun e st=>∃Ff,cn st Ff∧Q e Ff) s):b2 P G c Q s:=fun E a w ag=>
 wp_mono (h E a w ag) fun _ bc w' ⟨st,⟨Ff,aq,aI⟩,ae⟩=>⟨Ff,aI,aq E G bc w' ae⟩
theorem zgL(k6:M5 P G M H)(bW:fP P G M inl):fP P G M (M4 P H T inl):=by
 intro f aG S e ad aq hf ai
 unfold M4 at ai⊢
 split at ai
 ·rename_i fn mc
  split at ai
  ·rename_i c hc
   generalize gU:aG.length+(fn.ntmps-aG.length)=N at ai;generalize aH:M3 P H T inl c N aG S=t at ai;unfold CY at ai⊢
   split at ai
   ·rename_i zu
    obtain⟨g1,g2,g3⟩:=jg (t.rel sN) none ai
    have uG:t.safe M e:=(k7 (CZ t)).1 g1
    have zv:=oR (T:=T) (B:=S.n) (N:=N) bW (k6 inl bW N S.n).1 (k6 inl bW N S.n).2 c 0 (qf aG S) e (Ql ad aq) hf (by
     unfold M3 at aH;rw[aH];exact uG)
    have cE:comp P N S.n T inl (H.L N S.n inl) (H.D N S.n inl) c 0 (qf aG S)=t:=aH
    rw[cE,←gU,Qm,gU]at zv;refine dG.Qn (k:=fn.ntmps-aG.length) mc hc (by rw[me]) (b2.Qo (b2.mono zv fun ex st ak=>?_))
    obtain⟨x,dc,ay,aa,ae,au,aQ,bF,cG,ea⟩:=ak;refine⟨_,au,?_⟩
    obtain⟨iN,dP,bf,c1,dg⟩:=jh (M:=M) (e:=e) zu;rw[aa]at c1
    cases c1
    have ag:run M (t.rel sN) e=some (.cj,dc,ay):=by
     rw[wI (CZ t),aa]
     cases x<;>first|rfl|cases dg
    obtain⟨oS,_⟩:=g3 dc ay ag;rw[ag]at g2
    have g2:run M ((t.rel sN).eJ (uH P fn N) none) e=run M (uH P fn N dc) ay:=g2
    unfold uH at oS g2
    split at oS
    ·rename_i v aw
     split at oS
     ·rename_i fD
      simp only[aw,fD]at g2;refine⟨(by cases x<;>cases ex<;>first|exact .inl rfl|exact .inr rfl|exact ae.elim|cases dg),v.den G ay,cy G ay dc.h,Qp bF aw,fun _ _ h=>h,{dc with l:=ba.put .emp 0 v},ay,g2,?_,rfl,⟨fun i x hx=>?_,aQ.h,aQ.g⟩,bF,cG,ea⟩
      ·simp only[ao.at,ba.h0,if_true]
      ·simp only[ba.h0]at hx
       split at hx
       ·cases hx;exact fD
       ·simp[ba.get]at hx
     ·exact oS.elim
    ·exact oS.elim
   ·exact ai.elim
  ·exact ai.elim
 ·exact ai.elim
end
end Go.aL
