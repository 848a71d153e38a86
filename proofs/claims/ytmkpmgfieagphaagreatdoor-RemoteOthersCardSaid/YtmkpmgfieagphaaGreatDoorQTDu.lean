/- TD, part Q: regions whose order is fixed. Conditions: none. -/
import Derived.Test.YtmkpmgfieagphaaGreatDoorQTDm2
namespace Go.aK
open Go
def w1(k:Nat):bJ→List b6
 | .f1 .nz x=>[.d1 k .nz x]
 | .f1 (.iJ c) x=>[.d1 k (.iJ c) x]
 | .f1 .mN x=>[.d1 k .mN x]
 | .f2 (.jk .add .i64 .i64) x y=>[.d2 k (.jk .add .i64 .i64) x y]
 | .f2 (.oK .lss .i64) x y=>[.d2 k (.oK .lss .i64) x y]
 |_=>[]
def w2(k:Nat):List bJ→List b6→List b6
 |[],g=>g
 |x::r,g=>w2 (k+1) r (w1 k x++g)
def aq.e0(S:aq)(k:Nat)(xs:List bJ):aq:={S with k:=k+xs.length,g:=w2 k xs S.g}
inductive DI where
 |yes
 |no
 |on (gs:List (ab × Bool))
 |bad
def uH(l:List b6)(b:Bool):ab→DI
 | .cs (.bool c)=>match decide (c=b)with
  |true=>.yes
  |false=>.no
 | .tp _=>.no
 | .fH h c v=>match h.rt with
  |some .bool=>match uH l b v with
   | .yes=>.on [(h,c)]
   | .no=>.no
   | .on gs=>.on ((h,c)::gs)
   | .bad=>.bad
  |_=>.bad
 |g=>match g.rt,k0 g l with
  |some .bool,some c=>match decide (c=b)with
   |true=>.yes
   |false=>.no
  |some .bool,none=>.on [(g,b)]
  |_,_=>.bad
def guardOf(N:Nat)(ops:Array Oper)(S:aq)(o:Oper):DI:=
 match o.guard with
 |none=>.yes
 |some (j,b)=>match lY ops j with
  |some d=>match Nat.blt d N with
   |true=>uH S.g b ((S.at d).res S.g)
   |false=>.bad
  |none=>.bad
def hp:List (ab × Bool)→List b6→List b6
 |[],l=>l
 |(g,b)::r,l=>.dR g b::hp r l
def qd:List (ab × Bool)→fc→fc
 |[],n=>n
 |(g,b)::r,n=>.Ri g b (qd r n)
def lz(k:Nat):List (ab × Bool)→Bool
 |[]=>true
 |(g,_)::r=>g.lt k&&lz k r
def fM(e:Env):List (ab × Bool)→Bool
 |[]=>true
 |(g,b)::r=>(g.az e .bool==b)&&fM e r
def K6(P:Program)(B:Nat)(S:aq)(t:TypeId)(x:ab):Option db:=
 match x.rt,isStr P t&&Nat.ble B S.n with
 |some .str,true=>some ⟨[],[],none,(S.n,.it .st x (.cs (.int .i64 0)))::S.h,S.n+1,.gR S.n⟩
 |_,_=>none
def DJ(P:Program)(N B:Nat)(T:List (Nat × bF))(S:aq)(o:Oper):Option db:=
 match o.op with
 | .alloc t=>Ko P B S t
 | .box t x=>Kp B S t (S.aY N x)
 | .store t p x=>Kq P S t (S.aY N p) (S.aY N x)
 | .buildSlice t len ps=>match Kz P N B T S t len ps.toList with
  |some r=>some r
  |none=>match KA P B T S t len ps.toList with
   |some r=>some r
   |none=>match Ky P N T S t len ps.toList with
    |some r=>some r
    |none=>KB P N B S t len ps.toList
 | .makeSlice t x y=>KC P B T S t (S.aY N x) (S.aY N y)
 | .range t x=>K6 P B S t (S.aY N x)
 | .makeMap t none=>K4 P B T S t
 | .mapUpdate t m x y=>K5 P T S t (S.aY N m) (S.aY N x) (S.aY N y)
 | .call c=>match c.callee,c.args.toList,c.argTypes.toList with
  | .builtin .append,[x,y],[t,bz]=>match Nat.beq t bz with
   |true=>KD P B S t (S.aY N x) (S.aY N y)
   |false=>KE P B S t bz (S.aY N x) (S.aY N y)
  |_,_,_=>none
 |_=>none
structure qe where
 xs:List bJ
 g:ab
 h:List (Nat × bB)
 v:ab
 bg:ab
def Sr(S:aq)(x:ab):Option qe:=
 match x with
 | .gR id=>match da S.h id with
  |some (.it .st s p)=>match s.rt,p.rt with
   |some .str,some (.int .i64)=>some ⟨[.f2 .lL s p,.f2 .lN s p,.f2 .lM s p,.f2 .kD s p],.aT .bool S.k,jl S.h id (.it .st s (.aT (.int .i64) (S.k+3))),
    .tp [.cs (.bool true),.aT (.int .i64) (S.k+1),.aT (.int .i32) (S.k+2)],.tp [.cs (.bool false)]⟩
   |_,_=>none
  |_=>none
 |_=>none
def K7(N:Nat)(S:aq)(o:Oper):Option qe:=
 match o.op with
 | .next x true=>Sr S (S.aY N x)
 |_=>none
def qe.ok(q:qe)(S:aq):Bool:=(ho S.k q.xs&&q.g.lt (S.k+q.xs.length))&&(eE (S.k+q.xs.length) q.h&&(q.v.lt (S.k+q.xs.length)&&q.bg.lt (S.k+q.xs.length)))
def qe.st(q:qe)(S:aq)(dst:Option Nat):aq:=(aq.put {S.e0 S.k q.xs with h:=q.h,g:=.dR q.g true::(S.e0 S.k q.xs).g} dst q.v).DE
def qe.w3(q:qe)(S:aq)(dst:Option Nat):aq:=(aq.put {S.e0 S.k q.xs with g:=.dR q.g false::(S.e0 S.k q.xs).g} dst q.bg).DE
def bB.kind:bB→bB→Bool
 | .dm _ _,.dm _ _=>true
 | .rw _ c _,.rw _ d _=>Nat.beq (bZ c) (bZ d)
 | .it _ _ _,.it _ _ _=>true
 |_,_=>false
def zO(n:Nat)(aP:List (Nat × bB)):List (Nat × bB)→Bool
 |[]=>true
 |(id,o)::r=>(match Nat.blt id n with
  |true=>match da aP id with
   |some cy=>bB.kind cy o
   |none=>false
  |false=>true)&&zO n aP r
mutual
def ab.rk(n:Nat):ab→Bool
 | .ch l=>ab.sD n l
 | .tp l=>ab.sD n l
 | .eb k _=>Nat.blt k n
 | .gJ k _ _=>Nat.blt k n
 | .gO k _ _ _=>Nat.blt k n
 | .aM k=>Nat.blt k n
 | .cM k _=>Nat.blt k n
 | .fg _ (some k) _=>Nat.blt k n
 | .fn _ a b=>ab.sD n a&&ab.sD n b
 | .gR k=>Nat.blt k n
 | .fH _ _ x=>ab.rk n x
 |_=>true
def ab.sD(n:Nat):List ab→Bool
 |[]=>true
 |x::r=>ab.rk n x&&ab.sD n r
end
def nI(n:Nat):List (Nat × bB)→Bool
 |[]=>true
 |(id,.dm _ l)::r=>Nat.blt id n&&(ab.sD n l&&nI n r)
 |(id,.rw _ _ _)::r=>Nat.blt id n&&nI n r
 |(id,.it _ _ _)::r=>Nat.blt id n&&nI n r
def aq.back(S:aq)(dst:Option Nat)(C:aq):aq:=(⟨S.l,C.h,C.n,C.k,C.g⟩:aq).put dst (C.at 0)
def DK(S C:aq):Bool:=(ab.rk C.n (C.at 0)&&nI C.n C.h)&&(Nat.ble S.n C.n&&zO S.n S.h C.h)
def zP(S:aq)(dst:Option Nat)(C:aq):aB:=
 match DK S C with
 |true=>.cG .cj (S.back dst C)
 |false=>.bad 34
def K8(C:aq):List ab→List ab→Nat→Option (Nat × Nat × Nat)
 | .aM k::r,.aM m::eP,off=>match Nat.beq k m,da C.h k,da C.h m with
  |false,none,some (.rw _ _ _)=>some (off,k,m)
  |_,_,_=>K8 C r eP (off+1)
 |_::r,_::eP,off=>K8 C r eP (off+1)
 |_,_,_=>none
def DL(C:aq):List (Nat × bB)→Option (Nat × Nat × Nat × Nat)
 |[]=>none
 |(id,.dm _ zeJ)::r=>match da C.h id with
  |some (.dm _ l)=>match K8 C zeJ l 0 with
   |some (off,k,m)=>some (id,off,k,m)
   |none=>DL C r
  |_=>DL C r
 |_::r=>DL C r
def DM(m:Nat):Option ab→Bool
 |some (.aM j)=>Nat.beq j m
 |_=>false
def w4(B id off k m:Nat)(C:aq):aq:=
 match da C.h id,da C.h m with
 |some (.dm t l),some (.rw gK c x)=>match DM m (l[off]?)&&((Nat.ble B k&&Nat.blt k C.n)&& !(Nat.beq id k))with
  |true=>⟨(C.l.map (ab.kill m)).map (ab.kill k),jl ((k,.rw gK c x)::hl k (hl m C.h)) id (.dm t ((ab.ed k (ab.ed m l)).set off (.aM k))),C.n,C.k,C.g⟩
  |false=>C
 |_,_=>C
def uI(B:Nat)(S C:aq):aq:=
 match DL C S.h with
 |some (id,off,k,m)=>w4 B id off k m C
 |none=>C
def K9(B:Nat)(C:aq):List (Nat × bB)→Option Nat
 |[]=>none
 |(id,.rw _ _ _)::r=>match da C.h id,Nat.ble B id with
  |none,true=>some id
  |_,_=>K9 B C r
 |_::r=>K9 B C r
def sE(B d k m:Nat)(C:aq):aq:=
 match da C.h m with
 |some (.rw gK c x)=>match DM m (C.l.get d)&&(Nat.ble B k&&Nat.blt k C.n)with
  |true=>aq.put ⟨(C.l.map (ab.kill m)).map (ab.kill k),(k,.rw gK c x)::hl k (hl m C.h),C.n,C.k,C.g⟩ (some d) (.aM k)
  |false=>C
 |_=>C
def uJ(B N:Nat)(S C:aq)(dst:Option Nat):aq:=
 match dst with
 |some d=>match C.l.get d,K9 B C S.h with
  |some (.aM m),some k=>match Nat.ble S.n m&&Nat.blt d N with
   |true=>match Nat.blt d N with
    |true=>sE B d k m C
    |false=>C
   |false=>C
  |_,_=>C
 |none=>C
def zQ(P:Program)(N:Nat)(S:aq)(o:Oper):Option (Nat × List ab):=
 match o.op with
 | .call c=>match c.callee with
  | .value x=>match S.aY N x with
   | .fn (.func f) p q=>some (f,p++c.args.toList.map (S.aY N)++q)
   |_=>none
  | .invoke x name=>match S.aY N x with
   | .ek t a rs l=>match methodOf P t name,rb a l,decide (oT l=some rs)with
    |some f,some v,true=>some (f,[v]++c.args.toList.map (S.aY N)++[])
    |_,_,_=>none
   |_=>none
  |_=>none
 |_=>none
def ab.mH(id:Nat)(x y:ab):ab:=
 match y with
 | .aM j=>match Nat.beq j id with
  |true=>x
  |false=>.aM j
 |y=>ab.kill id y
def La(id:Nat)(x:ab)(S:aq):aq:=⟨S.l.map (ab.mH id x),hl id S.h,S.n,S.k,S.g⟩
def w5(S:aq)(id:Nat):aq:=
 match da S.h id with
 |some (.rw _ c (.aT r k))=>match hJ r (.li c)with
  |true=>La id (.aT r k) S
  |false=>S
 |_=>S
def mf:List ab→aq→aq
 |[],S=>S
 | .aM id::r,S=>mf r (w5 S id)
 |_::r,S=>mf r S
def Ss(f:Nat):List Nat→Bool
 |[]=>false
 |g::r=>Nat.beq g f||Ss f r
def preB(P:Program)(N:Nat)(S:aq)(o:Oper):Option (List ab):=
 match o.op with
 | .call _=>match o.guard with
  |some _=>none
  |none=>match zQ P N S o with
   |some (f,aG)=>match Ss f zcD with
    |true=>some aG
    |false=>none
   |none=>none
 |_=>none
def zR(f:gD)(x:ab):List b6→Option Nat
 |[]=>none
 | .d1 j g y::r=>match decide (g=f)&&eF y x with
  |true=>some j
  |false=>zR f x r
 |_::r=>zR f x r
def Lb(S:aq)(r:dt):Option (aU × Nat):=
 match r.xs,r.ns,r.v with
 |[.f1 f x],[],.aT t k=>match Nat.beq k S.k with
  |true=>match zR f x S.g with
   |some j=>match Nat.blt j S.k with
    |true=>some (t,j)
    |false=>none
   |none=>none
  |false=>none
 |_,_,_=>none
def St(f:cA)(a b:Int):Option ab:=
 match f with
 | .jk .add .i64 .i64=>some (.cs (.int .i64 (bu .add .i64 a b)))
 | .jk .sub .i64 .i64=>some (.cs (.int .i64 (bu .sub .i64 a b)))
 | .jk .mul .i64 .i64=>some (.cs (.int .i64 (bu .mul .i64 a b)))
 | .oK op .i64=>some (.cs (.bool (zk op a b)))
 |_=>none
def Lc(S:aq)(r:dt):Option ab:=
 match r.xs,r.ns,r.v with
 |[.f2 f (.cs (.int .i64 a)) (.cs (.int .i64 b))],[],.aT t k=>match Nat.beq k S.k&&hJ t f.c with
  |true=>St f a b
  |false=>none
 |_,_,_=>none
def Ld(o:Oper):Nat:=
 match o.op with
 | .pick _ _ _=>1
 | .alloc _=>2
 | .box _ _=>3
 | .build _ _=>4
 | .buildSlice _ _ _=>5
 | .insert _ _ _ _=>6
 | .load _ _=>7
 | .store _ _ _=>8
 | .nilCheck _=>9
 | .binOp _ _ _ _ _=>10
 | .unOp _ _ _=>11
 | .convert _ _ _=>12
 | .makeInterface _ _=>13
 | .makeFunc _ _ _=>14
 | .makeMap _ _=>15
 | .makeSlice _ _ _=>16
 | .slice _ _ _ _ _=>17
 | .fieldAddr _ _ _=>18
 | .field _ _ _=>19
 | .indexAddr _ _ _=>20
 | .index _ _ _=>21
 | .lookup _ _ _ _=>22
 | .mapUpdate _ _ _ _=>23
 | .call c=>match c.callee with
  | .builtin .append=>30
  | .builtin .len=>31
  | .builtin .copy=>32
  | .builtin _=>33
  | .value _=>34
  |_=>35
 | .range _ _=>40
 | .next _ _=>41
 | .extract _ _=>42
 |_=>50
def exec(P:Program)(N B:Nat)(T:List (Nat × bF))(inl:Nat→List ab→aq→aB)(o:Oper)(S:aq)(k:aq→aB):aB:=
 match p9 P N S o with
 |some r=>match ho S.k r.xs&&r.v.lt (S.k+r.xs.length)with
  |true=>match Lb S r with
   |some (t,j)=>k (S.put o.dst (.aT t j))
   |none=>match Lc S r with
    |some v=>k (S.put o.dst v)
    |none=>emit S.k r.xs r.ns (k ((S.e0 S.k r.xs).put o.dst r.v))
  |false=>.bad 30
 |none=>match DJ P N B T S o with
  |some r=>match ho S.k r.xs&&(r.v.lt (S.k+r.xs.length)&&eE (S.k+r.xs.length) r.h)with
   |true=>emit S.k r.xs r.ns (k ((r.st S o.dst).e0 S.k r.xs))
   |false=>.bad 31
  |none=>match K7 N S o with
   |some q=>match q.ok S with
    |true=>emit S.k q.xs [] (.it q.g (k (q.st S o.dst)) (k (q.w3 S o.dst)))
    |false=>.bad 33
   |none=>match zQ P N S o with
    |some (f,aG)=>match mE P f with
     |true=>iA N S ((inl f aG S).eG (zP S o.dst) none) fun C=>k (uJ B N S (uI B S C) o.dst)
     |false=>.bad 32
    |none=>.bad (100+Ld o)
def DN(g:ab)(b:Bool)(x y:aB):aB:=
 match b with
 |true=>.it g x y
 |false=>.it g y x
def sF(y:List b6→aB):List (ab × Bool)→aB→List b6→aB
 |[],x,_=>x
 |(g,b)::r,x,l=>DN g b (sF y r x (.dR g b::l)) (y (.dR g (!b)::l))
def rm(S:aq)(dst:Option Nat)(l:List b6):aB:=.cG .cj (aq.put {S with g:=l} dst (.tp []))
def hA(P:Program)(N B:Nat)(T:List (Nat × bF))(inl:Nat→List ab→aq→aB)(ops:Array Oper):List Oper→aq→aB
 |[],S=>.cG .cj S
 |o::r,S=>match guardOf N ops S o with
  | .yes=>match preB P N S o with
   |some aG=>exec P N B T inl o (mf aG S) (hA P N B T inl ops r)
   |none=>exec P N B T inl o S (hA P N B T inl ops r)
  | .no=>hA P N B T inl ops r (S.put o.dst (.tp []))
  | .on gs=>match lz S.k gs with
   |true=>match p9 P N {S with g:=hp gs S.g} o with
    |some q=>match ho S.k q.xs&&q.v.lt (S.k+q.xs.length)with
     |true=>emit S.k q.xs (q.ns.map (qd gs)) (hA P N B T inl ops r ((S.e0 S.k q.xs).put o.dst (j6 gs q.v)))
     |false=>.bad 35
    |none=>qb N S o.dst gs (sF (rm S o.dst) gs (exec P N B T inl o {S with g:=hp gs S.g} (.cG .cj)) S.g) (hA P N B T inl ops r)
   |false=>.bad 36
  | .bad=>.bad 37
section
variable {P:Program} {G:a8} {N B:Nat} {M:List aR} {T:List (Nat × bF)} {inl:Nat→List ab→aq→aB}
theorem zeK{S:aq}{o:Oper}{t:TypeId}{x:Operand}{r:db}(an:o.op= .range t x)(h:K6 P B S t (S.aY N x)=some r):mc P G N B M o S r:=fun e hf hx hn=>by
 unfold K6 at h
 split at h
 ·rename_i zA hc
  cases h;simp only[Bool.and_eq_true]at hc
  have jo:aI G (S.den G N B e) x= .au (.v (.string ((S.aY N x).az e .str))):=by rw[bC hf];exact fX zA
  have:=zch (P:=P) (G:=G) (s:=S.den G N B e) t x an (tL hc.1) jo (Nat.le_of_ble_eq_true hc.2)
  unfold db.st;rw[e9];exact this
 ·cases h
theorem zeL{S:aq}{o:Oper}{q:qe}{e:Env}(h:K7 N S o=some q)(hf:S.cq e)(hx: ∀(j:Nat) (x:bJ),q.xs[j]? =some x→Env.at e (S.k+j)=x.den M e):
 (q.g.az e .bool=true→dO P G o (S.den G N B e) ((aq.put {S with h:=q.h} o.dst q.v).den G N B e))∧(q.g.az e .bool=false→dO P G o (S.den G N B e) ((S.put o.dst q.bg).den G N B e)):=by
 unfold K7 at h
 split at h
 ·rename_i x an
  unfold Sr at h
  split at h
  ·rename_i id aw
   split at h
   ·rename_i s p ah
    split at h
    ·rename_i aa ae
     cases h
     have jo:aI G (S.den G N B e) x= .ref id:=by rw[bC hf,aw];rfl
     have bb:aD (S.den G N B e).heap id=some (.bK (pV (s.az e .str) (Int.toNat (p.az e (.int .i64))))):=by
      show aD (cw G e S.h) id=_;rw[ef,ah];rfl
     have x0:=hx 0 _ rfl
     have ao:=hx 1 _ rfl
     have bV:=hx 2 _ rfl
     have cd:=hx 3 _ rfl
     simp only[bJ.den,cA.den,Nat.add_zero]at x0 ao bV cd
     have sz:(ab.aT .bool S.k).az e .bool=decide (Int.toNat (p.az e (.int .i64))<ByteArray.size (s.az e .str)):=by
      simp only[ab.az,ab.fo,ab.dyn,x0,cz]
     refine⟨fun aH=>?_,fun aH=>?_⟩
     ·rw[sz]at aH
      have:=zcj (P:=P) (G:=G) (s:=S.den G N B e) x an jo bb (of_decide_eq_true aH) (c:=(Utf8.decode (s.az e .str) (Int.toNat (p.az e (.int .i64)))).1) (k:=(Utf8.decode (s.az e .str) (Int.toNat (p.az e (.int .i64)))).2) rfl
      rw[e9]
      have bd:(({S with h:=jl S.h id (.it .st s (.aT (.int .i64) (S.k+3)))}:aq).den G N B e)={S.den G N B e with heap:=eL (S.den G N B e).heap id (.bK (pV (s.az e .str) (Int.toNat (p.az e (.int .i64))+(Utf8.decode (s.az e .str) (Int.toNat (p.az e (.int .i64)))).2)))}:=by
       simp only[aq.den,sr,bB.den]
       congr 3
       simp only[ab.az,ab.fo,ab.dyn,cd,cz];rfl
      rw[bd]
      have zeM:(ab.tp [.cs (.bool true),.aT (.int .i64) (S.k+1),.aT (.int .i32) (S.k+2)]).den G e= .tuple [.au (.v (.bool true)),.au (.v (.int .i64 ((Int.toNat (p.az e (.int .i64)):Nat):Int))),.au (.v (.int .i32 (((Utf8.decode (s.az e .str) (Int.toNat (p.az e (.int .i64)))).1:Nat):Int)))]:=by
       simp only[ab.den,ab.bO,ao,bV,cz,fF,jY]
      rw[zeM];exact this
     ·rw[sz]at aH
      have:=zci (P:=P) (G:=G) (s:=S.den G N B e) x an jo bb (Nat.le_of_not_lt (of_decide_eq_false aH))
      rw[e9];exact this.step
    ·cases h
   ·cases h
  ·cases h
 ·cases h
theorem Su{S:aq}{o:Oper}{r:db}(h:DJ P N B T S o=some r):mc P G N B M o S r:=by
 unfold DJ at h
 split at h
 ·exact zd8 (by assumption) h
 ·exact zd9 (by assumption) h
 ·exact zeb (by assumption) h
 ·split at h
  ·rename_i aJ
   cases h;exact zeo (by assumption) aJ
  ·split at h
   ·rename_i aJ
    cases h;exact zen (by assumption) aJ
   ·split at h
    ·rename_i aJ
     cases h;exact zel (by assumption) aJ
    ·exact zep (by assumption) h
 ·exact zeq (by assumption) h
 ·exact zeK (by assumption) h
 ·exact zeH (by assumption) h
 ·exact zeI (by assumption) h
 ·rename_i c an
  split at h
  ·rename_i x y t bz hc hx aH
   split at h
   ·rename_i ad
    have:=Nat.eq_of_beq_eq_true ad
    subst this;obtain⟨callee,args,ts⟩:=c;simp only at hc hx aH;rw[hc,y7 hx,y7 aH]at an;exact zet an h
   ·obtain⟨callee,args,ts⟩:=c
    simp only at hc hx aH;rw[hc,y7 hx,y7 aH]at an;exact zeu an h
  ·cases h
 ·cases h
theorem sG{g:ab}{a b:aB}{e:Env}{v:Bool}(h:g.az e .bool=v):run M (.it g a b) e=match v with|true=>run M a e|false=>run M b e:=by
 simp only[run,aB.fold,h]
 cases v<;>rfl
def zS:b0→Exit→Prop
 | .cj,.normal=>True
 | .ext n,.exit m=>n=m
 | .ret,.ret=>True
 |_,_=>False
def js(G:a8)(N B:Nat)(M:List aR)(t:aB)(e:Env)(aX:Nat):Exit→aO→Prop:=fun ex st=>
 ∃x df ay,run M t e=some (x,df,ay)∧zS x ex∧cl st (df.den G N B ay)∧df.cp∧df.cq ay∧bX aX e ay∧aX≤df.k
theorem js.sub{t bz:aB}{e ay:Env}{k bk:Nat}{ex:Exit}{st:aO}(h:js G N B M bz ay bk ex st)(ag:run M t e=run M bz ay)(a6:bX k e ay)(aj:k≤bk):js G N B M t e k ex st:=by
 obtain⟨x,df,bh,aa,ae,av,aQ,bL,cT,fr⟩:=h
 exact⟨x,df,bh,ag.trans aa,ae,av,aQ,bL,bX.trans a6 cT aj,Nat.le_trans aj fr⟩
theorem Sv{x:b0}{ex:Exit}(h:zS x ex)(n:Nat):x.bT n=false:=by
 cases x with
 |kZ m=>cases ex<;>cases h
 |_=>rfl
def fP(P:Program)(G:a8)(M:List aR)(inl:Nat→List ab→aq→aB):Prop:=
 ∀f aG (S:aq) e,S.cp→ab.cI S.k aG=true→S.cq e→(inl f aG S).safe M e→
  dE P G f (ab.bO G e aG) (cw G e S.h) S.n fun r bU=>∃C ay,run M (inl f aG S) e=some (.cj,C,ay)∧r=(C.at 0).den G ay∧bU=cw G ay C.h∧C.cp∧C.cq ay∧bX S.k e ay∧S.k≤C.k
theorem zeN{e:Env}{k:Nat}{x:bJ}(h:Env.at e k=x.den M e): ∀c∈w1 k x,c.ok e:=fun c hc=>by
 unfold w1 at hc
 split at hc
 ·rw[List.mem_singleton]at hc;subst hc;exact h
 ·rw[List.mem_singleton]at hc;subst hc;exact h
 ·rw[List.mem_singleton]at hc;subst hc;exact h
 ·rw[List.mem_singleton]at hc;subst hc;exact h
 ·rw[List.mem_singleton]at hc;subst hc;exact h
 ·cases hc
theorem zeO{k:Nat}{x:bJ}(h:x.lt k=true):fh (k+1) (w1 k x)=true:=by
 have ad:Nat.blt k (k+1)=true:=jI (Nat.lt_succ_self k)
 unfold w1
 split
 ·simp only[fh,b6.lt,ad,gB (Nat.le_succ k) (x:=_) h,Bool.and_self]
 ·simp only[fh,b6.lt,ad,gB (Nat.le_succ k) (x:=_) h,Bool.and_self]
 ·simp only[fh,b6.lt,ad,gB (Nat.le_succ k) (x:=_) h,Bool.and_self]
 ·simp only[bJ.lt,Bool.and_eq_true]at h
  simp only[fh,b6.lt,ad,gB (Nat.le_succ k) h.1,gB (Nat.le_succ k) h.2,Bool.and_self]
 ·simp only[bJ.lt,Bool.and_eq_true]at h
  simp only[fh,b6.lt,ad,gB (Nat.le_succ k) h.1,gB (Nat.le_succ k) h.2,Bool.and_self]
 ·rfl
theorem Sw{k:Nat}: ∀{a b:List b6},fh k a=true→fh k b=true→fh k (a++b)=true
 |[],_,_,h=>h
 |c::a,b,h,h'=>by
  simp only[fh,Bool.and_eq_true]at h;simp only[List.cons_append,fh,h.1,Sw h.2 h',Bool.and_self]
theorem Sx{e:Env}: ∀{xs:List bJ} {k:Nat} {g:List b6},(∀c∈g,c.ok e)→(∀(j:Nat) (x:bJ),xs[j]? =some x→Env.at e (k+j)=x.den M e)→∀c∈w2 k xs g,c.ok e
 |[],_,_,h,_=>h
 |x::r,k,g,h,hx=>by
  refine Sx (xs:=r) (k:=k+1) (fun c hc=>?_) fun j y ax=>?_
  ·rcases List.mem_append.1 hc with hc|hc
   ·exact zeN (hx 0 x (by simp)) c hc
   ·exact h c hc
  ·have:=hx (j+1) y (by simpa using ax)
   rw[show k+1+j=k+(j+1)by omega];exact this
theorem Sy: ∀{xs:List bJ} {k:Nat} {g:List b6},ho k xs=true→fh k g=true→fh (k+xs.length) (w2 k xs g)=true
 |[],_,_,_,h=>h
 |x::r,k,g,ar,h=>by
  simp only[ho,Bool.and_eq_true]at ar
  have:=Sy (xs:=r) (k:=k+1) (g:=w1 k x++g) ar.2 (Sw (zeO ar.1) (nD (Nat.le_succ k) h))
  rw[List.length_cons,show k+(r.length+1)=k+1+r.length by omega]
  exact this
theorem rn{S:aq}{e:Env}{xs:List bJ}(ad:S.cp)(hf:S.cq e)(ar:ho S.k xs=true):
 (S.e0 S.k xs).cp∧(S.e0 S.k xs).cq (dh M e S.k xs)∧(S.e0 S.k xs).den G N B (dh M e S.k xs)=S.den G N B e:=by
 have a6:bX S.k e (dh M e S.k xs):=jJ (Nat.le_refl _)
 refine⟨⟨fun i x hx=>gB (Nat.le_add_right _ _) (ad.l i x hx),ss (Nat.le_add_right _ _) ad.h,Sy ar ad.g⟩,Sx (h8 a6 ad.g hf) (jq ar),?_⟩
 exact(k1 a6 ad:S.den G N B (dh M e S.k xs)=S.den G N B e)
theorem iU{S:aq}{dst:Option Nat}{v:ab}(ad:S.cp)(aw:v.lt S.k=true):(S.put dst v).cp:=by
 cases dst with
 |none=>exact ad
 |some d=>
  refine⟨fun i x hx=>?_,ad.h,ad.g⟩
  simp only[aq.put,ba.hR]at hx
  split at hx
  ·cases hx;exact aw
  ·exact ad.l i x hx
theorem zT{e:Env}{f:gD}{x:ab}{j:Nat}: ∀{l:List b6},zR f x l=some j→(∀c∈l,c.ok e)→Env.at e j=⟨f.c,f.den (x.az e f.a)⟩
 | .d1 i g y::r,h,hc=>by
  simp only[zR]at h
  split at h
  ·rename_i ad
   cases h;simp only[Bool.and_eq_true,decide_eq_true_eq]at ad
   have:=hc (.d1 j g y) (by simp)
   simp only[b6.ok]at this;rw[this,ad.1,eZ ad.2]
  ·exact zT h fun c hm=>hc c (by simp[hm])
 | .d2 _ _ _ _::r,h,hc=>zT (l:=r) h fun c hm=>hc c (by simp[hm])
 | .rg _ _::r,h,hc=>zT (l:=r) h fun c hm=>hc c (by simp[hm])
 | .dR _ _::r,h,hc=>zT (l:=r) h fun c hm=>hc c (by simp[hm])
theorem zeP{S:aq}{r:dt}{t:aU}{j:Nat}{e:Env}(h:Lb S r=some (t,j))(hf:S.cq e)(ar:ho S.k r.xs=true):(ab.aT t j).den G e=r.v.den G (dh M e S.k r.xs)∧Nat.blt j S.k=true∧r.ns=[]:=by
 unfold Lb at h
 split at h
 ·rename_i f x bz k hx hn aw
  split at h
  ·rename_i aj
   split at h
   ·rename_i ziv af
    split at h
    ·rename_i bI
     cases h;refine⟨?_,bI,hn⟩
     have aa:=zT af hf
     have ae:=jq (M:=M) (e:=e) ar 0 (.f1 f x) (by rw[hx];rfl)
     rw[Nat.add_zero]at ae;rw[aw,Nat.eq_of_beq_eq_true aj];simp only[ab.den];rw[aa,ae]
     have zeQ:x.lt S.k=true:=by
      rw[hx]at ar;simp only[ho,bJ.lt,Bool.and_eq_true]at ar;exact ar.1
     simp only[bJ.den];rw[eC (jJ (Nat.le_refl _)) zeQ]
    ·cases h
   ·cases h
  ·cases h
 ·cases h
theorem zeR{S:aq}{r:dt}{v:ab}{e:Env}(h:Lc S r=some v)(ar:ho S.k r.xs=true):v.den G e=r.v.den G (dh M e S.k r.xs)∧v.lt S.k=true∧r.ns=[]:=by
 unfold Lc at h
 split at h
 ·rename_i f a b t k hx hn aw
  split at h
  ·rename_i aj
   simp only[Bool.and_eq_true]at aj
   have ae:=jq (M:=M) (e:=e) ar 0 _ (by rw[hx];rfl)
   rw[Nat.add_zero]at ae;rw[aw,Nat.eq_of_beq_eq_true aj.1,hj aj.2];unfold St at h
   split at h<;>first|cases h|skip
   all_goals
    refine⟨?_,rfl,hn⟩
    simp only[ab.den,ae,bJ.den,cz,ab.az,ab.fo,ab.dyn,cA.den];rfl
  ·cases h
 ·cases h
theorem iV{S:aq}{dst:Option Nat}{v:ab}{e:Env}(hf:S.cq e):(S.put dst v).cq e:=by
 cases dst<;>exact hf
theorem iW{S:aq}{dst:Option Nat}{v:ab}:(S.put dst v).k=S.k:=by cases dst<;>rfl
end
end Go.aK
namespace Go.aK
open Go
section
variable {P:Program} {G:a8} {N B:Nat} {M:List aR} {T:List (Nat × bF)} {inl:Nat→List ab→aq→aB}
theorem cu.zeS{ops:Array Oper}{o:Oper}{rest:List Oper}{s:aO}{Q:Exit→aO→Prop}{A:aO→Prop}(ah:dL ops s o=some true)
 (h: ∀(E:Entry) (a:Act) (w:World),Rel E G s a w→∀(K:Act→World→Prop) (Q:Exit→Act→World→Prop),(∀t,A t→∀bc w',Rel E G t bc w'→K bc w')→o.wp P a w K Q)(k: ∀t,A t→cu P G ops Q rest t):cu P G ops Q (o::rest) s:=
 fun E a w ag=>wpList_step fun _ hK=>by
  have ax:=nv ag ah
  simp only[ax,if_true];exact h E a w ag _ _ fun t aH bc w' dV=>hK bc w' (k t aH E bc w' dV)
mutual
theorem DO{n:Nat}{e:Env}: ∀{x:ab},ab.rk n x=true→gy n (x.den G e)=true:=fun {x} h=>by
 cases x with
 |ch l=>simp only[ab.den,gy];exact w6 (l:=l) h
 |tp l=>simp only[ab.den,gy];exact w6 (l:=l) h
 |fn f a b=>
  simp only[ab.rk,Bool.and_eq_true]at h;simp only[ab.den,gy,w6 h.1,w6 h.2,Bool.and_self]
 |eb k o=>simp only[ab.den,gy];exact decide_eq_true (e6 h)
 |gJ k x o=>simp only[ab.den,gy];exact decide_eq_true (e6 (i:=k) h)
 |gO k o x n=>simp only[ab.den,gy];exact decide_eq_true (e6 (i:=k) h)
 |cM k n=>simp only[ab.den,gy];exact decide_eq_true (e6 (i:=k) h)
 |fg g i o=>
  cases i with
  |none=>simp only[ab.den];cases g.az e .bool<;>rfl
  |some k=>
   have aa:decide (k<n)=true:=decide_eq_true (e6 (i:=k) h)
   simp only[ab.den];cases g.az e .bool
   ·rfl
   ·exact aa
 |aM k=>simp only[ab.den,gy];exact decide_eq_true (e6 h)
 |gR k=>simp only[ab.den,gy];exact decide_eq_true (e6 h)
 |fH g b x=>
  have:gy n (x.den G e)=true:=DO h
  simp only[ab.den]
  cases g.az e .bool<;>cases b<;>first|exact this|rfl
 |lr g o=>simp only[ab.den];cases G g<;>rfl
 |_=>rfl
theorem w6{n:Nat}{e:Env}: ∀{l:List ab},ab.sD n l=true→kP n (ab.bO G e l)=true:=fun {l} h=>by
 match l with
 |[]=>rfl
 |x::r=>
  simp only[ab.sD,Bool.and_eq_true]at h;simp only[ab.bO,kP,DO h.1,w6 h.2,Bool.and_self]
end
theorem w7{n:Nat}{e:Env}: ∀{h:List (Nat × bB)},nI n h=true→kQ n (cw G e h)=true
 |[],_=>rfl
 |(id,.dm t l)::r,h=>by
  simp only[nI,Bool.and_eq_true]at h;simp only[cw,bB.den,kQ,w7 h.2.2,w6 h.2.1,decide_eq_true (e6 h.1),Bool.and_self]
 |(id,.rw t c x)::r,h=>by
  simp only[nI,Bool.and_eq_true]at h;simp only[cw,bB.den,kQ,w7 h.2,decide_eq_true (e6 h.1),Bool.and_self]
 |(id,.it q x p)::r,h=>by
  simp only[nI,Bool.and_eq_true]at h;simp only[cw,bB.den,kQ,w7 h.2,decide_eq_true (e6 h.1),Bool.and_self]
theorem Sz: ∀{h:List (Nat × bB)} {id:Nat} {o:bB},da h id=some o→(id,o)∈h
 |(i,p)::r,id,o,h=>by
  simp only[da]at h
  split at h
  ·rename_i ad
   cases h;rw[Nat.eq_of_beq_eq_true ad];simp
  ·exact List.mem_cons_of_mem _ (Sz h)
theorem zeT{n:Nat}{aP:List (Nat × bB)}{e ay:Env}: ∀{h:List (Nat × bB)},zO n aP h=true→∀id o,id<n→aD (cw G ay h) id=some o→∃cy,aD (cw G e aP) id=some cy∧Dk cy o:=by
 have key: ∀{h:List (Nat × bB)},zO n aP h=true→∀id oZ,(id,oZ)∈h→id<n→∃cy,da aP id=some cy∧bB.kind cy oZ=true:=by
  intro h
  induction h with
  |nil=>intro _ _ _ hm;cases hm
  |cons p r aZ=>
   obtain⟨j,q⟩:=p;intro aj id oZ hm bI;simp only[zO,Bool.and_eq_true]at aj
   rcases List.mem_cons.1 hm with he|he
   ·cases he
    have aa:=aj.1
    rw[jI bI]at aa;simp only at aa
    split at aa
    ·rename_i cy an;exact⟨cy,an,aa⟩
    ·cases aa
   ·exact aZ aj.2 id oZ he bI
 intro h aj id o bI ah
 rw[ef]at ah
 cases ai:da h id with
 |none=>rw[ai]at ah;cases ah
 |some oZ=>
  rw[ai]at ah;cases ah;obtain⟨cy,aa,ae⟩:=key aj id oZ (Sz ai) bI;refine⟨cy.den G e,by rw[ef,aa];rfl,?_⟩
  cases cy<;>cases oZ<;>first|trivial|(cases ae;done)|exact Nat.eq_of_beq_eq_true ae
mutual
theorem sH(id:Nat){k:Nat}: ∀{x:ab},x.lt k=true→(x.kill id).lt k=true:=fun {x} h=>by
 cases x with
 |ch l=>exact sI id (l:=l) h
 |tp l=>exact sI id (l:=l) h
 |fn f a b=>
  simp only[ab.lt,Bool.and_eq_true]at h;simp only[ab.kill,ab.lt,Bool.and_eq_true];exact⟨sI id h.1,sI id h.2⟩
 |fH g b x=>
  simp only[ab.lt,Bool.and_eq_true]at h;simp only[ab.kill,ab.lt,Bool.and_eq_true];exact⟨h.1,sH id h.2⟩
 |eb j o=>simp only[ab.kill];split<;>first|rfl|exact h
 |gJ j x o=>simp only[ab.kill];split<;>first|rfl|exact h
 |gO j o x n=>simp only[ab.kill];split<;>first|rfl|exact h
 |cM j n=>simp only[ab.kill];split<;>rfl
 |fg g i o=>
  cases i with
  |none=>exact h
  |some j=>simp only[ab.kill];split<;>exact h
 |aM j=>simp only[ab.kill];split<;>first|rfl|exact h
 |gR j=>simp only[ab.kill];split<;>first|rfl|exact h
 |_=>exact h
theorem sI(id:Nat){k:Nat}: ∀{l:List ab},ab.cI k l=true→ab.cI k (ab.ed id l)=true:=fun {l} h=>by
 match l with
 |[]=>rfl
 |x::r=>
  simp only[ab.cI,Bool.and_eq_true]at h;simp only[ab.ed,ab.cI,Bool.and_eq_true];exact⟨sH id h.1,sI id h.2⟩
end
theorem SA{S:aq}{o:Oper}{r:db}{e:Env}(ad:S.cp)(hf:S.cq e)(ar:ho S.k r.xs=true)(aw:r.v.lt (S.k+r.xs.length)=true)(bd:eE (S.k+r.xs.length) r.h=true):
 ((r.st S o.dst).e0 S.k r.xs).cp∧((r.st S o.dst).e0 S.k r.xs).cq (dh M e S.k r.xs):=by
 obtain⟨cb,a2,_⟩:=rn (M:=M) (G:=fun _=>none) (N:=0) (B:=0) ad hf ar
 have ah:(r.st S o.dst).g=S.g:=by unfold db.st;cases o.dst<;>rfl
 refine⟨⟨fun i x hx=>?_,?_,?_⟩,?_⟩
 ·have hx:(r.st S o.dst).l.get i=some x:=hx
  show x.lt (S.k+r.xs.length)=true
  have base: ∀x,(r.l S.l).get i=some x→x.lt (S.k+r.xs.length)=true:=fun x hx=>by
   unfold db.l at hx
   split at hx
   ·exact gB (Nat.le_add_right _ _) (ad.l i x hx)
   ·rw[ba.get_map]at hx
    cases aJ:S.l.get i with
    |none=>rw[aJ]at hx;cases hx
    |some y=>
     rw[aJ]at hx;cases hx;exact sH _ (gB (Nat.le_add_right _ _) (ad.l i y aJ))
  unfold db.st at hx
  cases hd:o.dst with
  |none=>rw[hd]at hx;exact base x hx
  |some d=>
   rw[hd]at hx;simp only[aq.put,ba.hR]at hx
   split at hx
   ·cases hx;exact aw
   ·exact base x hx
 ·have:((r.st S o.dst).e0 S.k r.xs).h=r.h:=by unfold db.st aq.e0;cases o.dst<;>rfl
  rw[this];exact bd
 ·show fh (S.k+r.xs.length) (w2 S.k r.xs (r.st S o.dst).g)=true
  rw[ah];exact cb.g
 ·show ∀c∈w2 S.k r.xs (r.st S o.dst).g,_
  rw[ah];exact a2
theorem zU{k:Nat}: ∀{a b:List ab},ab.cI k a=true→ab.cI k b=true→ab.cI k (a++b)=true
 |[],_,_,h=>h
 |x::a,b,h,h'=>by
  simp only[ab.cI,Bool.and_eq_true]at h;simp only[List.cons_append,ab.cI,h.1,zU h.2 h',Bool.and_self]
theorem Le{k:Nat}{x:ab}(hx:x.lt k=true): ∀{l:List ab} {i:Nat},ab.cI k l=true→ab.cI k (l.set i x)=true
 |[],_,h=>h
 |y::l,0,h=>by simp only[ab.cI,Bool.and_eq_true,List.set]at h⊢;exact⟨hx,h.2⟩
 |y::l,i+1,h=>by simp only[ab.cI,Bool.and_eq_true,List.set]at h⊢;exact⟨h.1,Le hx h.2⟩
theorem DQ{k:Nat}{o:bB}(an:o.lt k=true): ∀{l:List (Nat × bB)} {i:Nat},eE k l=true→eE k (jl l i o)=true
 |[],_,_=>by simp only[jl,eE,an,Bool.and_self]
 |(j,x)::l,i,h=>by
  simp only[eE,Bool.and_eq_true]at h;simp only[jl]
  split
  ·simp only[eE,Bool.and_eq_true];exact⟨an,h.2⟩
  ·simp only[eE,Bool.and_eq_true];exact⟨h.1,DQ an h.2⟩
theorem uK{k id:Nat}{o:bB}: ∀{l:List (Nat × bB)},eE k l=true→da l id=some o→o.lt k=true
 |[],_,h=>by cases h
 |(j,x)::l,ar,h=>by
  simp only[eE,Bool.and_eq_true]at ar;simp only[da]at h
  split at h
  ·cases h;exact ar.1
  ·exact uK ar.2 h
theorem Lf{e:Env}{x:ab}: ∀{l:List ab} {i:Nat},ab.bO G e (l.set i x)=(ab.bO G e l).set i (x.den G e)
 |[],_=>rfl
 |y::l,0=>rfl
 |y::l,i+1=>by simp only[List.set,ab.bO,Lf (l:=l)]
theorem nJ(id:Nat){k:Nat}: ∀{h:List (Nat × bB)},eE k h=true→eE k (hl id h)=true
 |[],h=>h
 |(j,.dm t l)::r,h=>by
  simp only[eE,Bool.and_eq_true]at h;unfold hl
  split
  ·exact nJ id h.2
  ·simp only[eE,Bool.and_eq_true]
   exact⟨sI id h.1,nJ id h.2⟩
 |(j,.rw t c x)::r,h=>by
  simp only[eE,Bool.and_eq_true]at h;unfold hl
  split
  ·exact nJ id h.2
  ·simp only[eE,Bool.and_eq_true]
   exact⟨h.1,nJ id h.2⟩
 |(j,.it q x p)::r,h=>by
  simp only[eE,Bool.and_eq_true]at h;unfold hl
  split
  ·exact nJ id h.2
  ·simp only[eE,Bool.and_eq_true]
   exact⟨h.1,nJ id h.2⟩
theorem zeU{id off k m:Nat}{C:aq}{e:Env}(ad:C.cp)(hf:C.cq e):(w4 B id off k m C).cp∧(w4 B id off k m C).cq e∧(w4 B id off k m C).k=C.k∧cl (C.den G N B e) ((w4 B id off k m C).den G N B e):=by
 unfold w4
 split
 ·rename_i t l gK c x ah hm
  split
  ·rename_i hc
   simp only[Bool.and_eq_true,Bool.not_eq_true']at hc;obtain⟨aW,⟨dp,c9⟩,gl⟩:=hc;refine⟨⟨fun i y ax=>?_,DQ (o:=.dm t _) (Le (x:=.aM k) rfl (sI _ (sI _ (uK (o:=.dm t l) ad.h ah)))) ?_,ad.g⟩,hf,rfl,?_⟩
   ·simp only[ba.get_map]at ax
    cases aJ:C.l.get i with
    |none=>rw[aJ]at ax;cases ax
    |some z=>
     rw[aJ]at ax;simp only[Option.map_some,Option.some.injEq]at ax;subst ax;exact sH _ (sH _ (ad.l i z aJ))
   ·have aa:=uK (o:=.rw gK c x) ad.h hm
    have ae:=nJ k (nJ m ad.h)
    simp only[eE,Bool.and_eq_true];exact⟨aa,ae⟩
   ·refine cl.zeh id off m k gK (bZ c) (t:=t) (cs:=ab.bO G e l) (es:=List.map (b9 c) (x.az e (.li c))) (by simp only[aq.den,ef,ah,Option.map_some,bB.den]) (by simp only[aq.den,ef,hm,Option.map_some,bB.den]) ?_ (Nat.le_of_ble_eq_true dp) (e6 c9) (Nat.ne_of_beq_eq_false gl) ?_
    ·rw[e5,List.getElem?_map]
     unfold DM at aW
     split at aW
     ·rename_i ar
      rw[ar]
      have:=Nat.eq_of_beq_eq_true aW
      subst this;rfl
     ·cases aW
    ·simp only[aq.den,wX,sr,cw,bB.den,oW,Lf,uD,ab.den]
  ·exact⟨ad,hf,rfl,cl.refl _⟩
 ·exact⟨ad,hf,rfl,cl.refl _⟩
theorem zeV{S C:aq}{e:Env}(ad:C.cp)(hf:C.cq e):(uI B S C).cp∧(uI B S C).cq e∧(uI B S C).k=C.k∧cl (C.den G N B e) ((uI B S C).den G N B e):=by
 unfold uI
 split
 ·exact zeU ad hf
 ·exact⟨ad,hf,rfl,cl.refl _⟩
theorem cl.sE{s bn:aO}(d m k gK n:Nat){es:List (List a1)}(hm:aD s.heap m=some (.row false gK n es))(hc:s.cO[d]? =some (.aM m))(ad:s.base≤k)(bI:k<s.next)
 (h:(aO.put ⟨ed k (ed m s.cO),(k,.row false gK n es)::du k (du m s.heap),s.next,s.base⟩ (some d) (.aM k):aO)=bn):cl s bn:=by
 subst h
 intro E G a w ⟨β,ro,ag⟩
 have Kw:=ag.heap.c6 m _ hm
 have fb:=ag.R0 (w':=w) m k ad bI hm (.row false gK n es) (β m) rfl rfl rfl (Nat.le_refl _) (fun _ _ _=>rfl) (fun _ ad=>.inl ad) rfl (by
  cases Kw with
  |row _ _ _ xs aa ae av=>exact .row gK n es xs (by rw[dP];exact aa) ae av)
 have aw:=ag.slot d _ hc
 have SB:=fb.put (some d) (.aM k) (a.tmps.getD d undef) (by
  generalize a.tmps.getD d undef=bP at aw⊢
  cases aw with
  |aM _ _ _ ak=>
   refine .aM _ _ bI fun z bz cH dN _=>?_
   rw[ak _ _ _ _ hm]
   exact(dP _ _ _).symm)
 have a6:a.put (some d) (a.tmps.getD d undef)=a:=by
  have hd:d<a.tmps.size:=by
   rw[ag.size];exact(List.getElem?_eq_some_iff.1 hc).1
  have:a.tmps.setIfInBounds d (a.tmps.getD d undef)=a.tmps:=by
   apply Array.ext
   ·simp
   ·intro i aa ae
    rw[Array.getElem_setIfInBounds]
    split
    ·rename_i hi
     subst hi;simp[Array.getD,hd]
    ·rfl
  show({a with tmps:=a.tmps.setIfInBounds d (a.tmps.getD d undef)}:Act)=a
  rw[this]
 rw[a6]at SB
 exact⟨_,ro,SB⟩
theorem zeW{d k m:Nat}{C:aq}{e:Env}(hd:d<N)(ad:C.cp)(hf:C.cq e):(sE B d k m C).cp∧(sE B d k m C).cq e∧(sE B d k m C).k=C.k∧cl (C.den G N B e) ((sE B d k m C).den G N B e):=by
 unfold Go.aK.sE
 split
 ·rename_i gK c x hm
  split
  ·rename_i hc
   simp only[Bool.and_eq_true]at hc;obtain⟨aW,dp,c9⟩:=hc;refine⟨iU ⟨fun i y ax=>?_,?_,ad.g⟩ rfl,iV hf,iW,?_⟩
   ·simp only[ba.get_map]at ax
    cases aJ:C.l.get i with
    |none=>rw[aJ]at ax;cases ax
    |some z=>
     rw[aJ]at ax;simp only[Option.map_some,Option.some.injEq]at ax;subst ax;exact sH _ (sH _ (ad.l i z aJ))
   ·have aa:=uK (o:=.rw gK c x) ad.h hm
    have ae:=nJ k (nJ m ad.h)
    simp only[eE,Bool.and_eq_true];exact⟨aa,ae⟩
   ·refine cl.sE d m k gK (bZ c) (es:=List.map (b9 c) (x.az e (.li c))) (by simp only[aq.den,ef,hm,Option.map_some,bB.den]) ?_ (Nat.le_of_ble_eq_true dp) (e6 c9) ?_
    ·unfold DM at aW
     split at aW
     ·rename_i ar
      have:=Nat.eq_of_beq_eq_true aW
      subst this;simp only[aq.den,nC,hd,if_true,Nat.zero_add,ar,ab.den]
     ·cases aW
    ·rw[e9]
     simp only[aq.den,wX,cw,bB.den,oW,ab.den]
  ·exact⟨ad,hf,rfl,cl.refl _⟩
 ·exact⟨ad,hf,rfl,cl.refl _⟩
theorem zeX{S C:aq}{dst:Option Nat}{e:Env}(ad:C.cp)(hf:C.cq e):(uJ B N S C dst).cp∧(uJ B N S C dst).cq e∧(uJ B N S C dst).k=C.k∧cl (C.den G N B e) ((uJ B N S C dst).den G N B e):=by
 unfold uJ
 split
 ·split
  ·split
   ·split
    ·rename_i hd
     exact zeW (e6 hd) ad hf
    ·exact⟨ad,hf,rfl,cl.refl _⟩
   ·exact⟨ad,hf,rfl,cl.refl _⟩
  ·exact⟨ad,hf,rfl,cl.refl _⟩
 ·exact⟨ad,hf,rfl,cl.refl _⟩
theorem SC{o:Oper}{S:aq}{e:Env}{f:Nat}{aG:List ab}(h:zQ P N S o=some (f,aG))(hf:S.cq e)(ad:S.cp):
 ∃p q xs,ab.bO G e aG=p++xs.toList.map (aI G (S.den G N B e))++q∧ux P G o (S.den G N B e) f p q xs∧ab.cI S.k aG=true:=by
 have w8: ∀l:List Operand,ab.cI S.k (l.map (S.aY N))=true:=fun l=>by
  induction l with
  |nil=>rfl
  |cons y r aZ=>simp only[List.map_cons,ab.cI,CU ad y,aZ,Bool.and_self]
 unfold zQ at h
 split at h
 ·rename_i c zt
  obtain⟨callee,args,ts⟩:=c
  split at h
  ·rename_i x hx
   simp only at hx;subst hx
   split at h
   ·rename_i ziw p q' ur
    cases h;refine⟨ab.bO G e p,ab.bO G e q',args,?_,.value zt (by rw[bC hf,ur];rfl),?_⟩
    ·rw[e5,e5,e5,List.map_append,List.map_append,List.map_map]
     congr 2
     exact List.map_congr_left fun y _=>(bC hf y).symm
    ·have fS:=CU (N:=N) ad x
     rw[ur]at fS;simp only[ab.lt,Bool.and_eq_true]at fS;exact zU (zU fS.1 (w8 _)) fS.2
   ·cases h
  ·rename_i x name hx
   simp only at hx;subst hx
   split at h
   ·rename_i t a rs l ur
    split at h
    ·rename_i g v hm aw gg
     cases h;refine⟨[v.den G e],[],args,?_,.invoke zt hm fun E a w β ro ag=>zdX hf ur aw (of_decide_eq_true gg) ag,?_⟩
     ·simp only[e5,List.map_append,List.map_map,List.map_cons,List.map_nil]
      congr 2
      exact List.map_congr_left fun y _=>(bC hf y).symm
     ·have fS:=CU (N:=N) ad x
      rw[ur]at fS;exact zU (zU (by simp only[ab.cI,zdZ fS aw,Bool.and_self]) (w8 _)) rfl
    ·cases h
   ·cases h
  ·cases h
 ·cases h
theorem Lg(bW:fP P G M inl){ops:Array Oper}{o:Oper}{r:List Oper}{S:aq}{k:aq→aB}{e:Env}{Q:Exit→aO→Prop}(ad:S.cp)(hf:S.cq e)(hw:dL ops (S.den G N B e) o=some true)(ai:(exec P N B T inl o S k).safe M e)
 (aj: ∀df ay,df.cp→df.cq ay→bX S.k e ay→S.k≤df.k→(k df).safe M ay→run M (exec P N B T inl o S k) e=run M (k df) ay→cu P G ops Q r (df.den G N B ay)):cu P G ops Q (o::r) (S.den G N B e):=by
 have iv:=ai
 unfold exec at iv
 split at iv
 ·rename_i q aw
  split at iv
  ·rename_i hc
   split at iv
   ·rename_i t j zV
    have fL:exec P N B T inl o S k=k (S.put o.dst (.aT t j)):=by unfold exec;rw[aw];simp only[hc,zV]
    simp only[Bool.and_eq_true]at hc;obtain⟨dk,eu,Lh⟩:=zeP (M:=M) (G:=G) zV hf hc.1
    have bS:bX S.k e (dh M e S.k q.xs):=jJ (Nat.le_refl _)
    have dB:=uv (G:=G) (B:=B) (M:=M) aw (dh M e S.k q.xs) (h8 bS ad.g hf) (jq hc.1) (by rw[Lh];intro n hn;cases hn)
    rw[k1 bS ad,←dk]at dB
    have mq:(S.den G N B e).put o.dst ((ab.aT t j).den G e)=(S.put o.dst (.aT t j)).den G N B e:=by rw[e9]
    refine cu.step hw (mq ▸ dB.step) ?_
    exact aj _ e (iU ad eu) (iV hf) (bX.refl _ _) (by rw[iW];exact Nat.le_refl _) iv (by rw[fL])
   rename_i zV
   split at iv
   ·rename_i v wQ
    have fL:exec P N B T inl o S k=k (S.put o.dst v):=by unfold exec;rw[aw];simp only[hc,zV,wQ]
    simp only[Bool.and_eq_true]at hc;obtain⟨dk,eu,Lh⟩:=zeR (M:=M) (G:=G) (e:=e) wQ hc.1
    have bS:bX S.k e (dh M e S.k q.xs):=jJ (Nat.le_refl _)
    have dB:=uv (G:=G) (B:=B) (M:=M) aw (dh M e S.k q.xs) (h8 bS ad.g hf) (jq hc.1) (by rw[Lh];intro n hn;cases hn)
    rw[k1 bS ad,←dk]at dB
    have mq:(S.den G N B e).put o.dst (v.den G e)=(S.put o.dst v).den G N B e:=by rw[e9]
    refine cu.step hw (mq ▸ dB.step) ?_
    exact aj _ e (iU ad eu) (iV hf) (bX.refl _ _) (by rw[iW];exact Nat.le_refl _) iv (by rw[fL])
   rename_i wQ
   have fL:exec P N B T inl o S k=emit S.k q.xs q.ns (k ((S.e0 S.k q.xs).put o.dst q.v)):=by unfold exec;rw[aw];simp only[hc,zV,wQ]
   simp only[Bool.and_eq_true]at hc;obtain⟨gL,gu⟩:=me iv;obtain⟨cb,a2,a3⟩:=rn (M:=M) (G:=G) (N:=N) (B:=B) ad hf hc.1
   have bS:bX S.k e (dh M e S.k q.xs):=jJ (Nat.le_refl _)
   have dB:=uv (G:=G) (B:=B) (M:=M) aw (dh M e S.k q.xs) (h8 bS ad.g hf) (jq hc.1) gL
   rw[k1 bS ad]at dB
   have mq:(S.den G N B e).put o.dst (q.v.den G (dh M e S.k q.xs))=((S.e0 S.k q.xs).put o.dst q.v).den G N B (dh M e S.k q.xs):=by rw[e9,a3]
   refine cu.step hw (mq ▸ dB.step) ?_
   exact aj _ _ (iU cb hc.2) (iV a2) bS (by rw[iW];exact Nat.le_add_right _ _) gu (by rw[fL,ly])
  ·exact iv.elim
 ·rename_i aw
  split at iv
  ·rename_i q aJ
   split at iv
   ·rename_i hc
    have fL:exec P N B T inl o S k=emit S.k q.xs q.ns (k ((q.st S o.dst).e0 S.k q.xs)):=by unfold exec;rw[aw,aJ];simp only[hc]
    simp only[Bool.and_eq_true]at hc;obtain⟨gL,gu⟩:=me iv
    have bS:bX S.k e (dh M e S.k q.xs):=jJ (Nat.le_refl _)
    have dB:=Su (G:=G) (M:=M) aJ (dh M e S.k q.xs) (h8 bS ad.g hf) (jq hc.1) gL
    rw[k1 bS ad]at dB;obtain⟨dk,eu⟩:=SA (M:=M) (o:=o) ad hf hc.1 hc.2.1 hc.2.2;refine cu.step hw dB ?_
    have uL:S.k≤((q.st S o.dst).e0 S.k q.xs).k:=Nat.le_add_right _ _
    exact aj ((q.st S o.dst).e0 S.k q.xs) _ dk eu bS uL gu (by rw[fL,ly])
   ·exact iv.elim
  ·rename_i aJ
   split at iv
   ·rename_i q pO
    split at iv
    ·rename_i hc
     have fL:exec P N B T inl o S k=emit S.k q.xs [] (.it q.g (k (q.st S o.dst)) (k (q.w3 S o.dst))):=by unfold exec;rw[aw,aJ,pO];simp only[hc]
     simp only[qe.ok,Bool.and_eq_true]at hc;obtain⟨_,gu⟩:=me iv
     have bS:bX S.k e (dh M e S.k q.xs):=jJ (Nat.le_refl _)
     obtain⟨cb,a2,a3⟩:=rn (M:=M) (G:=G) (N:=N) (B:=B) ad hf hc.1.1;obtain⟨dk,eu⟩:=zeL (P:=P) (G:=G) (B:=B) pO (h8 bS ad.g hf) (jq hc.1.1);rw[k1 bS ad]at dk eu
     have uL: ∀b,Nat.ble S.k (S.k+b)=true:=fun b=>Nat.ble_eq_true_of_le (Nat.le_add_right _ _)
     have cn:run M (exec P N B T inl o S k) e=run M (.it q.g (k (q.st S o.dst)) (k (q.w3 S o.dst))) (dh M e S.k q.xs):=by rw[fL,ly]
     have dR: ∀b,q.g.az (dh M e S.k q.xs) .bool=b→∀c∈(b6.dR q.g b::(S.e0 S.k q.xs).g),c.ok (dh M e S.k q.xs):=fun b ah c hm=>by
      rcases List.mem_cons.1 hm with rfl|hm
      ·exact ah
      ·exact a2 c hm
     cases ah:q.g.az (dh M e S.k q.xs) .bool with
     |true=>
      refine cu.step hw (dk ah) ?_
      have qf:(q.st S o.dst).cp:=Sn (iU (S:={S.e0 S.k q.xs with h:=q.h,g:=.dR q.g true::(S.e0 S.k q.xs).g}) ⟨cb.l,hc.2.1,by simp only[fh,b6.lt,Bool.and_eq_true];exact⟨hc.1.2,cb.g⟩⟩ hc.2.2.1)
      have e7:(q.st S o.dst).cq (dh M e S.k q.xs):=So (iV (S:={S.e0 S.k q.xs with h:=q.h,g:=.dR q.g true::(S.e0 S.k q.xs).g}) (dR true ah))
      have hd:(aq.put {S with h:=q.h} o.dst q.v).den G N B (dh M e S.k q.xs)=(q.st S o.dst).den G N B (dh M e S.k q.xs):=by cases o.dst<;>rfl
      rw[hd];exact aj _ _ qf e7 bS (by show S.k≤(aq.put _ _ _).k;rw[iW];exact Nat.le_add_right _ _) (gu.1 ah) (by rw[cn,sG ah])
     |false=>
      refine cu.step hw (eu ah) ?_
      have qf:(q.w3 S o.dst).cp:=Sn (iU (S:={S.e0 S.k q.xs with g:=.dR q.g false::(S.e0 S.k q.xs).g}) ⟨cb.l,cb.h,by simp only[fh,b6.lt,Bool.and_eq_true];exact⟨hc.1.2,cb.g⟩⟩ hc.2.2.2)
      have e7:(q.w3 S o.dst).cq (dh M e S.k q.xs):=So (iV (S:={S.e0 S.k q.xs with g:=.dR q.g false::(S.e0 S.k q.xs).g}) (dR false ah))
      have hd:(S.put o.dst q.bg).den G N B (dh M e S.k q.xs)=(q.w3 S o.dst).den G N B (dh M e S.k q.xs):=by cases o.dst<;>rfl
      rw[hd];exact aj _ _ qf e7 bS (by show S.k≤(aq.put _ _ _).k;rw[iW];exact Nat.le_add_right _ _) (gu.2 ah) (by rw[cn,sG ah])
    ·exact iv.elim
   rename_i pO
   split at iv
   ·rename_i f aG ua
    split at iv
    ·rename_i gz
     have fL:exec P N B T inl o S k=iA N S ((inl f aG S).eG (zP S o.dst) none) fun C=>k (uJ B N S (uI B S C) o.dst):=by unfold exec;rw[aw,aJ,pO,ua];simp only[gz]
     obtain⟨t1,_,t3⟩:=DF (G:=G) (B:=B) ad hf iv;obtain⟨g1,g2,g3⟩:=iX (inl f aG S) none t1;obtain⟨p,q',args,mq,uy,bI⟩:=SC (G:=G) (B:=B) ua hf ad
     have hb:=bW f _ S e ad bI hf g1
     rw[mq]at hb
     refine cu.zeS (A:=fun t=>∃C ay,run M (inl f aG S) e=some (.cj,C,ay)∧C.cp∧C.cq ay∧bX S.k e ay∧S.k≤C.k∧DK S C=true∧t=(S.back o.dst C).den G N B ay) hw
      (zd4 uy gz hb fun r bU ⟨C,ay,aW,dp,c9,gl,iC,ki,jy⟩=>?_) fun t ⟨C,ay,aW,gl,iC,ki,jy,bf,aH⟩=>?_
     ·have ah:=(g3 C ay aW).1
      have bf:DK S C=true:=by
       unfold zP at ah
       split at ah
       ·assumption
       ·exact ah.elim
      have en:=bf
      simp only[DK,Bool.and_eq_true]at en;refine⟨C.n,Nat.le_of_ble_eq_true en.2.1,?_,?_,?_,C,ay,aW,gl,iC,ki,jy,bf,?_⟩
      ·rw[dp];exact DO en.1.1
      ·rw[c9];exact w7 en.1.2
      ·rw[c9];exact zeT en.2.2
      ·rw[dp,c9,aq.back,e9]
       have:=k1 (G:=G) (N:=N) (B:=B) ki ad
       have pN:j2 G ay S.l 0 N=j2 G e S.l 0 N:=congrArg aO.cO this
       simp only[aq.den,pN]
     ·subst aH
      have ah:=(g3 C ay aW)
      have cn:run M ((inl f aG S).eG (zP S o.dst) none) e=some (.cj,S.back o.dst C,ay):=by
       rw[g2,aW];simp only[ir,zP,bf];rfl
      have qf:(S.back o.dst C).cp:=by
       unfold aq.back;refine iU ⟨fun i x hx=>gB jy (ad.l i x hx),gl.h,gl.g⟩ ?_
       show(C.at 0).lt C.k=true;unfold aq.at
       cases hv:C.l.get 0 with
       |none=>rfl
       |some y=>exact gl.l 0 y hv
      obtain⟨dM,bh,s1,s2,o1,o2,o3,o4,o5⟩:=t3 _ _ cn qf (iV iC) ki (by unfold aq.back;rw[iW];exact jy)
      obtain⟨gL,gu,Li,zeY⟩:=zeV (G:=G) (N:=N) (B:=B) (S:=S) s2 o1;obtain⟨dF,eQ,zeZ,ze0⟩:=zeX (G:=G) (N:=N) (B:=B) (S:=S) (dst:=o.dst) gL gu;exact cu.le (cl.trans s1 (cl.trans zeY ze0)) (aj _ bh dF eQ o2 (by rw[zeZ,Li];exact o3) o4 (by rw[fL,o5]))
    ·exact iv.elim
   ·exact iv.elim
def SD(G:a8)(N B:Nat)(ops:Array Oper)(o:Oper)(S:aq)(e:Env):DI→Prop
 | .yes=>dL ops (S.den G N B e) o=some true
 | .no=>dL ops (S.den G N B e) o=some false
 | .on gs=>(fM e gs=true→dL ops (S.den G N B e) o=some true)∧(fM e gs=false→dL ops (S.den G N B e) o=some false)
 | .bad=>True
def qg(b:Bool):aC→Option Bool
 | .au (.v (.bool c))=>some (c==b)
 | .tuple _=>some false
 |_=>none
def DR(G:a8)(b:Bool)(e:Env)(v:ab):DI→Prop
 | .yes=>qg b (v.den G e)=some true
 | .no=>qg b (v.den G e)=some false
 | .on gs=>(fM e gs=true→qg b (v.den G e)=some true)∧(fM e gs=false→qg b (v.den G e)=some false)
 | .bad=>True
theorem SE{a b:Bool}(h:a=b):(a==b)=true:=by cases a<;>cases b<;>first|rfl|cases h
theorem SF{a b:Bool}(h: ¬a=b):(a==b)=false:=by cases a<;>cases b<;>first|rfl|exact absurd rfl h
theorem k3{l:List b6}{b:Bool}{e:Env}(hf: ∀c∈l,c.ok e)(g:ab):DR G b e g (match g.rt,k0 g l with
 |some .bool,some c=>match decide (c=b)with
  |true=>.yes
  |false=>.no
 |some .bool,none=>.on [(g,b)]
 |_,_=>.bad):=by
 split
 ·rename_i c aa ae
  have aj:=p5 ae hf
  have hd:=fX (G:=G) (e:=e) aa
  rw[aj]at hd
  cases gz:decide (c=b)with
  |true=>show qg b (g.den G e)=some true;rw[hd];exact congrArg some (SE (of_decide_eq_true gz))
  |false=>show qg b (g.den G e)=some false;rw[hd];exact congrArg some (SF (of_decide_eq_false gz))
 ·rename_i aa ae
  have hd:=fX (G:=G) (e:=e) aa
  simp only[DR,fM,Bool.and_true];rw[hd];exact⟨fun h=>congrArg some h,fun h=>congrArg some h⟩
 ·trivial
theorem w9{h:ab}{c:Bool}{v:ab}{e:Env}(hc:h.az e .bool=c):(ab.fH h c v).den G e=v.den G e:=by
 simp only[ab.den,hc];cases c<;>rfl
theorem SG{h:ab}{c:Bool}{v:ab}{e:Env}(hc:h.az e .bool= !c):(ab.fH h c v).den G e= .tuple []:=by
 simp only[ab.den,hc];cases c<;>rfl
theorem SH{l:List b6}{b:Bool}{e:Env}(hf: ∀c∈l,c.ok e): ∀v:ab,DR G b e v (uH l b v)
 | .fH h c v=>by
  have aZ:=SH (b:=b) hf v
  have Lj:h.az e .bool≠c→qg b ((ab.fH h c v).den G e)=some false:=fun hn=>by
   rw[SG (by cases bd:h.az e .bool<;>cases c<;>first|rfl|exact absurd bd hn)]
   rfl
  simp only[uH]
  split
  ·cases ah:uH l b v with
   |yes=>
    rw[ah]at aZ;refine⟨fun a6=>?_,fun a6=>?_⟩
    ·simp only[fM,Bool.and_true,beq_iff_eq]at a6
     rw[w9 a6];exact aZ
    ·simp only[fM,Bool.and_true,beq_eq_false_iff_ne]at a6
     exact Lj a6
   |no=>
    rw[ah]at aZ;show qg b _=some false
    by_cases bd:h.az e .bool=c
    ·rw[w9 bd];exact aZ
    ·exact Lj bd
   |on gs=>
    rw[ah]at aZ;refine⟨fun a6=>?_,fun a6=>?_⟩
    ·simp only[fM,Bool.and_eq_true,beq_iff_eq]at a6
     rw[w9 a6.1];exact aZ.1 a6.2
    ·by_cases bd:h.az e .bool=c
     ·rw[w9 bd]
      refine aZ.2 ?_
      simp only[fM,bd,beq_self_eq_true,Bool.true_and]at a6;exact a6
     ·exact Lj bd
   |bad=>trivial
  ·trivial
 | .cs x=>by
  unfold uH
  split
  ·rename_i c heq
   cases heq
   cases gz:decide (c=b)with
   |true=>exact congrArg some (SE (of_decide_eq_true gz))
   |false=>exact congrArg some (SF (of_decide_eq_false gz))
  ·rename_i heq;cases heq
  ·rename_i heq;cases heq
  ·exact k3 hf _
 | .tp l=>rfl
 | .aT r i=>k3 hf (.aT r i)
 | .fd c i k r=>k3 hf (.fd c i k r)
 | .ip c i k=>k3 hf (.ip c i k)
 | .ch l=>k3 hf (.ch l)
 | .eb i o=>k3 hf (.eb i o)
 | .gJ i x o=>k3 hf (.gJ i x o)
 | .aM i=>k3 hf (.aM i)
 | .fn f a b=>k3 hf (.fn f a b)
 | .gR i=>k3 hf (.gR i)
 | .lr g o=>k3 hf (.lr g o)
 | .gO i o x n=>k3 hf (.gO i o x n)
 | .cM i n=>k3 hf (.cM i n)
 | .fg g i o=>k3 hf (.fg g i o)
 | .ek t a rs l=>k3 hf (.ek t a rs l)
 | .top=>k3 hf .top
theorem Lk{ops:Array Oper}{o:Oper}{S:aq}{e:Env}(hf:S.cq e):SD G N B ops o S e (guardOf N ops S o):=by
 unfold guardOf
 cases ah:o.guard with
 |none=>simp only[SD,dL,ah]
 |some Ja=>
  obtain⟨j,b⟩:=Ja;simp only
  cases hd:lY ops j with
  |none=>trivial
  |some d=>
   simp only
   cases ob:Nat.blt d N with
   |false=>trivial
   |true=>
    have bI:d<N:=e6 ob
    have ag:=JM (G:=G) hf (x:=S.at d)
    have hc:=SH (G:=G) (b:=b) hf ((S.at d).res S.g)
    rw[DR.eq_def]at hc
    have key: ∀q,qg b (((S.at d).res S.g).den G e)=some q→dL ops (S.den G N B e) o=some q:=fun q h=>by
     rw[ag]at h;simp only[dL,ah,hd,uh,if_pos bI];generalize (S.at d).den G e=v at h;unfold qg at h
     split at h
     ·rename_i c
      cases h
      cases b<;>cases c<;>rfl
     ·cases h;rfl
     ·cases h
    simp only;generalize uH S.g b ((S.at d).res S.g)=fH at hc
    cases fH with
    |yes=>exact key _ hc
    |no=>exact key _ hc
    |on gs=>exact⟨fun h=>key _ (hc.1 h),fun h=>key _ (hc.2 h)⟩
    |bad=>trivial
end
end Go.aK
namespace Go.aK
open Go
section
variable {P:Program} {G:a8} {N B:Nat} {M:List aR} {T:List (Nat × bF)} {inl:Nat→List ab→aq→aB}
theorem zW{S:aq}{g:ab}{b:Bool}(ad:S.cp)(ah:g.lt S.k=true):({S with g:=.dR g b::S.g}:aq).cp:=
 ⟨ad.l,ad.h,by
  show(b6.lt S.k (.dR g b)&&fh S.k S.g)=true;rw[ad.g,Bool.and_true]
  exact ah⟩
theorem zX{S:aq}{g:ab}{b:Bool}{e:Env}(hf:S.cq e)(ah:g.az e .bool=b):({S with g:=.dR g b::S.g}:aq).cq e:=fun c hc=>by
 rcases List.mem_cons.1 hc with rfl|hc
 ·exact ah
 ·exact hf c hc
theorem Ll{a b:Bool}(h: ¬a=b):a= !b:=by cases a<;>cases b<;>first|rfl|exact absurd rfl h
theorem SI{g:ab}{b:Bool}{x y:aB}{e:Env}(h:g.az e .bool=b):run M (DN g b x y) e=run M x e:=by
 cases b<;>exact sG h
theorem ze1{g:ab}{b:Bool}{x y:aB}{e:Env}(h:g.az e .bool= !b):run M (DN g b x y) e=run M y e:=by
 cases b<;>exact sG h
theorem ze2{g:ab}{b:Bool}{x y:aB}{e:Env}(ai:(DN g b x y).safe M e)(h:g.az e .bool=b):x.safe M e:=by
 cases b with
 |true=>exact ai.1 h
 |false=>exact ai.2 h
theorem xa{S:aq}: ∀{gs:List (ab × Bool)},S.cp→lz S.k gs=true→({S with g:=hp gs S.g}:aq).cp
 |[],ad,_=>ad
 |(g,b)::r,ad,h=>by
  simp only[lz,Bool.and_eq_true]at h;exact zW (S:={S with g:=hp r S.g}) (b:=b) (xa ad h.2) h.1
theorem xb{S:aq}{e:Env}: ∀{gs:List (ab × Bool)},S.cq e→fM e gs=true→({S with g:=hp gs S.g}:aq).cq e
 |[],hf,_=>hf
 |(g,b)::r,hf,h=>by
  simp only[fM,Bool.and_eq_true,beq_iff_eq]at h;exact zX (S:={S with g:=hp r S.g}) (b:=b) (xb hf h.2) h.1
theorem DS{k:Nat}{v:ab}: ∀{gs:List (ab × Bool)},lz k gs=true→v.lt k=true→(j6 gs v).lt k=true
 |[],_,h=>h
 |(g,b)::r,ah,h=>by
  simp only[lz,Bool.and_eq_true]at ah;simp only[j6,ab.lt,ah.1,DS ah.2 h,Bool.and_self]
theorem DT{k m:Nat}(h:k≤m): ∀{gs:List (ab × Bool)},lz k gs=true→lz m gs=true
 |[],_=>rfl
 |(g,b)::r,ah=>by
  simp only[lz,Bool.and_eq_true]at ah⊢;exact⟨gB h ah.1,DT h ah.2⟩
theorem DU{k:Nat}{e ay:Env}(h:bX k e ay): ∀{gs:List (ab × Bool)},lz k gs=true→fM ay gs=fM e gs
 |[],_=>rfl
 |(g,b)::r,ah=>by
  simp only[lz,Bool.and_eq_true]at ah;simp only[fM,eC h ah.1,DU h ah.2]
theorem DV{v:ab}{e:Env}: ∀{gs:List (ab × Bool)},fM e gs=true→(j6 gs v).den G e=v.den G e
 |[],_=>rfl
 |(g,b)::r,h=>by
  simp only[fM,Bool.and_eq_true,beq_iff_eq]at h;exact(w9 h.1).trans (DV h.2)
theorem DW{v:ab}{e:Env}: ∀{gs:List (ab × Bool)},fM e gs=false→(j6 gs v).den G e= .tuple []
 |[],h=>by cases h
 |(g,b)::r,h=>by
  by_cases ah:g.az e .bool=b
  ·simp only[fM,ah,beq_self_eq_true,Bool.true_and]at h
   exact(w9 ah).trans (DW h)
  ·exact SG (Ll ah)
theorem DX{n:fc}{e:Env}: ∀{gs:List (ab × Bool)},(qd gs n).ok M e→fM e gs=true→n.ok M e
 |[],h,_=>h
 |(g,b)::r,h,a6=>by
  simp only[fM,Bool.and_eq_true,beq_iff_eq]at a6;exact DX (gs:=r) (h a6.1) a6.2
theorem Lm{x:aB}{y:List b6→aB}{e:Env}: ∀{gs:List (ab × Bool)} {l:List b6},fM e gs=true→run M (sF y gs x l) e=run M x e∧((sF y gs x l).safe M e→x.safe M e)
 |[],_,_=>⟨rfl,fun h=>h⟩
 |(g,b)::r,l,h=>by
  simp only[fM,Bool.and_eq_true,beq_iff_eq]at h;obtain⟨aa,ae⟩:=Lm (x:=x) (y:=y) (l:=.dR g b::l) h.2;exact⟨(SI h.1).trans aa,fun ai=>ae (ze2 ai h.1)⟩
theorem Ln{x:aB}{y:List b6→aB}{e:Env}{k:Nat}: ∀{gs:List (ab × Bool)} {l:List b6},fM e gs=false→lz k gs=true→fh k l=true→(∀c∈l,c.ok e)→∃hU,run M (sF y gs x l) e=run M (y hU) e∧fh k hU=true∧∀c∈hU,c.ok e
 |[],_,h,_,_,_=>by cases h
 |(g,b)::r,l,h,ah,ar,hc=>by
  simp only[lz,Bool.and_eq_true]at ah
  have r8: ∀b,fh k (.dR g b::l)=true:=fun b=>by
   show(b6.lt k (.dR g b)&&fh k l)=true;rw[ar,Bool.and_true];exact ah.1
  by_cases fq:g.az e .bool=b
  ·simp only[fM,fq,beq_self_eq_true,Bool.true_and]at h
   obtain⟨hU,aa,ae,av⟩:=Ln (x:=x) (y:=y) (k:=k) (gs:=r) (l:=.dR g b::l) h ah.2 (r8 b) fun c hm=>by
    rcases List.mem_cons.1 hm with rfl|hm
    ·exact fq
    ·exact hc c hm
   exact⟨hU,(SI fq).trans aa,ae,av⟩
  ·refine⟨.dR g (!b)::l,ze1 (Ll fq),r8 _,fun c hm=>?_⟩
   rcases List.mem_cons.1 hm with rfl|hm
   ·exact Ll fq
   ·exact hc c hm
theorem SJ{S:aq}{dst:Option Nat}{l:List b6}{e:Env}(ad:S.cp)(ar:fh S.k l=true)(hc: ∀c∈l,c.ok e):
 ∃aS:aq,rm S dst l= .cG .cj aS∧aS.cp∧aS.cq e∧S.k≤aS.k∧aS.den G N B e=(S.den G N B e).put dst (.tuple []):=
 ⟨_,rfl,iU ⟨ad.l,ad.h,ar⟩ rfl,iV hc,by rw[iW];exact Nat.le_refl _,by rw[e9];rfl⟩
mutual
theorem SK(id t n:Nat)(es:List (List a1)): ∀a:aC,Sub (hE [(id,.row true t n es)] a) (dW id a):=fun a=>by
 cases a with
 |agg l=>exact(xc id t n es l).agg
 |tuple l=>exact(xc id t n es l).tuple
 |aM k=>
  by_cases h:k=id
  ·simp only[dW,h,if_true]
   exact Sub.top _
  ·simp only[dW,h,if_false,hE,aD,if_neg (fun e:id=k=>h e.symm)]
   exact Sub.refl _
 |fn f p q=>
  intro w ro σ β N c hc;simp only[hE]at hc
  cases hc with
  |fn _ _ _ c d aa ae av aQ=>
   have ak:=(xc id t n es p).at
   have aJ:=(xc id t n es q).at
   refine .fn f _ _ c d (by rw[aa,ak.1]) (by rw[ae,aJ.1]) (fun j y af=>?_) fun j y af=>?_
   ·obtain⟨x,hx,ai⟩:=ak.2 j y af
    exact ai _ _ _ _ _ _ (av j x hx)
   ·obtain⟨x,hx,ai⟩:=aJ.2 j y af
    exact ai _ _ _ _ _ _ (aQ j x hx)
 |au x=>exact Sub.refl _
 |top=>exact Sub.refl _
 |ptr k o=>simp only[dW,hE];split<;>first|exact Sub.top _|exact Sub.refl _
 |dx k o=>simp only[dW,hE];split<;>first|exact Sub.top _|exact Sub.refl _
 |cV k i o=>simp only[dW,hE];split<;>first|exact Sub.top _|exact Sub.refl _
 |ref k=>simp only[dW,hE];split<;>first|exact Sub.top _|exact Sub.refl _
theorem xc(id t n:Nat)(es:List (List a1)): ∀l:List aC,fU (kl [(id,.row true t n es)] l) (ed id l):=fun l=>by
 match l with
 |[]=>exact .nil
 |x::r=>exact .cons (SK id t n es x) (xc id t n es r)
end
theorem SL(σ:Heap): ∀l:List aC,kl σ l=l.map (hE σ)
 |[]=>rfl
 |x::r=>by simp only[kl,List.map_cons,SL σ r]
theorem ze3{e:Env}{id t:Nat}{c:bF}{k:Nat}: ∀y:ab,Sub (hE [(id,.row true t (bZ c) (List.map (b9 c) ((ab.aT (.li c) k).az e (.li c))))] (y.den G e)) ((ab.mH id (.aT (.li c) k) y).den G e):=fun y=>by
 unfold ab.mH
 split
 ·rename_i j
  split
  ·rename_i af
   obtain rfl:=Nat.eq_of_beq_eq_true af;simp only[ab.den,hE,aD,if_true];rw[show(ab.aT (.li c) k).az e (.li c)=(Env.at e k).aG (.li c)by simp only[ab.az,ab.fo,ab.dyn,cz]]
   exact lq.fk fun _ _ _ h=>.li _ _ _ h
  ·rename_i af
   have b7: ¬id=j:=fun h=>by rw[h,Nat.beq_refl]at af;cases af
   simp only[ab.den,hE,aD,if_neg b7];exact Sub.refl _
 ·rw[Dm]
  exact SK _ _ _ _ _
theorem ze4{S:aq}{e:Env}(id:Nat)(ad:S.cp)(hf:S.cq e):(w5 S id).cp∧(w5 S id).cq e∧(w5 S id).k=S.k∧cl (S.den G N B e) ((w5 S id).den G N B e):=by
 unfold w5
 split
 ·rename_i t c r k ah
  split
  ·rename_i ag
   cases hj ag
   have hx:(ab.aT (.li c) k).lt S.k=true:=uK (o:=.rw t c (.aT (.li c) k)) ad.h ah
   refine⟨⟨fun i y ax=>?_,nJ id ad.h,ad.g⟩,hf,rfl,?_⟩
   ·simp only[La,ba.get_map]at ax
    cases aJ:S.l.get i with
    |none=>rw[aJ]at ax;cases ax
    |some z=>
     rw[aJ]at ax;simp only[Option.map_some,Option.some.injEq]at ax;subst ax;show(ab.mH id _ z).lt S.k=true;unfold ab.mH
     split
     ·split
      ·exact hx
      ·rfl
     ·exact sH _ (ad.l i z aJ)
   ·have bb:aD (S.den G N B e).heap id=some (.row false t (bZ c) (List.map (b9 c) ((ab.aT (.li c) k).az e (.li c)))):=by
     simp only[aq.den,ef,ah,Option.map_some,bB.den]
    refine(cl.mH (S.den G N B e) id).trans ?_
    unfold Go.aK.mH;rw[bb];refine cl.of rfl (Nat.le_refl _) ?_ (fun i v aw=>?_) fun j o an=>?_
    ·simp only[aq.den,nn,CT]
    ·simp only[aq.den,nC]at aw
     split at aw
     rotate_left
     ·cases aw
     rename_i hi;simp only[La,ba.get_map,Option.some.injEq]at aw;subst aw
     refine⟨hE [(id,.row true t (bZ c) (List.map (b9 c) ((ab.aT (.li c) k).az e (.li c))))] (match S.l.get (0+i)with
      |some x=>x.den G e
      |none=>.top),by simp only[aq.den,SL,List.getElem?_map,nC,if_pos hi,Option.map_some]<;>rfl,?_⟩
     cases aJ:S.l.get (0+i)with
     |none=>exact Sub.top _
     |some z=>exact ze3 z
    ·have an:aD (cw G e (hl id S.h)) j=some o:=an
     rw[oW,pR]at an
     split at an
     ·cases an
     rename_i b7
     cases aJ:aD (cw G e S.h) j with
     |none=>rw[aJ]at an;cases an
     |some SM=>
      rw[aJ]at an;simp only[Option.map_some,Option.some.injEq]at an;subst an;refine⟨ko [(id,.row true t (bZ c) (List.map (b9 c) ((ab.aT (.li c) k).az e (.li c))))] SM,?_,?_⟩
      ·rw[pU,yz]
       rw[if_neg (fun h=>b7 h.symm)];show Option.map _ (aD (cw G e S.h) j)=_;rw[aJ];rfl
      ·cases SM with
       |box t cs=>exact .box t (xc _ _ _ _ cs)
       |row z t n es=>exact .same _
       |bK bM=>exact .same _
  ·exact⟨ad,hf,rfl,cl.refl _⟩
 ·exact⟨ad,hf,rfl,cl.refl _⟩
theorem Lo{e:Env}: ∀(aG:List ab) {S:aq},S.cp→S.cq e→(mf aG S).cp∧(mf aG S).cq e∧(mf aG S).k=S.k∧cl (S.den G N B e) ((mf aG S).den G N B e)
 |[],S,ad,hf=>⟨ad,hf,rfl,cl.refl _⟩
 |a::r,S,ad,hf=>by
  unfold mf
  split
  ·rename_i h;cases h
  ·rename_i id eP h
   cases h;obtain⟨aa,ae,av,aQ⟩:=ze4 (G:=G) (N:=N) (B:=B) id ad hf;obtain⟨g1,g2,g3,g4⟩:=Lo r aa ae;exact⟨g1,g2,g3.trans av,aQ.trans g4⟩
  ·rename_i h
   cases h;exact Lo r ad hf
theorem ze5{ops:Array Oper}{o:Oper}{S:aq}{aG:List ab}{e:Env}(ak:preB P N S o=some aG)(ad:S.cp)(hf:S.cq e):
 (mf aG S).cp∧(mf aG S).cq e∧(mf aG S).k=S.k∧cl (S.den G N B e) ((mf aG S).den G N B e)∧dL ops ((mf aG S).den G N B e) o=some true:=by
 have hn:o.guard=none:=by
  unfold preB at ak
  split at ak
  ·split at ak
   ·cases ak
   ·assumption
  ·cases ak
 obtain⟨aa,ae,av,aQ⟩:=Lo (G:=G) (N:=N) (B:=B) aG ad hf
 exact⟨aa,ae,av,aQ,by unfold dL;rw[hn]⟩
theorem tr(bW:fP P G M inl){ops:Array Oper}: ∀(l:List Oper) {S:aq} {e:Env} {Q:Exit→aO→Prop},S.cp→S.cq e→(hA P N B T inl ops l S).safe M e→(∀ex st,js G N B M (hA P N B T inl ops l S) e S.k ex st→Q ex st)→cu P G ops Q l (S.den G N B e)
 |[],S,e,Q,ad,hf,_,eo=>cu.nil (eo _ _ ⟨.cj,S,e,rfl,trivial,cl.refl _,ad,hf,bX.refl _ _,Nat.le_refl _⟩)
 |o::r,S,e,Q,ad,hf,ai,eo=>by
  have ah:=Lk (G:=G) (N:=N) (B:=B) (ops:=ops) (o:=o) hf
  have eW:=ai
  unfold hA at eW
  cases iN:guardOf N ops S o with
  |yes=>
   rw[iN]at ah eW;simp only at eW
   cases ak:preB P N S o with
   |some aG=>
    rw[ak]at eW
    have fL:hA P N B T inl ops (o::r) S=exec P N B T inl o (mf aG S) (hA P N B T inl ops r):=by rw[hA,iN];simp only[ak]
    obtain⟨f1,f2,f3,f4,f5⟩:=ze5 (G:=G) (B:=B) (ops:=ops) ak ad hf;refine cu.le f4 (Lg bW f1 f2 f5 eW fun df ay aa ae av aQ bL cT=>tr bW r aa ae bL fun ex st ak=>eo ex st (ak.sub ?_ (f3 ▸ av) (f3 ▸ aQ)))
    rw[fL,cT]
   |none=>
    rw[ak]at eW
    have fL:hA P N B T inl ops (o::r) S=exec P N B T inl o S (hA P N B T inl ops r):=by rw[hA,iN];simp only[ak]
    refine Lg bW ad hf ah eW fun df ay aa ae av aQ bL cT=>tr bW r aa ae bL fun ex st ak=>eo ex st (ak.sub ?_ av aQ)
    rw[fL,cT]
  |no=>
   rw[iN]at ah eW
   have fL:hA P N B T inl ops (o::r) S=hA P N B T inl ops r (S.put o.dst (.tp [])):=by rw[hA,iN]
   refine cu.pass ah ?_
   have hd:(S.den G N B e).put o.dst (.tuple [])=(S.put o.dst (.tp [])).den G N B e:=by rw[e9];rfl
   rw[hd];refine tr bW r (iU ad rfl) (iV hf) eW fun ex st ak=>eo ex st (ak.sub (by rw[fL]) (bX.refl _ _) (by rw[iW];exact Nat.le_refl _))
  |on gs=>
   rw[iN]at ah eW;simp only at eW;obtain⟨g1,g2⟩:=ah
   split at eW
   ·rename_i kt
    split at eW
    ·rename_i q aw
     split at eW
     ·rename_i hc
      have fL:hA P N B T inl ops (o::r) S=emit S.k q.xs (q.ns.map (qd gs)) (hA P N B T inl ops r ((S.e0 S.k q.xs).put o.dst (j6 gs q.v))):=by rw[hA,iN];simp only[kt,aw,hc]
      simp only[Bool.and_eq_true]at hc;obtain⟨gL,gu⟩:=me eW;obtain⟨cb,a2,a3⟩:=rn (M:=M) (G:=G) (N:=N) (B:=B) ad hf hc.1
      have bS:bX S.k e (dh M e S.k q.xs):=jJ (Nat.le_refl _)
      have h0:fM (dh M e S.k q.xs) gs=fM e gs:=DU bS kt
      have aj:S.k≤S.k+q.xs.length:=Nat.le_add_right _ _
      have fB:(j6 gs q.v).lt (S.k+q.xs.length)=true:=DS (DT aj kt) hc.2
      have Lp:((S.e0 S.k q.xs).put o.dst (j6 gs q.v)).cp:=iU cb fB
      have zY:=tr bW (ops:=ops) r (Q:=Q) Lp (iV a2) gu fun ex st ak=>eo ex st (ak.sub (by rw[fL,ly]) bS (by rw[iW];exact aj))
      rw[e9,a3]at zY
      cases fq:fM e gs with
      |true=>
       have hX:=xb hf fq
       have h6:=xa ad kt
       have dB:=uv (G:=G) (B:=B) (M:=M) aw (dh M e S.k q.xs) (h8 bS h6.g hX) (jq hc.1) fun n hn=>DX (gL (qd gs n) (List.mem_map.2 ⟨n,hn,rfl⟩)) (h0.trans fq)
       have xd:({S with g:=hp gs S.g}:aq).den G N B (dh M e S.k q.xs)=S.den G N B e:=k1 (S:={S with g:=hp gs S.g}) bS h6
       rw[xd]at dB;refine cu.step (g1 fq) dB.step ?_
       rw[DV (h0.trans fq)]at zY;exact zY
      |false=>
       refine cu.pass (g2 fq) ?_
       rw[DW (h0.trans fq)]at zY;exact zY
     ·exact eW.elim
    ·rename_i aw
     have fL:hA P N B T inl ops (o::r) S=qb N S o.dst gs (sF (rm S o.dst) gs (exec P N B T inl o {S with g:=hp gs S.g} (.cG .cj)) S.g) (hA P N B T inl ops r):=by rw[hA,iN];simp only[aw,kt]
     obtain⟨t1,_,t3⟩:=K2 (G:=G) (B:=B) ad hf eW
     have fin: ∀(aS:aq) (aA:Env),run M (sF (rm S o.dst) gs (exec P N B T inl o {S with g:=hp gs S.g} (.cG .cj)) S.g) e=some (.cj,aS,aA)→aS.cp→aS.cq aA→bX S.k e aA→S.k≤aS.k→cu P G ops Q r (aS.den G N B aA):=fun aS aA ag aa ae av aQ=>by
      obtain⟨dM,bh,s1,s2,o1,o2,o3,o4,o5⟩:=t3 aS aA ag aa ae av aQ;exact cu.le s1 (tr bW r s2 o1 o4 fun ex st ak=>eo ex st (ak.sub (by rw[fL,o5]) o2 o3))
     cases fq:fM e gs with
     |false=>
      refine cu.pass (g2 fq) ?_
      obtain⟨hU,c1,di,gQ⟩:=Ln (M:=M) (x:=exec P N B T inl o {S with g:=hp gs S.g} (.cG .cj)) (y:=rm S o.dst) (l:=S.g) fq kt ad.g hf
      obtain⟨aS,ri,o6,Lq,Lr,Ls⟩:=SJ (G:=G) (N:=N) (B:=B) (dst:=o.dst) ad di gQ;rw[←Ls];exact fin aS e (by rw[c1,ri];rfl) o6 Lq (bX.refl _ _) Lr
     |true=>
      have hX:=xb hf fq
      have h6:=xa ad kt
      obtain⟨f1,f2⟩:=Lm (M:=M) (x:=exec P N B T inl o {S with g:=hp gs S.g} (.cG .cj)) (y:=rm S o.dst) (l:=S.g) fq
      refine Lg bW (S:={S with g:=hp gs S.g}) h6 hX (g1 fq) (f2 t1) fun df ay aa ae av aQ _ cT=>fin df ay ?_ aa ae av aQ
      exact f1.trans cT
   ·exact eW.elim
  |bad=>rw[iN]at eW;exact eW.elim
end
end Go.aK
namespace Go.aK
open Go
def zZ(i:Nat)(y:ab):List b6→Bool
 |[]=>false
 | .rg j b::r=>(Nat.beq j i&&eF b y)||zZ i y r
 |_::r=>zZ i y r
def xe(j:Nat)(all:List b6):List b6→Option Bool
 |[]=>none
 | .d2 i (.oK .lss .i64) x y::r=>match Nat.beq i j with
  |true=>match eF x y with
   |true=>some false
   |false=>match x with
    | .aT (.int .i64) m=>match zZ m y all&&(match y.rt with|some (.int .i64)=>true|_=>false)with
     |true=>some true
     |false=>none
    |_=>none
  |false=>xe j all r
 |_::r=>xe j all r
def Lt(g:ab)(l:List b6):Option Bool:=
 match k0 g l with
 |some b=>some b
 |none=>match g with
  | .aT .bool j=>xe j l l
  |_=>none
def z1(i:Nat):List b6→Option ab
 |[]=>none
 | .d1 j .mN x::r=>match Nat.beq j i with
  |true=>match x.rt with
   |some .bool=>some x
   |_=>none
  |false=>z1 i r
 |_::r=>z1 i r
def aq.dR(S:aq)(v:ab)(b:Bool):aq:=
 match v with
 | .aT .bool i=>match z1 i S.g with
  |some x=>{S with g:=.dR x (!b):: .dR (.aT .bool i) b::S.g}
  |none=>{S with g:=.dR (.aT .bool i) b::S.g}
 |v=>{S with g:=.dR v b::S.g}
def Lu(N:Nat)(S:aq)(x:Operand)(f g:aq→aB):aB:=
 match S.aY N x with
 | .cs (.bool true)=>f S
 | .cs (.bool false)=>g S
 |v=>match v.rt with
  |some .bool=>match Lt v S.g with
   |some true=>f S
   |some false=>g S
   |none=>.it v (f (S.dR v true)) (g (S.dR v false))
  |_=>.bad 38
def comp(P:Program)(N B:Nat)(T:List (Nat × bF))(inl:Nat→List ab→aq→aB)(L:(aq→aB)→Nat→aq→aB)(D:Array Oper→aq→aB):Code→Nat→aq→aB
 | .skip,_,S=>.cG .cj S
 | .ret,_,S=>.cG .ret S
 | .exit id,_,S=>.cG (.ext id) S
 | .region _ ops draw,_,S=>match draw with
  |true=>D ops S
  |false=>hA P N B T inl ops ops.toList S
 | .cond x a b,cur,S=>Lu N S x (comp P N B T inl L D a cur) (comp P N B T inl L D b cur)
 | .block id c,_,S=>(comp P N B T inl L D c id S).rel (oM id)
 | .seq a b,cur,S=>iA N S (comp P N B T inl L D a cur S) (comp P N B T inl L D b cur)
 | .loop c,cur,S=>L (comp P N B T inl L D c cur) cur S
 |_,_,_=>.bad 6
section
variable {P:Program} {G:a8} {N B:Nat} {M:List aR} {T:List (Nat × bF)} {inl:Nat→List ab→aq→aB} {L:(aq→aB)→Nat→aq→aB} {D:Array Oper→aq→aB}
theorem z6{i:Nat}{y:ab}{e:Env}: ∀{l:List b6},zZ i y l=true→(∀c∈l,c.ok e)→0≤ck (Env.at e i)∧ck (Env.at e i)<ck (y.dyn e)
 | .rg j b::r,h,hc=>by
  simp only[zZ,Bool.or_eq_true,Bool.and_eq_true]at h
  rcases h with⟨aa,ae⟩|h
  ·rw[←Nat.eq_of_beq_eq_true aa,←eZ ae]
   exact hc (.rg j b) (by simp)
  ·exact z6 h fun c hm=>hc c (by simp[hm])
 | .d1 _ _ _::r,h,hc=>z6 (l:=r) h fun c hm=>hc c (by simp[hm])
 | .d2 _ _ _ _::r,h,hc=>z6 (l:=r) h fun c hm=>hc c (by simp[hm])
 | .dR _ _::r,h,hc=>z6 (l:=r) h fun c hm=>hc c (by simp[hm])
theorem ze6(d:aF):(d.aG (.int .i64):Int)=ck d∨(d.aG (.int .i64):Int)=0:=by
 obtain⟨r,v⟩:=d
 by_cases h:r= .int .i64
 ·subst h
  exact .inl (cz _ _)
 ·refine .inr ?_
  unfold aF.aG
  split
  ·rename_i h' _;exact absurd h' h
  ·rfl
theorem z7{j:Nat}{e:Env}{b:Bool}{all:List b6}(a6: ∀c∈all,c.ok e): ∀{l:List b6},xe j all l=some b→(∀c∈l,c.ok e)→(ab.aT .bool j).az e .bool=b
 | .d2 i f x y::r,h,hc=>by
  have aP:=hc (.d2 i f x y) (by simp)
  have ag: ∀{b},xe j all r=some b→(ab.aT .bool j).az e .bool=b:=fun h=>z7 a6 h fun c hm=>hc c (by simp[hm])
  unfold xe at h
  split at h
  ·cases h
  ·rename_i yR iB se eP heq
   cases heq
   split at h
   ·rename_i qR
    have qR:=Nat.eq_of_beq_eq_true qR
    subst qR;simp only[b6.ok]at aP
    have aw:(ab.aT .bool i).az e .bool=zk .lss (x.az e (.int .i64)) (y.az e (.int .i64)):=by
     simp only[ab.az,ab.fo,ab.dyn,cz,aP];rfl
    rw[aw]
    split at h
    ·rename_i he
     cases h;rw[eZ he];exact decide_eq_false (Int.lt_irrefl _)
    ·split at h
     ·rename_i m _
      split at h
      ·rename_i aj
       cases h;simp only[Bool.and_eq_true]at aj
       have aa:=z6 aj.1 a6
       have ax:y.rt=some (.int .i64):=by
        have:=aj.2
        split at this
        ·assumption
        ·cases this
       rw[lv ax]at aa
       have hx:(ab.aT (.int .i64) m).az e (.int .i64)=(Env.at e m).aG (.int .i64):=by simp only[ab.az,ab.fo,ab.dyn,cz]
       rw[hx];refine decide_eq_true ?_
       have ae:=aa.2
       rcases ze6 (Env.at e m)with q|q
       ·rw[q];exact ae
       ·rw[q];exact Int.lt_of_le_of_lt aa.1 ae
      ·cases h
     ·cases h
   ·exact ag h
  ·rename_i heq
   cases heq;exact ag h
 | .d1 _ _ _::r,h,hc=>z7 a6 (l:=r) h fun c hm=>hc c (by simp[hm])
 | .rg _ _::r,h,hc=>z7 a6 (l:=r) h fun c hm=>hc c (by simp[hm])
 | .dR _ _::r,h,hc=>z7 a6 (l:=r) h fun c hm=>hc c (by simp[hm])
theorem SN{e:Env}{g:ab}{b:Bool}{l:List b6}(h:Lt g l=some b)(hc: ∀c∈l,c.ok e):g.az e .bool=b:=by
 unfold Lt at h
 split at h
 ·rename_i aj;cases h;exact p5 aj hc
 ·split at h
  ·exact z7 hc h hc
  ·cases h
def iT(P:Program)(G:a8)(N B:Nat)(M:List aR)(c:Code)(f:aq→aB):Prop:=
 ∀(S:aq) (e:Env),S.cp→S.cq e→(f S).safe M e→b2 P G c (js G N B M (f S) e S.k) (S.den G N B e)
theorem Lv{i:Nat}{x:ab}{e:Env}{k:Nat}: ∀{l:List b6},z1 i l=some x→(∀c∈l,c.ok e)→fh k l=true→(ab.aT .bool i).az e .bool= !(x.az e .bool)∧x.lt k=true
 |[],h,_,_=>by cases h
 |c::r,h,hc,ar=>by
  have yC: ∀c∈r,c.ok e:=fun c hm=>hc c (List.mem_cons_of_mem _ hm)
  have r8:c.lt k=true∧fh k r=true:=by simpa only[fh,Bool.and_eq_true]using ar
  unfold z1 at h
  split at h
  ·rename_i heq;cases heq
  ·rename_i j y eP heq
   cases heq
   split at h
   ·rename_i af
    have af:=Nat.eq_of_beq_eq_true af
    subst af
    split at h
    ·cases h
     have aP:Env.at e j=⟨gD.mN.c,gD.mN.den (x.az e gD.mN.a)⟩:=hc _ (List.mem_cons_self ..)
     have aa:=r8.1
     simp only[b6.lt,Bool.and_eq_true]at aa;refine⟨?_,aa.2⟩
     simp only[ab.az,ab.fo,ab.dyn,aP,cz];rfl
    ·cases h
   ·exact Lv h yC r8.2
  ·rename_i heq
   cases heq;exact Lv h yC r8.2
theorem SO{S:aq}{v:ab}{b:Bool}{e:Env}(ad:S.cp)(hf:S.cq e)(ar:v.lt S.k=true)(aw:v.az e .bool=b):(S.dR v b).cp∧(S.dR v b).cq e∧(S.dR v b).k=S.k∧(S.dR v b).den G N B e=S.den G N B e:=by
 unfold aq.dR
 split
 ·rename_i i
  split
  ·rename_i x hx
   obtain⟨aa,ae⟩:=Lv hx hf ad.g;rw[aw]at aa
   have av:x.az e .bool= !b:=by rw[aa];cases x.az e .bool<;>rfl
   have cb:=zW (b:=b) ad ar
   have a2:=zX hf aw
   exact⟨zW (S:={S with g:=.dR (.aT .bool i) b::S.g}) (b:=!b) cb ae,zX (S:={S with g:=.dR (.aT .bool i) b::S.g}) a2 av,rfl,rfl⟩
  ·exact⟨zW ad ar,zX hf aw,rfl,rfl⟩
 ·exact⟨zW ad ar,zX hf aw,rfl,rfl⟩
theorem ze7{x:Operand}{a b:Code}{f g:aq→aB}(hf:iT P G N B M a f)(ah:iT P G N B M b g):iT P G N B M (.cond x a b) (fun S=>Lu N S x f g):=by
 intro S e ad e7 ai
 have hx:=bC (G:=G) (N:=N) (B:=B) e7 x
 have bI:=CU (N:=N) ad x
 simp only at ai⊢
 unfold Lu at ai⊢
 generalize S.aY N x=v at ai hx bI⊢
 split at ai
 ·exact b2.P5 hx (hf S e ad e7 ai)
 ·exact b2.P6 hx (ah S e ad e7 ai)
 ·rename_i aa ae
  split at ai
  ·rename_i ag
   have hd:=fX (G:=G) (e:=e) ag
   rw[←hx]at hd
   have hd:=hd.trans (show _=aC.au (.v (.bool _))from rfl)
   split at ai
   ·rename_i aj
    rw[SN aj e7]at hd;exact b2.P5 hd (hf S e ad e7 ai)
   ·rename_i aj
    rw[SN aj e7]at hd;exact b2.P6 hd (ah S e ad e7 ai)
   ·refine b2.cond hd (fun aH=>?_) (fun aH=>?_)
    ·obtain⟨c1,di,gQ,o7⟩:=SO (G:=G) (N:=N) (B:=B) ad e7 bI aH
     have:=hf _ e c1 di (ai.1 aH)
     rw[o7]at this;refine b2.mono this fun ex st ak=>ak.sub ?_ (bX.refl _ _) (Nat.le_of_eq gQ.symm)
     rw[sG aH]
    ·obtain⟨c1,di,gQ,o7⟩:=SO (G:=G) (N:=N) (B:=B) ad e7 bI aH
     have:=ah _ e c1 di (ai.2 aH)
     rw[o7]at this;refine b2.mono this fun ex st ak=>ak.sub ?_ (bX.refl _ _) (Nat.le_of_eq gQ.symm)
     rw[sG aH]
  ·exact ai.elim
theorem ze8{id:Nat}{c:Code}{f:aq→aB}(hf:iT P G N B M c f):iT P G N B M (.block id c) (fun S=>(f S).rel (oM id)):=by
 intro S e ad e7 ai
 have an:=zdb (f S) id
 refine b2.block (b2.mono (hf S e ad e7 ((kL an).1 ai)) fun ex st ak=>?_)
 obtain⟨x,df,ay,aa,ae,av,aQ,bL,cT,fr⟩:=ak
 have ag:run M ((f S).rel (oM id)) e=some (oM id x,df,ay):=by rw[vC an,aa];rfl
 cases x with
 |cj=>cases ex<;>first|exact⟨_,df,ay,ag,trivial,av,aQ,bL,cT,fr⟩|exact ae.elim
 |ret=>cases ex<;>first|exact⟨_,df,ay,ag,trivial,av,aQ,bL,cT,fr⟩|exact ae.elim
 |kZ n=>exact(by cases ex<;>exact ae.elim)
 |ext n=>
  cases ex with
  |exit m=>
   have ae:n=m:=ae
   subst ae;show(bif Nat.beq n id then _ else _)
   cases ad:Nat.beq n id with
   |true=>exact⟨.cj,df,ay,by rw[ag];simp only[oM,ad],trivial,av,aQ,bL,cT,fr⟩
   |false=>exact⟨.ext n,df,ay,by rw[ag];simp only[oM,ad],rfl,av,aQ,bL,cT,fr⟩
  |_=>exact ae.elim
theorem yl{a b:Code}{f g:aq→aB}(hf:iT P G N B M a f)(ah:iT P G N B M b g):iT P G N B M (.seq a b) (fun S=>iA N S (f S) g):=by
 intro S e ad e7 ai
 obtain⟨t1,t2,t3⟩:=DF (G:=G) (B:=B) ad e7 ai
 refine b2.seq (b2.mono (hf S e ad e7 t1) fun ex st ak=>?_)
 obtain⟨x,df,ay,aa,ae,av,aQ,bL,cT,fr⟩:=ak
 have other:x≠ .cj→ex≠ .normal→js G N B M (iA N S (f S) g) e S.k ex st:=fun b7 _=>⟨x,df,ay,t2 x df ay aa b7 (Sv ae),ae,av,aQ,bL,cT,fr⟩
 cases x with
 |cj=>
  cases ex with
  |normal=>
   obtain⟨dM,bh,s1,s2,o1,o2,o3,o4,o5⟩:=t3 df ay aa aQ bL cT fr;exact b2.le av (b2.le s1 (b2.mono (ah dM bh s2 o1 o4) fun ex st ak=>ak.sub o5 o2 o3))
  |_=>exact ae.elim
 |ret=>cases ex<;>first|exact other (by simp) (by simp)|exact ae.elim
 |ext n=>cases ex<;>first|exact other (by simp) (by simp)|exact ae.elim
 |kZ n=>cases ex<;>exact ae.elim
theorem Lx{c:Code}{x:b0}{ex:Exit}(h:zS x ex)(k: ∀{Q:Exit→aO→Prop} {s:aO},Q ex s→b2 P G c Q s):iT P G N B M c (fun S=>.cG x S):=
 fun S e ad hf _=>k ⟨x,S,e,rfl,h,cl.refl _,ad,hf,bX.refl _ _,Nat.le_refl _⟩
def Ly(P:Program)(G:a8)(N B:Nat)(M:List aR)(L:(aq→aB)→Nat→aq→aB):Prop:=∀c f id,iT P G N B M c f→iT P G N B M (.loop c) (L f id)
def LA(P:Program)(G:a8)(N B:Nat)(M:List aR)(D:Array Oper→aq→aB):Prop:=∀id ops,iT P G N B M (.region id ops true) (D ops)
theorem oa(bW:fP P G M inl)(fJ:Ly P G N B M L)(kf:LA P G N B M D): ∀(c:Code) (cur:Nat),iT P G N B M c (comp P N B T inl L D c cur)
 | .skip,_=>Lx (ex:=.normal) trivial b2.skip
 | .ret,_=>Lx (ex:=.ret) trivial b2.ret
 | .exit id,_=>Lx (ex:=.exit id) rfl b2.exit
 | .region id ops draw,_=>by
  cases draw with
  |true=>exact kf id ops
  |false=>
   intro S e ad hf ai
   have iQ:ops=ops.toList.toArray:=by simp
   rw[iQ];refine b2.region ?_
   rw[←iQ];exact tr bW ops.toList ad hf ai fun _ _ h=>h
 | .cond x a b,cur=>ze7 (oa bW fJ kf a cur) (oa bW fJ kf b cur)
 | .block id c,_=>ze8 (oa bW fJ kf c id)
 | .seq a b,cur=>yl (oa bW fJ kf a cur) (oa bW fJ kf b cur)
 | .loop c,cur=>fJ c _ cur (oa bW fJ kf c cur)
 | .rangeFunc _ _ _ _,_=>fun _ _ _ _ h=>h.elim
 | .scope _,_=>fun _ _ _ _ h=>h.elim
 | .label _,_=>fun _ _ _ _ h=>h.elim
 | .goto _,_=>fun _ _ _ _ h=>h.elim
 | .refuse _,_=>fun _ _ _ _ h=>h.elim
end
end Go.aK
namespace Go.aK
open Go
def z8:Nat→List ab→List (Nat × ab)
 |_,[]=>[]
 |i,x::r=>(i,x)::z8 (i+1) r
def xf(P:Program)(N:Nat)(S:aq):List ResultVar→Option (List ab)
 |[]=>some []
 | .tmp t::r=>match xf P N S r with
  |some l=>some (S.aY N (.tmp t)::l)
  |none=>none
 | .cell p t::r=>match xf P N S r,uj S (S.aY N (.tmp p))with
  |some l,some cs=>match pG P t cs with
   |some v=>some (v::l)
   |none=>none
  |_,_=>none
def LB(P:Program)(fn:Func)(N:Nat)(S:aq):Option ab:=
 match xf P N S fn.results.toList with
 |some [x]=>some x
 |some l=>some (.tp l)
 |none=>none
def rZ:b0→b0
 | .ret=>.cj
 |x=>x
def ze9:b0→Bool
 | .cj=>true
 | .ret=>true
 |_=>false
def tu(P:Program)(fn:Func)(N:Nat)(S:aq):aB:=
 match LB P fn N S with
 |some v=>match v.lt S.k with
  |true=>.cG .cj {S with l:=ba.put .emp 0 v}
  |false=>.bad 44
 |none=>.bad 43
structure jx where
 L:Nat→Nat→(Nat→List ab→aq→aB)→(aq→aB)→Nat→aq→aB
 D:Nat→Nat→(Nat→List ab→aq→aB)→Array Oper→aq→aB
def pH(aG:List ab)(S:aq):aq:={S with l:=fi (z8 0 aG)}
def LC(P:Program)(H:jx)(T:List (Nat × bF))(inl:Nat→List ab→aq→aB)(c:Code)(N:Nat)(aG:List ab)(S:aq):aB:=
 comp P N S.n T inl (H.L N S.n inl) (H.D N S.n inl) c 0 (pH aG S)
def xg(n:Nat)(m:Nat):Nat:=
 match n with
 |0=>m
 |k+1=>k+1
def aB.mW:aB→Nat
 | .cG _ _=>0
 | .lt _ _ t=>t.mW
 | .eD _ t=>t.mW
 | .it _ a b=>xg a.mW b.mW
 | .dz _ a _ k=>xg a.mW k.mW
 | .ei _ _ _ _ _ a k=>xg a.mW k.mW
 | .eY _ _ _ a k=>xg a.mW k.mW
 | .bad n=>n
def zfa(f n:Nat):Nat:=
 match Nat.ble 1000 n with
 |true=>n
 |false=>f*1000+n
def BD(P:Program)(f:Nat)(fn:Func)(N:Nat)(t:aB):aB:=
 match t.fp ze9 with
 |true=>(t.rel rZ).eG (tu P fn N) none
 |false=>.bad (zfa f t.mW)
def LD(P:Program)(H:jx)(T:List (Nat × bF))(inl:Nat→List ab→aq→aB)(f:Nat)(aG:List ab)(S:aq):aB:=
 match P.funcs[f]? with
 |some fn=>match fn.body with
  |some c=>BD P f fn (aG.length+(fn.ntmps-aG.length)) (LC P H T inl c (aG.length+(fn.ntmps-aG.length)) aG S)
  |none=>.bad 41
 |none=>.bad 42
section
variable {P:Program} {G:a8} {N B:Nat} {M:List aR} {T:List (Nat × bF)} {inl:Nat→List ab→aq→aB} {H:jx}
def LF(P:Program)(G:a8)(M:List aR)(H:jx):Prop:=∀(inl:Nat→List ab→aq→aB),fP P G M inl→∀N B,Ly P G N B M (H.L N B inl)∧LA P G N B M (H.D N B inl)
theorem SP{t:TypeId}{l:List ab}{v:ab}{e:Env}(h:pG P t l=some v):
 (∃n,lV P t=some n∧n≤l.length∧0<n∧v.den G e= .agg ((ab.bO G e l).take n))∨(lV P t=none∧scalar P t=true∧∃r,l=v::r):=by
 unfold pG at h
 split at h
 ·rename_i n hn
  split at h
  ·rename_i ad
   simp only[Bool.and_eq_true]at ad;cases h;refine .inl ⟨n,hn,Nat.le_of_ble_eq_true ad.1,Nat.le_of_ble_eq_true ad.2,?_⟩
   simp only[ab.den,e5,List.map_take]
  ·cases h
 ·rename_i hn
  split at h
  ·rename_i ai
   cases h;exact .inr ⟨hn,ai,_,rfl⟩
  ·cases h
theorem DY{S:aq}{e:Env}(hf:S.cq e): ∀{l:List ResultVar} {vs:List ab},xf P N S l=some vs→mC P (S.den G N B e) l=some (ab.bO G e vs)
 |[],vs,h=>by cases h;rfl
 | .tmp t::r,vs,h=>by
  simp only[xf]at h
  split at h
  ·rename_i l ar
   cases h
   have:=bC (G:=G) (N:=N) (B:=B) hf (.tmp t)
   simp only[mC,DY hf ar,ab.bO,←this];rfl
  ·cases h
 | .cell p t::r,vs,h=>by
  simp only[xf]at h
  split at h
  ·rename_i l cs ar hc
   split at h
   ·rename_i v aw
    cases h
    have aa:=bC (G:=G) (N:=N) (B:=B) hf (.tmp p)
    have ae:=zw (G:=G) (N:=N) (B:=B) (e:=e) hc
    rw[←aa]at ae
    have ae:fl (S.den G N B e).heap ((S.den G N B e).cO.getD p .top)=some (ab.bO G e cs):=ae
    simp only[mC,DY hf ar,ae,ab.bO]
    rcases SP (G:=G) (e:=e) aw with⟨n,g1,g2,g3,g4⟩|⟨g1,g2,eP,g3⟩
    ·simp only[g1,g4]
     rw[if_pos ⟨by rw[lR];exact g2,g3⟩]
    ·subst g3
     simp only[g1,g2,if_true,ab.bO]
   ·cases h
  ·cases h
theorem OG{fn:Func}{S:aq}{e:Env}{v:ab}(hf:S.cq e)(h:LB P fn N S=some v):yM P fn (S.den G N B e)=some (v.den G e):=by
 unfold LB at h
 unfold yM
 split at h
 ·rename_i x hx
  cases h;rw[DY hf hx];rfl
 ·rename_i l b7 ar
  cases h;rw[DY hf ar]
  match l with
  |[]=>rfl
  |[x]=>exact absurd rfl (b7 x)
  |x::y::l=>rfl
 ·cases h
theorem BE(t:aB):t.iq rZ:=mQ (t.lvl+1) (Nat.lt_succ_self _) (fun n _ x h=>by cases x<;>first|rfl|exact h) (fun n x h=>by cases x<;>first|rfl|exact h)
theorem LG: ∀{l:List ab} {i j:Nat},(fi (z8 i l)).get j=if j<i then none else l[j-i]?
 |[],i,j=>by simp only[z8,fi];split<;>simp[ba.get]
 |x::r,i,j=>by
  simp only[z8,fi,ba.hR,LG (l:=r)]
  by_cases h:i=j
  ·subst h;simp
  ·rw[if_neg h]
   by_cases ae:j<i
   ·rw[if_pos ae,if_pos (by omega)]
   ·rw[if_neg ae,if_neg (by omega),show j-i=(j-(i+1))+1 by omega,List.getElem?_cons_succ]
theorem OD{aG:List ab}{S:aq}{e:Env}{k:Nat}:(pH aG S).den G (aG.length+k) S.n e=⟨ab.bO G e aG++List.replicate k .top,cw G e S.h,S.n,S.n⟩:=by
 simp only[aq.den,pH,aO.mk.injEq,and_true,true_and]
 apply List.ext_getElem?
 intro j
 rw[nC,Nat.zero_add,LG,if_neg (Nat.not_lt_zero _),Nat.sub_zero,e5,List.getElem?_append,List.getElem?_replicate,List.length_map]
 by_cases h:j<aG.length
 ·rw[if_pos (by omega),if_pos h,List.getElem?_map,List.getElem?_eq_getElem h]
  rfl
 ·rw[if_neg h]
  by_cases ae:j<aG.length+k
  ·rw[if_pos ae,if_pos (by omega),List.getElem?_eq_none (by omega)]
  ·rw[if_neg ae,if_neg (by omega)]
theorem OC{aG:List ab}{S:aq}(ad:S.cp)(ar:ab.cI S.k aG=true):(pH aG S).cp:=by
 refine⟨fun i x hx=>?_,ad.h,ad.g⟩
 simp only[pH,LG,Nat.not_lt_zero,if_false,Nat.sub_zero]at hx
 have hm:=List.mem_of_getElem? hx
 clear hx
 induction aG with
 |nil=>cases hm
 |cons y r aZ=>
  simp only[ab.cI,Bool.and_eq_true]at ar
  rcases List.mem_cons.1 hm with rfl|hm
  ·exact ar.1
  ·exact aZ ar.2 hm
theorem b2.OF{c:Code}{Q:Exit→aO→Prop}{s:aO}(h:b2 P G c (fun e st=>∃DZ,cl st DZ∧Q e DZ) s):b2 P G c Q s:=fun E a w ag=>
 wp_mono (h E a w ag) fun _ bc w' ⟨st,⟨DZ,ar,aJ⟩,ae⟩=>⟨DZ,aJ,ar E G bc w' ae⟩
theorem zfb(kK:LF P G M H)(bW:fP P G M inl):fP P G M (LD P H T inl):=by
 intro f aG S e ad ar hf ai
 unfold LD at ai⊢
 split at ai
 ·rename_i fn lQ
  split at ai
  ·rename_i c hc
   generalize ob:aG.length+(fn.ntmps-aG.length)=N at ai;generalize aH:LC P H T inl c N aG S=t at ai;unfold BD at ai⊢
   split at ai
   ·rename_i ym
    obtain⟨g1,g2,g3⟩:=iX (t.rel rZ) none ai
    have tt:t.safe M e:=(kL (BE t)).1 g1
    have yn:=oa (T:=T) (B:=S.n) (N:=N) bW (kK inl bW N S.n).1 (kK inl bW N S.n).2 c 0 (pH aG S) e (OC ad ar) hf (by
     unfold LC at aH;rw[aH];exact tt)
    have cD:comp P N S.n T inl (H.L N S.n inl) (H.D N S.n inl) c 0 (pH aG S)=t:=aH
    rw[cD,←ob,OD,ob]at yn;refine dE.OE (k:=fn.ntmps-aG.length) lQ hc (by rw[lR]) (b2.OF (b2.mono yn fun ex st ak=>?_))
    obtain⟨x,df,ay,aa,ae,av,aQ,bL,cT,fr⟩:=ak;refine⟨_,av,?_⟩
    obtain⟨iB,dM,bh,c1,di⟩:=iY (M:=M) (e:=e) ym;rw[aa]at c1
    cases c1
    have ag:run M (t.rel rZ) e=some (.cj,df,ay):=by
     rw[vC (BE t),aa]
     cases x<;>first|rfl|cases di
    obtain⟨oc,_⟩:=g3 df ay ag;rw[ag]at g2
    have g2:run M ((t.rel rZ).eG (tu P fn N) none) e=run M (tu P fn N df) ay:=g2
    unfold tu at oc g2
    split at oc
    ·rename_i v aw
     split at oc
     ·rename_i fB
      simp only[aw,fB]at g2;refine⟨(by cases x<;>cases ex<;>first|exact .inl rfl|exact .inr rfl|exact ae.elim|cases di),v.den G ay,cw G ay df.h,OG bL aw,fun _ _ h=>h,{df with l:=ba.put .emp 0 v},ay,g2,?_,rfl,⟨fun i x hx=>?_,aQ.h,aQ.g⟩,bL,cT,fr⟩
      ·simp only[aq.at,ba.hR,if_true]
      ·simp only[ba.hR]at hx
       split at hx
       ·cases hx;exact fB
       ·simp[ba.get]at hx
     ·exact oc.elim
    ·exact oc.elim
   ·exact ai.elim
  ·exact ai.elim
 ·exact ai.elim
end
end Go.aK
