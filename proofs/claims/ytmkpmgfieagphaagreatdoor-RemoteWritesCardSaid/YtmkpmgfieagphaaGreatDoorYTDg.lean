/- TD, part B: expressions, needs, states, trees: what they are and what they stand for. Conditions: none. -/
import Derived.Test.YtmkpmgfieagphaaGreatDoorYTDa
namespace Go.aO
open Go
inductive gI where
 |nL
 |iz (c:bJ)
 |oO (k bu:IntKind)
 |mY
 |zX (k:IntKind)
 |tY (k:IntKind)
 |cY
 |wR
 deriving DecidableEq
@[reducible] def gI.a:gI→a6
 | .nL=>.str
 | .iz c=>.li c
 | .oO k _=>.int k
 | .mY=>.bool
 | .zX k=>.int k
 | .tY k=>.int k
 | .cY=>.li .u8
 | .wR=>.str
@[reducible] def gI.c:gI→a6
 | .nL=>.int .i64
 | .iz _=>.int .i64
 | .oO _ bu=>.int bu
 | .mY=>.bool
 | .zX k=>.int k
 | .tY k=>.int k
 | .cY=>.str
 | .wR=>.li .u8
def gI.den:(f:gI)→f.a.den→f.c.den
 | .nL,x=>(ByteArray.size x:Int)
 | .iz _,x=>(List.length x:Int)
 | .oO _ bu,x=>bu.wrap x
 | .mY,x=>!x
 | .zX k,x=>k.wrap (0-x)
 | .tY k,x=>n8 k (if k.signed then -1 else k.max) x
 | .cY,x=>bytesOf x
 | .wR,x=>(ByteArray.data x).toList.map fun u=>(u.toNat:Int)
def bL(op:BinOp)(k:IntKind)(a b:Int):Int:=
 match op with
 | .add=>k.wrap (a+b)
 | .sub=>k.wrap (a-b)
 | .mul=>k.wrap (a*b)
 | .quo=>k.wrap (a.tdiv b)
 | .rem=>a.tmod b
 | .shl=>k.wrap (a*2^(min b.toNat k.bits))
 | .shr=>a.fdiv (2^(min b.toNat k.bits))
 | .and=>n6 k a b
 | .or=>ng k a b
 | .xor=>n8 k a b
 |_=>0
def DK(op:BinOp)(b:Int):Prop:=
 match op with
 | .quo=>b≠0
 | .rem=>b≠0
 | .shl=>0≤b
 | .shr=>0≤b
 |_=>True
def zY(op:BinOp)(a b:Int):Bool:=
 match op with
 | .eql=>a==b
 | .neq=>a != b
 | .lss=>decide (a<b)
 | .leq=>decide (a≤b)
 | .gtr=>decide (a>b)
 |_=>decide (a≥b)
def cO(op:BinOp)(a b:ByteArray):Bool:=
 match op with
 | .eql=>cW a b
 | .neq=>!cW a b
 | .lss=>qU a b
 | .leq=>qU a b||cW a b
 | .gtr=>!(qU a b||cW a b)
 |_=>!qU a b
inductive cD where
 |jt (op:BinOp) (k bu:IntKind)
 |oV (op:BinOp) (k:IntKind)
 |mg (op:BinOp)
 |kI (n:Bool)
 |sD
 |tZ (k:IntKind)
 |mx (k:IntKind)
 |j8 (c:bJ) (k:IntKind)
 |rb (k:IntKind)
 |ap (c:bJ)
 |lS
 |lU
 |lT
 |kF
 |wS
 deriving DecidableEq
@[reducible] def cD.a:cD→a6
 | .jt _ k _=>.int k
 | .oV _ k=>.int k
 | .mg _=>.str
 | .kI _=>.bool
 | .sD=>.str
 | .tZ k=>.int k
 | .mx k=>.int k
 | .j8 c _=>.li c
 | .rb _=>.str
 | .ap c=>.li c
 | .lS=>.str
 | .lU=>.str
 | .lT=>.str
 | .kF=>.str
 | .wS=>.str
@[reducible] def cD.b:cD→a6
 | .jt _ _ bu=>.int bu
 | .oV _ k=>.int k
 | .mg _=>.str
 | .kI _=>.bool
 | .sD=>.str
 | .tZ k=>.int k
 | .mx k=>.int k
 | .j8 _ k=>.int k
 | .rb k=>.int k
 | .ap c=>.li c
 | .lS=>.int .i64
 | .lU=>.int .i64
 | .lT=>.int .i64
 | .kF=>.int .i64
 | .wS=>.int .u8
@[reducible] def cD.c:cD→a6
 | .jt _ k _=>.int k
 | .oV _ _=>.bool
 | .mg _=>.bool
 | .kI _=>.bool
 | .sD=>.str
 | .tZ k=>.int k
 | .mx k=>.int k
 | .j8 c _=>.st c
 | .rb _=>.int .u8
 | .ap c=>.li c
 | .lS=>.bool
 | .lU=>.int .i64
 | .lT=>.int .i32
 | .kF=>.int .i64
 | .wS=>.int .i64
def DL(b:ByteArray)(c:Int):Int:=
 match(List.range b.size).find? fun i=>b[i]! ==c.toNat.toUInt8 with
 |some i=>(i:Int)
 |none=> -1
def cD.den:(f:cD)→f.a.den→f.b.den→f.c.den
 | .jt op k _,x,y=>bL op k x y
 | .oV op _,x,y=>zY op x y
 | .mg op,x,y=>cO op x y
 | .kI n,x,y=>bif n then !(x==y)else x==y
 | .sD,x,y=>ByteArray.append x y
 | .tZ _,x,y=>if y<x then y else x
 | .mx _,x,y=>if y>x then y else x
 | .j8 c _,x,y=>List.getD x (Int.toNat y) (av c)
 | .rb _,x,y=>ez x y
 | .ap _,x,y=>List.append x y
 | .lS,x,y=>decide (Int.toNat y<ByteArray.size x)
 | .lU,_,y=>(Int.toNat y:Int)
 | .lT,x,y=>((Utf8.decode x (Int.toNat y)).1:Int)
 | .wS,x,y=>DL x y
 | .kF,x,y=>((Int.toNat y+(Utf8.decode x (Int.toNat y)).2:Nat):Int)
def cD.uF(bytes:Nat):(f:cD)→f.a.den→f.b.den→Prop
 | .jt op _ _,_,y=>DK op y
 | .sD,x,y=>ByteArray.size x+ByteArray.size y≤9223372036854775807
 | .j8 _ _,x,y=>0≤y∧y<(List.length x:Int)
 | .rb _,x,y=>0≤y∧y<(ByteArray.size x:Int)
 | .ap _,x,y=>List.length x+List.length y≤maxLen∧(List.length x+List.length y)*bytes≤140737488355328
 |_,_,_=>True
@[reducible] def fg:List a6→a6
 |[]=>.un
 |[r]=>r
 |r::s::l=>.zN r (fg (s::l))
def cg:(rs:List a6)→List aI→(fg rs).den
 |[],_=>()
 |[r],d::_=>d.aJ r
 |[r],[]=>r.fz
 |r::s::l,d::ds=>(d.aJ r,cg (s::l) ds)
 |r::s::l,[]=>(r.fz,cg (s::l) [])
def dB:(rs:List a6)→(fg rs).den→List aI
 |[],_=>[]
 |[r],x=>[⟨r,x⟩]
 |r::s::l,x=>⟨r,x.1⟩::dB (s::l) x.2
structure aV where
 ps:List a6
 rs:List a6
 pre:Option ((fg ps).den→Prop)
 m:(fg ps).den→(fg rs).den
def aV.d:aV:=⟨[],[],none,fun x=>x⟩
def e7{α:Type _}(d:α):List α→Nat→α
 |[],_=>d
 |x::r,n=>match Nat.beq n 0 with
  |true=>x
  |false=>e7 d r (Nat.sub n 1)
def gF(e:Env):List a6→List ab→List aI
 |r::rs,x::xs=>⟨r,x.get e r⟩::gF e rs xs
 |_,_=>[]
inductive bQ where
 |re (r:a6) (x:ab)
 |f1 (f:gI) (x:ab)
 |f2 (f:cD) (x y:ab)
 |eB (c:bJ) (x:ab) (lo hi:Option ab)
 |uG (x:ab) (lo hi:Option ab)
 |r6 (r:a6) (g x y:ab)
 |zZ (n:Bool) (rs:List a6) (l m:List ab)
 |p7 (c:bJ) (rows:List ab)
 |up (c:bJ) (l i x:ab)
 |nth (r:a6) (l:List ab) (i:ab)
 |DM (c:bJ) (x:ab)
 |DN (k v:a6)
 |DO (k v:a6) (m x y:ab)
 |wT (k v:a6) (m x:ab)
 |uH (k v:a6) (m x:ab)
 |ca (j:Nat) (aJ:List ab)
 |rf (rs:List a6) (p i:Nat)
def mh(e:Env):Option ab→Option Int
 |none=>none
 |some x=>some (cr (x.dyn e))
def iL{α:Type}(l:List α):Option Int→Option Int→List α
 |none,none=>l
 |some a,none=>l.drop a.toNat
 |none,some h=>l.take h.toNat
 |some a,some h=>(l.take h.toNat).drop a.toNat
def np(b:ByteArray):Option Int→Option Int→ByteArray
 |none,none=>b.extract 0 b.size
 |some a,none=>b.extract a.toNat b.size
 |none,some h=>b.extract 0 h.toNat
 |some a,some h=>b.extract a.toNat h.toNat
def jD(n:Nat):Option Int→Option Int→Prop
 |none,none=>True
 |some a,none=>0≤a∧a≤(n:Int)
 |none,some h=>0≤h∧h≤(n:Int)
 |some a,some h=>0≤a∧a≤h∧h≤(n:Int)
def rh:(r:a6)→r.den→r.den→Bool
 | .int _,x,y=>(show Int from x)==y
 | .bool,x,y=>(show Bool from x)==y
 | .str,x,y=>cW x y
 |_,_,_=>false
def ky(e:Env):List a6→List ab→List ab→Bool
 |[r],[x],[y]=>rh r (x.aC e r) (y.aC e r)
 |r::rs,x::xs,y::ys=>bif rh r (x.aC e r) (y.aC e r)then ky e rs xs ys else false
 |_,_,_=>true
def mi(e:Env)(c:bJ):List ab→List (fQ c)
 |[]=>[]
 |x::r=>x.get e (.st c)::mi e c r
def sE(e:Env)(r:a6):List ab→Nat→r.den
 |[],_=>r.fz
 |[x],_=>x.aC e r
 |x::l,n=>bif Nat.beq n 0 then x.aC e r else sE e r l (n-1)
def jE{V:Type}:(k:a6)→List (k.den × V)→k.den→Option V
 | .int _,l,x=>hT (K:=Int) l x
 | .str,l,x=>hT (K:=ByteArray) l x
 |_,_,_=>none
def r1{V:Type}:(k:a6)→List (k.den × V)→k.den→V→List (k.den × V)
 | .int _,l,x,v=>jd (K:=Int) l x v
 | .str,l,x,v=>jd (K:=ByteArray) l x v
 |_,l,_,_=>l
def bQ.den(M:List aV)(e:Env):bQ→aI
 | .re r x=>⟨r,x.get e r⟩
 | .f1 f x=>⟨f.c,f.den (x.aC e f.a)⟩
 | .f2 f x y=>⟨f.c,f.den (x.aC e f.a) (y.aC e f.b)⟩
 | .eB c x lo hi=>⟨.li c,iL (x.aC e (.li c)) (mh e lo) (mh e hi)⟩
 | .uG x lo hi=>⟨.str,np (x.aC e .str) (mh e lo) (mh e hi)⟩
 | .r6 r g x y=>⟨r,bif g.aC e .bool then x.get e r else y.get e r⟩
 | .zZ n rs l m=>⟨.bool,bif n then !ky e rs l m else ky e rs l m⟩
 | .p7 c rows=>⟨.li c,mi e c rows⟩
 | .up c l i x=>⟨.li c,List.set (l.aC e (.li c)) (cr (i.dyn e)).toNat (x.get e (.st c))⟩
 | .nth r l i=>⟨r,sE e r l (cr (i.dyn e)).toNat⟩
 | .DM c x=>⟨.li c,List.replicate (Int.toNat (x.aC e (.int .i64))) (av c)⟩
 | .DN k v=>⟨.mp k v,([]:List (k.den × v.den))⟩
 | .DO k v m x y=>⟨.mp k v,r1 k (m.aC e (.mp k v)) (x.aC e k) (y.get e v)⟩
 | .wT k v m x=>⟨.bool,(jE k (show List (k.den × v.den)from m.aC e (.mp k v)) (x.aC e k)).isSome⟩
 | .uH k v m x=>⟨v,(jE k (show List (k.den × v.den)from m.aC e (.mp k v)) (x.aC e k)).getD v.fz⟩
 | .ca j aJ=>⟨fg (e7 aV.d M j).rs,(e7 aV.d M j).m (cg _ (gF e (e7 aV.d M j).ps aJ))⟩
 | .rf rs p i=>e7 aI.d (dB rs ((Env.at e p).aJ (fg rs))) i
inductive fi where
 |f2 (bytes:Nat) (f:cD) (x y:ab)
 |eB (c:bJ) (x:ab) (lo hi:Option ab)
 |uG (x:ab) (lo hi:Option ab)
 |up (c:bJ) (l i:ab)
 |nth (n:Nat) (i:ab)
 |mk (bytes:Nat) (x y:ab)
 |ca (j:Nat) (aJ:List ab)
 |SJ (g:ab) (b:Bool) (n:fi)
def k8{α:Type}(p:Option (α→Prop))(x:α):Prop:=
 match p with
 |none=>True
 |some q=>q x
def fi.ok(M:List aV)(e:Env):fi→Prop
 | .f2 n f x y=>f.uF n (x.aC e f.a) (y.aC e f.b)
 | .eB c x lo hi=>jD (List.length (x.aC e (.li c))) (mh e lo) (mh e hi)
 | .uG x lo hi=>jD (ByteArray.size (x.aC e .str)) (mh e lo) (mh e hi)
 | .up c l i=>0≤cr (i.dyn e)∧cr (i.dyn e)<(List.length (l.aC e (.li c)):Int)
 | .nth n i=>0≤cr (i.dyn e)∧cr (i.dyn e)<(n:Int)
 | .mk n x y=>0≤x.aC e (.int .i64)∧x.aC e (.int .i64)≤y.aC e (.int .i64)∧y.aC e (.int .i64)≤(maxLen:Int)∧(n:Int)*y.aC e (.int .i64)≤281474976710656
 | .ca j aJ=>k8 (e7 aV.d M j).pre (cg _ (gF e (e7 aV.d M j).ps aJ))
 | .SJ g b n=>g.aC e .bool=b→n.ok M e
inductive sF where
 |st
 |mp (k v:a6)
 deriving DecidableEq
@[reducible] def sF.rt:sF→a6
 | .st=>.int .i64
 | .mp k v=>.mp k v
def sF.den:(q:sF)→ByteArray→q.rt.den→we
 | .st,s,p=>p0 s (Int.toNat p)
 | .mp k v,_,l=>jN v.agg (gm (kV k) (iC v) l)
inductive bK where
 |cQ (t:TypeId) (l:List ab)
 |rw (t:TypeId) (c:bJ) (x:ab)
 |it (q:sF) (x p:ab)
def bK.den(G:bd)(e:Env):bK→ei
 | .cQ t l=>.box t (ab.bX G e l)
 | .rw t c x=>.row false t (b5 c) (List.map (cj c) (x.aC e (.li c)))
 | .it q x p=>.bT (q.den (x.aC e .str) (p.aC e q.rt))
def cH(G:bd)(e:Env):List (Nat × bK)→Heap
 |[]=>[]
 |(i,o)::r=>(i,o.den G e)::cH G e r
def dj:List (Nat × bK)→Nat→Option bK
 |[],_=>none
 |(i,o)::r,k=>match Nat.beq i k with
  |true=>some o
  |false=>dj r k
def ju:List (Nat × bK)→Nat→bK→List (Nat × bK)
 |[],k,x=>[(k,x)]
 |(i,o)::r,k,x=>match Nat.beq i k with
  |true=>(i,x)::r
  |false=>(i,o)::ju r k x
inductive cc where
 |d1 (i:Nat) (f:gI) (x:ab)
 |d2 (i:Nat) (f:cD) (x y:ab)
 |rg (i:Nat) (b:ab)
 |dV (g:ab) (b:Bool)
def cc.ok(e:Env):cc→Prop
 | .d1 i f x=>Env.at e i=⟨f.c,f.den (x.aC e f.a)⟩
 | .d2 i f x y=>Env.at e i=⟨f.c,f.den (x.aC e f.a) (y.aC e f.b)⟩
 | .rg i b=>0≤cr (Env.at e i)∧cr (Env.at e i)<cr (b.dyn e)
 | .dV g b=>g.aC e .bool=b
structure aq where
 l:bg ab
 h:List (Nat × bK)
 n:Nat
 k:Nat
 g:List cc
def aq.at(S:aq)(i:Nat):ab:=
 match S.l.get i with
 |some x=>x
 |none=>.top
def j9(G:bd)(e:Env)(l:bg ab):Nat→Nat→List aF
 |_,0=>[]
 |i,n+1=>(match l.get i with|some x=>x.den G e|none=>.top)::j9 G e l (i+1) n
def aq.den(G:bd)(N B:Nat)(e:Env)(S:aq):aU:=⟨j9 G e S.l 0 N,cH G e S.h,S.n,B⟩
inductive ey where
 |slot (i:Nat) (p:List Nat)
 |box (id off:Nat) (p:List Nat)
 |row (id:Nat)
 |kz (p:ey)
def ab.kz:ab→ab
 | .cq _ _=>.cs (.bool true)
 | .cs (.pointer none)=>.cs (.bool false)
 | .fl (.aQ .bool i) _ _=>.aQ .bool i
 |_=>.top
def ab.sub:ab→List Nat→ab
 |x,[]=>x
 | .bO l,i::p=>(e7 .top l i).sub p
 | .tp l,i::p=>(e7 .top l i).sub p
 |_,_::_=>.top
def ey.dp(S:aq):ey→ab
 | .slot i p=>(S.at i).sub p
 | .box id off p=>match dj S.h id with
  |some (.cQ _ l)=>(e7 .top l off).sub p
  |_=>.top
 | .row id=>match dj S.h id with
  |some (.rw _ _ x)=>x
  |some (.it _ _ p)=>p
  |_=>.top
 | .kz p=>(p.dp S).kz
inductive b7 where
 |cp
 |ext (n:Nat)
 |ret
 |k0 (n:Nat)
def b7.b0(n:Nat):b7→Bool
 | .k0 m=>Nat.beq m n
 |_=>false
def b7.c9(n:Nat):b7→Bool
 | .ext m=>Nat.beq m n
 |_=>false
structure hz where
 i:Nat
 r:a6
 x:ab
 p:ey
inductive aD where
 |cR (x:b7) (S:aq)
 |lt (i:Nat) (x:bQ) (t:aD)
 |eH (n:fi) (t:aD)
 |it (g:ab) (a b:aD)
 |dE (n:Nat) (a:aD) (ps:List (Nat × a6 × ey)) (k:aD)
 |dW (m xid:Nat) (du:bQ) (b8:Nat) (ca:List hz) (a k:aD)
 |ep (m xid:Nat) (ca:List hz) (a k:aD)
 |bad (n:Nat)
def aD.fv:aD→(b7→Bool)→Bool
 | .cR x _,f=>f x
 | .lt _ _ t,f=>t.fv f
 | .eH _ t,f=>t.fv f
 | .it _ a b,f=>a.fv f&&b.fv f
 | .dE n a _ k,f=>a.fv (fun x=>x.b0 n||f x)&&k.fv f
 | .dW m xid _ _ _ a k,f=>a.fv (fun x=>x.b0 m||(x.c9 xid||f x))&&k.fv f
 | .ep m xid _ a k,f=>a.fv (fun x=>x.b0 m||(x.c9 xid||f x))&&k.fv f
 | .bad _,_=>false
def aD.jv(t:aD)(n:Nat):Bool:=t.fv (b7.b0 n)
def ri:List hz→List a6
 |[]=>[]
 |a::l=>a.r::ri l
def dI(e:Env):List hz→List aI
 |[]=>[]
 |a::l=>⟨a.r,a.x.get e a.r⟩::dI e l
def fB(S:aq)(e:Env):List hz→List aI
 |[]=>[]
 |a::l=>⟨a.r,(a.p.dp S).get e a.r⟩::fB S e l
def rj(e:Env):List hz→List aI→Env
 |a::l,d::ds=>rj (bg.put e a.i d) l ds
 |_,_=>e
abbrev b4(ca:List hz):Type:=(fg (ri ca)).den
def bw(e:Env)(ca:List hz)(v:b4 ca):Env:=rj e ca (dB (ri ca) v)
def fT(e:Env)(f:a6→ey→aI):List (Nat × a6 × ey)→Env
 |[]=>e
 |(i,r,p)::l=>fT (bg.put e i (f r p)) f l
def dG:Nat:=18446744073709551616
def eg{X:Type}(m xid:Nat)(ca:List hz)(K:b7→aq→Env→X)(x:b7)(S:aq)(e:Env):Step X (b4 ca):=
 match x.b0 m with
 |true=>.bn (cg _ (fB S e ca))
 |false=>match x.c9 xid with
  |true=>.cN (cg _ (fB S e ca))
  |false=>.ret (K x S e)
def aD.fold(M:List aV):aD→{X:Type}→Env→(b7→aq→Env→X)→X→X
  | .cR x S,_,e,K,_=>K x S e
  | .lt i x t,_,e,K,d=>t.fold M (bg.put e i (x.den M e)) K d
  | .eH _ t,_,e,K,d=>t.fold M e K d
  | .it g a b,_,e,K,d=>bif g.aC e .bool then a.fold M e K d else b.fold M e K d
  | .dE n a ps k,_,e,K,d=>bif a.jv n
    then k.fold M (fT e (fun r p=>⟨r,a.fold M e (fun _ S aB=>(p.dp S).get aB r) r.fz⟩) ps) K d
    else bif a.fold M e (fun x _ _=>x.b0 n) false
      then k.fold M (fT e (fun r p=>⟨r,a.fold M e (fun x S aB=>bif x.b0 n then(p.dp S).get aB r else r.fz) r.fz⟩) ps) K d
      else a.fold M e K d
  | .dW m xid du b8 ca a k,X,e,K,d=>Sum.elim (fun r=>r) (fun v=>k.fold M (bw e ca v) K d) (bq (fun i (v:b4 ca)=>bif a.jv m
        then(.bn (a.fold M (bw (bg.put e b8 ⟨.int .i64,(i:Int)⟩) ca v) (fun _ S aB=>cg _ (fB S aB ca)) v):Step X (b4 ca))
        else a.fold M (bw (bg.put e b8 ⟨.int .i64,(i:Int)⟩) ca v) (eg m xid ca K) (.cN v)) 0 (cr (du.den M e)).toNat (cg _ (dI e ca)))
  | .ep m xid ca a k,X,e,K,d=>Sum.elim (fun r=>r) (fun v=>k.fold M (bw e ca v) K d) (c7 (fun v=>(a.fold M (bw e ca v) (eg m xid ca K) (.cN v):Step X (b4 ca))) dG (cg _ (dI e ca)))
  | .bad _,_,_,_,d=>d
def aD.safe(M:List aV):aD→Env→Prop
  | .cR _ _,_=>True
  | .lt i x t,e=>t.safe M (bg.put e i (x.den M e))
  | .eH n t,e=>n.ok M e∧t.safe M e
  | .it g a b,e=>(g.aC e .bool=true→a.safe M e)∧(g.aC e .bool=false→b.safe M e)
  | .dE n a ps k,e=>a.safe M e∧(a.fold M e (fun x _ _=>x.b0 n) false=true→k.safe M (fT e (fun r p=>⟨r,bif a.jv n
      then a.fold M e (fun _ S aB=>(p.dp S).get aB r) r.fz
      else a.fold M e (fun x S aB=>bif x.b0 n then(p.dp S).get aB r else r.fz) r.fz⟩) ps))
  | .dW m xid du b8 ca a k,e=>(∃I:Nat→b4 ca→Prop,I 0 (cg _ (dI e ca))∧∀(i:Nat) (v:b4 ca),i<(cr (du.den M e)).toNat→I i v→
      a.safe M (bw (bg.put e b8 ⟨.int .i64,(i:Int)⟩) ca v)∧∀bp,a.fold M (bw (bg.put e b8 ⟨.int .i64,(i:Int)⟩) ca v) (eg m xid ca fun _ _ _=>()) (.cN v)= .bn bp→I (i+1) bp)∧
      Sum.elim (fun _=>True) (fun v=>k.safe M (bw e ca v)) (bq (fun i (v:b4 ca)=>a.fold M (bw (bg.put e b8 ⟨.int .i64,(i:Int)⟩) ca v) (eg m xid ca fun _ _ _=>()) (.cN v)) 0 (cr (du.den M e)).toNat (cg _ (dI e ca)))
  | .ep m xid ca a k,e=>(∃I:b4 ca→Prop,I (cg _ (dI e ca))∧∀(v:b4 ca),I v→
      a.safe M (bw e ca v)∧∀bp,a.fold M (bw e ca v) (eg m xid ca fun _ _ _=>()) (.cN v)= .bn bp→I bp)∧
      j7 (fun v=>(a.fold M (bw e ca v) (eg m xid ca fun _ _ _=>()) (.cN v):Step Unit (b4 ca))) dG (cg _ (dI e ca))∧
      Sum.elim (fun _=>True) (fun v=>k.safe M (bw e ca v)) (c7 (fun v=>(a.fold M (bw e ca v) (eg m xid ca fun _ _ _=>()) (.cN v):Step Unit (b4 ca))) dG (cg _ (dI e ca)))
  | .bad _,_=>False
def aD.clean:aD→Bool
 | .cR _ _=>true
 | .lt _ _ t=>t.clean
 | .eH _ _=>false
 | .it _ a b=>a.clean&&b.clean
 | .dE _ a _ k=>a.clean&&k.clean
 | .dW _ _ _ _ _ a k=>a.clean&&k.clean
 | .ep _ _ _ _ _=>false
 | .bad _=>false
theorem rk(M:List aV): ∀{t:aD} {e:Env},t.clean=true→t.safe M e
 | .cR _ _,_,_=>trivial
 | .lt _ _ t,_,h=>rk M (t:=t) h
 | .eH _ _,_,h=>by cases h
 | .it _ a b,_,h=>by
  simp only[aD.clean,Bool.and_eq_true]at h;exact⟨fun _=>rk M h.1,fun _=>rk M h.2⟩
 | .dE _ a _ k,_,h=>by
  simp only[aD.clean,Bool.and_eq_true]at h;exact⟨rk M h.1,fun _=>rk M h.2⟩
 | .dW _ _ _ _ _ a k,_,h=>by
  simp only[aD.clean,Bool.and_eq_true]at h;refine⟨⟨fun _ _=>True,trivial,fun _ _ _ _=>⟨rk M h.1,fun _ _=>trivial⟩⟩,?_⟩
  generalize bq _ _ _ _=L
  cases L with
  |inl r=>trivial
  |inr v=>exact rk M h.2
 | .ep _ _ _ _ _,_,h=>by cases h
 | .bad _,_,h=>by cases h
end Go.aO
namespace Go.aO
open Go
def iW{R A X:Type}(f:R→X):Step R A→Step X A
 | .ret r=>.ret (f r)
 | .cN a=>.cN a
 | .bn a=>.bn a
theorem wU{R A X:Type}(f:R→X){b:Nat→A→Step R A}{c:Nat→A→Step X A}(h: ∀i a,c i a=iW f (b i a)): ∀(m k:Nat) (a:A),bq c k m a=Sum.map f id (bq b k m a)
 |0,_,_=>rfl
 |m+1,k,a=>by
  simp only[bq,h]
  cases b k a with
  |ret r=>rfl
  |cN a=>rfl
  |bn a=>exact wU f h m (k+1) a
theorem wV{R A X:Type}(f:R→X){b:A→Step R A}{c:A→Step X A}(h: ∀a,c a=iW f (b a)): ∀(m:Nat) (a:A),c7 c m a=Sum.map f id (c7 b m a)
 |0,_=>rfl
 |m+1,a=>by
  simp only[c7,h]
  cases b a with
  |ret r=>rfl
  |cN a=>rfl
  |bn a=>exact wV f h m a
theorem Lg{R A X:Type}(f:R→X){b:A→Step R A}{c:A→Step X A}(h: ∀a,c a=iW f (b a)): ∀(m:Nat) (a:A),j7 c m a↔j7 b m a
 |0,_=>Iff.rfl
 |m+1,a=>by
  simp only[j7,h]
  cases b a with
  |ret r=>exact Iff.rfl
  |cN a=>exact Iff.rfl
  |bn a=>exact Lg f h m a
theorem wW{X Y:Type}(g:X→Y)(m xid:Nat)(ca:List hz)(K:b7→aq→Env→X)(x:b7)(S:aq)(e:Env):iW g (eg m xid ca K x S e)=eg m xid ca (fun x S e=>g (K x S e)) x S e:=by
 unfold eg
 split
 ·rfl
 ·split<;>rfl
section
variable {X:Type} {m xid:Nat} {ca:List hz} {K:b7→aq→Env→X} {x:b7} {S:aq} {e:Env}
theorem nM(h:x.b0 m=true):eg m xid ca K x S e= .bn (cg _ (fB S e ca)):=by unfold eg;rw[h]
theorem nN(h:x.b0 m=false)(h':x.c9 xid=true):eg m xid ca K x S e= .cN (cg _ (fB S e ca)):=by unfold eg;rw[h,h']
theorem ka(h:x.b0 m=false)(h':x.c9 xid=false):eg m xid ca K x S e= .ret (K x S e):=by unfold eg;rw[h,h']
end
section
variable {M:List aV}
theorem fold_map: ∀(t:aD) {X Y:Type} (g:X→Y) (e:Env) (K:b7→aq→Env→X) (d:X),g (t.fold M e K d)=t.fold M e (fun x S aB=>g (K x S aB)) (g d)
  | .cR _ _,_,_,_,_,_,_=>rfl
  | .lt _ _ t,_,_,g,_,K,d=>fold_map t g _ K d
  | .eH _ t,_,_,g,_,K,d=>fold_map t g _ K d
  | .it c a b,_,_,g,e,K,d=>by
    simp only[aD.fold]
    cases c.aC e .bool with
    |true=>exact fold_map a g e K d
    |false=>exact fold_map b g e K d
  | .dE n a ps k,_,_,g,e,K,d=>by
    simp only[aD.fold]
    cases a.jv n with
    |true=>exact fold_map k g _ K d
    |false=>cases a.fold M e (fun x _ _=>x.b0 n) false with
      |true=>exact fold_map k g _ K d
      |false=>exact fold_map a g e K d
  | .dW m xid du b8 ca a k,X,Y,g,e,K,d=>by
    simp only[aD.fold]
    rw[wU g (c:=fun i (v:b4 ca)=>bif a.jv m
        then(.bn (a.fold M (bw (bg.put e b8 ⟨.int .i64,(i:Int)⟩) ca v) (fun _ S aB=>cg _ (fB S aB ca)) v):Step Y (b4 ca))
        else a.fold M (bw (bg.put e b8 ⟨.int .i64,(i:Int)⟩) ca v) (eg m xid ca fun x S e=>g (K x S e)) (.cN v))
      (b:=fun i (v:b4 ca)=>bif a.jv m
        then(.bn (a.fold M (bw (bg.put e b8 ⟨.int .i64,(i:Int)⟩) ca v) (fun _ S aB=>cg _ (fB S aB ca)) v):Step X (b4 ca))
        else a.fold M (bw (bg.put e b8 ⟨.int .i64,(i:Int)⟩) ca v) (eg m xid ca K) (.cN v))
      (fun i v=>by
        cases a.jv m with
        |true=>rfl
        |false=>
          simp only[cond_false];rw[fold_map a (iW g)];simp only[wW]
          rfl)]
    generalize bq _ _ _ _=L
    cases L with
    |inl r=>rfl
    |inr v=>exact fold_map k g _ K d
  | .ep m xid ca a k,X,Y,g,e,K,d=>by
    simp only[aD.fold]
    rw[wV g (c:=fun(v:b4 ca)=>a.fold M (bw e ca v) (eg m xid ca fun x S e=>g (K x S e)) (.cN v))
      (b:=fun(v:b4 ca)=>a.fold M (bw e ca v) (eg m xid ca K) (.cN v))
      (fun v=>by
        rw[fold_map a (iW g)];simp only[wW]
        rfl)]
    generalize c7 _ _ _=L
    cases L with
    |inl r=>rfl
    |inr v=>exact fold_map k g _ K d
  | .bad _,_,_,_,_,_,_=>rfl
abbrev mZ:=b7 × aq × Env
def run(M:List aV)(t:aD)(e:Env):Option mZ:=t.fold M e (fun x S aB=>some (x,S,aB)) none
theorem kb{t:aD}{e aB:Env}{x:b7}{S:aq}(h:run M t e=some (x,S,aB)){X:Type}(K:b7→aq→Env→X)(d:X):t.fold M e K d=K x S aB:=by
 have:=fold_map (M:=M) t (fun(o:Option mZ)=>match o with|some (x,S,aB)=>K x S aB|none=>d) e (fun x S aB=>some (x,S,aB)) none
 simp only at this
 rw[←this]
 unfold run at h
 rw[h]
theorem z1{t:aD}{e:Env}(h:run M t e=none){X:Type}(K:b7→aq→Env→X)(d:X):t.fold M e K d=d:=by
 have:=fold_map (M:=M) t (fun(o:Option mZ)=>match o with|some (x,S,aB)=>K x S aB|none=>d) e (fun x S aB=>some (x,S,aB)) none
 simp only at this
 rw[←this]
 unfold run at h
 rw[h]
def dg(M:List aV)(m xid:Nat)(ca:List hz)(a:aD)(e:Env)(v:b4 ca):Step (Option mZ) (b4 ca):=
 match run M a e with
 |some (x,S,aB)=>eg m xid ca (fun x S e=>some (x,S,e)) x S aB
 |none=>.cN v
theorem wX(m xid:Nat)(ca:List hz)(a:aD)(e:Env)(v:b4 ca):a.fold M e (eg m xid ca fun x S e=>some (x,S,e)) (.cN v)=dg M m xid ca a e v:=by
 unfold dg
 split
 ·rename_i x S aB h
  exact kb h _ _
 ·rename_i h
  exact z1 h _ _
theorem SK{m xid b8:Nat}{du:bQ}{ca:List hz}{a k:aD}{e:Env}{X:Type}(K:b7→aq→Env→X)(d:X)(h:a.jv m=true→∀e,∃x S aB,run M a e=some (x,S,aB)∧x.b0 m=true):
 (aD.dW m xid du b8 ca a k).fold M e K d=Sum.elim (fun r=>r) (fun v=>k.fold M (bw e ca v) K d) (bq (fun i (v:b4 ca)=>a.fold M (bw (bg.put e b8 ⟨.int .i64,(i:Int)⟩) ca v) (eg m xid ca K) (.cN v)) 0 (cr (du.den M e)).toNat (cg _ (dI e ca))):=by
 simp only[aD.fold]
 cases af:a.jv m with
 |false=>rfl
 |true=>
  have:(fun(i:Nat) (v:b4 ca)=>(.bn (a.fold M (bw (bg.put e b8 ⟨.int .i64,(i:Int)⟩) ca v) (fun _ S aB=>cg _ (fB S aB ca)) v):Step X (b4 ca)))=fun(i:Nat) (v:b4 ca)=>a.fold M (bw (bg.put e b8 ⟨.int .i64,(i:Int)⟩) ca v) (eg m xid ca K) (.cN v):=by
   funext i v
   obtain⟨x,S,aB,aa,ae⟩:=h af (bw (bg.put e b8 ⟨.int .i64,(i:Int)⟩) ca v);simp only[kb aa,eg,ae]
  simp only[cond_true];rw[this]
theorem ji: ∀{t:aD} {f:b7→Bool} {e:Env},t.fv f=true→∃x S aB,run M t e=some (x,S,aB)∧f x=true
 | .cR x S,_,e,h=>⟨x,S,e,rfl,h⟩
 | .lt _ _ t,_,_,h=>ji (t:=t) h
 | .eH _ t,_,_,h=>ji (t:=t) h
 | .it c a b,f,e,h=>by
  simp only[aD.fv,Bool.and_eq_true]at h;simp only[run,aD.fold]
  cases c.aC e .bool with
  |true=>exact ji (t:=a) h.1
  |false=>exact ji (t:=b) h.2
 | .dE n a ps k,f,e,h=>by
  simp only[aD.fv,Bool.and_eq_true]at h;obtain⟨x,S,aB,aa,ae⟩:=ji (t:=a) (e:=e) h.1;simp only[run,aD.fold]
  cases a.jv n with
  |true=>exact ji (t:=k) h.2
  |false=>
   rw[kb aa]
   cases hx:x.b0 n with
   |true=>exact ji (t:=k) h.2
   |false=>
    rw[hx,Bool.false_or]at ae;exact⟨x,S,aB,aa,ae⟩
 | .dW m xid du b8 ca a k,f,e,h=>by
  simp only[aD.fv,Bool.and_eq_true]at h
  have key: ∀(n i:Nat) (v:b4 ca),(∃bp,bq (fun i (v:b4 ca)=>a.fold M (bw (bg.put e b8 ⟨.int .i64,(i:Int)⟩) ca v) (eg m xid ca fun x S e=>some (x,S,e)) (.cN v)) i n v= .inr bp)∨
   ∃x S aB,bq (fun i (v:b4 ca)=>a.fold M (bw (bg.put e b8 ⟨.int .i64,(i:Int)⟩) ca v) (eg m xid ca fun x S e=>some (x,S,e)) (.cN v)) i n v= .inl (some (x,S,aB))∧f x=true:=by
   intro n
   induction n with
   |zero=>exact fun i v=>.inl ⟨v,rfl⟩
   |succ n a7=>
    intro i v;obtain⟨x,S,aB,aa,ae⟩:=ji (t:=a) (e:=bw (bg.put e b8 ⟨.int .i64,(i:Int)⟩) ca v) h.1;simp only[bq,kb aa]
    cases hx:x.b0 m with
    |true=>
     rw[nM hx];exact a7 (i+1) _
    |false=>
     cases ay:x.c9 xid with
     |true=>
      rw[nN hx ay];exact .inl ⟨_,rfl⟩
     |false=>
      rw[ka hx ay];rw[hx,ay,Bool.false_or,Bool.false_or]at ae;exact .inr ⟨x,S,aB,rfl,ae⟩
  unfold run;rw[SK _ _ fun af e=>ji (t:=a) (e:=e) af]
  rcases key (cr (du.den M e)).toNat 0 (cg _ (dI e ca))with⟨bp,ax⟩|⟨x,S,aB,ax,hf⟩
  ·rw[ax];exact ji (t:=k) h.2
  ·rw[ax];exact⟨x,S,aB,rfl,hf⟩
 | .ep m xid ca a k,f,e,h=>by
  simp only[aD.fv,Bool.and_eq_true]at h
  have key: ∀(n:Nat) (v:b4 ca),(∃bp,c7 (fun(v:b4 ca)=>(a.fold M (bw e ca v) (eg m xid ca fun x S e=>some (x,S,e)) (.cN v):Step (Option mZ) (b4 ca))) n v= .inr bp)∨
   ∃x S aB,c7 (fun(v:b4 ca)=>(a.fold M (bw e ca v) (eg m xid ca fun x S e=>some (x,S,e)) (.cN v):Step (Option mZ) (b4 ca))) n v= .inl (some (x,S,aB))∧f x=true:=by
   intro n
   induction n with
   |zero=>exact fun v=>.inl ⟨v,rfl⟩
   |succ n a7=>
    intro v;simp only[c7];obtain⟨x,S,aB,aa,ae⟩:=ji (t:=a) (e:=bw e ca v) h.1;rw[kb aa]
    cases hx:x.b0 m with
    |true=>
     rw[nM hx];exact a7 _
    |false=>
     cases ay:x.c9 xid with
     |true=>
      rw[nN hx ay];exact .inl ⟨_,rfl⟩
     |false=>
      rw[ka hx ay];rw[hx,ay,Bool.false_or,Bool.false_or]at ae;exact .inr ⟨x,S,aB,rfl,ae⟩
  simp only[run,aD.fold]
  rcases key dG (cg _ (dI e ca))with⟨bp,ax⟩|⟨x,S,aB,ax,hf⟩
  ·rw[ax];exact ji (t:=k) h.2
  ·rw[ax];exact⟨x,S,aB,rfl,hf⟩
 | .bad _,_,_,h=>by cases h
theorem p8{n:Nat}{a k:aD}{ps:List (Nat × a6 × ey)}{e aE:Env}{x:b7}{aZ:aq}(h:run M a e=some (x,aZ,aE))(hx:x.b0 n=true){X:Type}(K:b7→aq→Env→X)(d:X):
 (aD.dE n a ps k).fold M e K d=k.fold M (fT e (fun r p=>⟨r,(p.dp aZ).get aE r⟩) ps) K d:=by
 simp only[aD.fold]
 cases a.jv n with
 |true=>simp only[kb h,cond_true]
 |false=>simp only[kb h,hx,cond_true,cond_false]
theorem m0{n:Nat}{a k:aD}{ps:List (Nat × a6 × ey)}{e aE:Env}{x:b7}{aZ:aq}(h:run M a e=some (x,aZ,aE))(hx:x.b0 n=false){X:Type}(K:b7→aq→Env→X)(d:X):
 (aD.dE n a ps k).fold M e K d=K x aZ aE:=by
 simp only[aD.fold]
 cases af:a.jv n with
 |true=>
  obtain⟨iP,dn,aB,aa,ae⟩:=ji (M:=M) (t:=a) (e:=e) af;rw[aa]at h;cases h;rw[hx]at ae;cases ae
 |false=>simp only[kb h,hx,cond_false]
theorem sG{n:Nat}{a k:aD}{ps:List (Nat × a6 × ey)}{e:Env}(h:run M a e=none){X:Type}(K:b7→aq→Env→X)(d:X):
 (aD.dE n a ps k).fold M e K d=d:=by
 simp only[aD.fold]
 cases af:a.jv n with
 |true=>
  obtain⟨iP,dn,aB,aa,ae⟩:=ji (M:=M) (t:=a) (e:=e) af;rw[aa]at h;cases h
 |false=>simp only[z1 h,cond_false]
theorem SL{n:Nat}{a k:aD}{ps:List (Nat × a6 × ey)}{e aE:Env}{x:b7}{aZ:aq}(ai:(aD.dE n a ps k).safe M e)(h:run M a e=some (x,aZ,aE))(hx:x.b0 n=true):
 k.safe M (fT e (fun r p=>⟨r,(p.dp aZ).get aE r⟩) ps):=by
 have aa:=ai.2 (by rw[kb h];exact hx)
 have ae:(fun(r:a6) (p:ey)=>(⟨r,bif a.jv n
  then a.fold M e (fun _ S aB=>(p.dp S).get aB r) r.fz
  else a.fold M e (fun x S aB=>bif x.b0 n then(p.dp S).get aB r else r.fz) r.fz⟩:aI))=fun r p=>⟨r,(p.dp aZ).get aE r⟩:=by
  funext r p
  simp only[kb h,hx]
  cases a.jv n<;>rfl
 rw[ae]at aa
 exact aa
theorem wY{m xid b8:Nat}{du:bQ}{ca:List hz}{a k:aD}{e:Env}{X:Type}(K:b7→aq→Env→X)(d:X):
 (aD.dW m xid du b8 ca a k).fold M e K d=Sum.elim (fun r=>r) (fun v=>k.fold M (bw e ca v) K d) (bq (fun i (v:b4 ca)=>a.fold M (bw (bg.put e b8 ⟨.int .i64,(i:Int)⟩) ca v) (eg m xid ca K) (.cN v)) 0 (cr (du.den M e)).toNat (cg _ (dI e ca))):=SK K d fun af _=>ji af
end
end Go.aO
namespace Go.aO
open Go
def aD.rel:aD→(b7→b7)→aD
 | .cR x S,f=>.cR (f x) S
 | .lt i x t,f=>.lt i x (t.rel f)
 | .eH n t,f=>.eH n (t.rel f)
 | .it c a b,f=>.it c (a.rel f) (b.rel f)
 | .dE n a ps k,f=>.dE n (a.rel fun x=>bif x.b0 n then x else f x) ps (k.rel f)
 | .dW m xid du b8 ca a k,f=>.dW m xid du b8 ca (a.rel fun x=>bif x.b0 m||x.c9 xid then x else f x) (k.rel f)
 | .ep m xid ca a k,f=>.ep m xid ca (a.rel fun x=>bif x.b0 m||x.c9 xid then x else f x) (k.rel f)
 | .bad n,_=>.bad n
def aD.iE:aD→(b7→b7)→Prop
 | .cR _ _,_=>True
 | .lt _ _ t,f=>t.iE f
 | .eH _ t,f=>t.iE f
 | .it _ a b,f=>a.iE f∧b.iE f
 | .dE n a _ k,f=>(∀x,x.b0 n=false→(f x).b0 n=false)∧(a.iE fun x=>bif x.b0 n then x else f x)∧k.iE f
 | .dW m xid _ _ _ a k,f=>(∀x,x.b0 m=false→x.c9 xid=false→(f x).b0 m=false∧(f x).c9 xid=false)∧(a.iE fun x=>bif x.b0 m||x.c9 xid then x else f x)∧k.iE f
 | .ep m xid _ a k,f=>(∀x,x.b0 m=false→x.c9 xid=false→(f x).b0 m=false∧(f x).c9 xid=false)∧(a.iE fun x=>bif x.b0 m||x.c9 xid then x else f x)∧k.iE f
 | .bad _,_=>True
section
variable {M:List aV}
theorem DQ{X:Type}{m xid:Nat}{ca:List hz}{K:b7→aq→Env→X}{f:b7→b7}(h: ∀x,x.b0 m=false→x.c9 xid=false→(f x).b0 m=false∧(f x).c9 xid=false)(x:b7)(S:aq)(e:Env):
 eg m xid ca K (bif x.b0 m||x.c9 xid then x else f x) S e=eg m xid ca (fun x S e=>K (f x) S e) x S e:=by
 cases hx:x.b0 m with
 |true=>rw[Bool.true_or,cond_true,nM hx,nM hx]
 |false=>
  cases ay:x.c9 xid with
  |true=>rw[Bool.false_or,cond_true,nN hx ay,nN hx ay]
  |false=>
   obtain⟨aa,ae⟩:=h x hx ay;rw[Bool.false_or,cond_false,ka hx ay,ka aa ae]
theorem Lh: ∀{t:aD} {f g:b7→Bool},(∀x,f x=g x)→t.fv f=t.fv g:=fun {t f g} h=>by
 have:f=g:=funext h
 rw[this]
theorem oW: ∀{t:aD} {f:b7→b7} {g:b7→Bool},t.iE f→(t.rel f).fv g=t.fv fun x=>g (f x)
 | .cR _ _,_,_,_=>rfl
 | .lt _ _ t,_,_,h=>oW (t:=t) h
 | .eH _ t,_,_,h=>oW (t:=t) h
 | .it _ a b,f,g,h=>by simp only[aD.rel,aD.fv,oW (t:=a) h.1,oW (t:=b) h.2]
 | .dE n a ps k,f,g,h=>by
  simp only[aD.rel,aD.fv,oW (t:=a) h.2.1,oW (t:=k) h.2.2]
  congr 1
  refine Lh fun x=>?_
  cases hx:x.b0 n with
  |true=>simp[hx]
  |false=>simp[h.1 x hx]
 | .dW m xid du b8 ca a k,f,g,h=>by
  simp only[aD.rel,aD.fv,oW (t:=a) h.2.1,oW (t:=k) h.2.2]
  congr 1
  refine Lh fun x=>?_
  cases hx:x.b0 m with
  |true=>simp[hx]
  |false=>
   cases ay:x.c9 xid with
   |true=>simp[ay]
   |false=>simp[(h.1 x hx ay).1,(h.1 x hx ay).2]
 | .ep m xid ca a k,f,g,h=>by
  simp only[aD.rel,aD.fv,oW (t:=a) h.2.1,oW (t:=k) h.2.2]
  congr 1
  refine Lh fun x=>?_
  cases hx:x.b0 m with
  |true=>simp[hx]
  |false=>
   cases ay:x.c9 xid with
   |true=>simp[ay]
   |false=>simp[(h.1 x hx ay).1,(h.1 x hx ay).2]
 | .bad _,_,_,_=>rfl
theorem mj: ∀{t:aD} {f:b7→b7},t.iE f→∀{X:Type} (e:Env) (K:b7→aq→Env→X) (d:X),(t.rel f).fold M e K d=t.fold M e (fun x S aB=>K (f x) S aB) d
 | .cR _ _,_,_,_,_,_,_=>rfl
 | .lt _ _ t,_,h,_,_,K,d=>mj (t:=t) h _ K d
 | .eH _ t,_,h,_,_,K,d=>mj (t:=t) h _ K d
 | .it c a b,f,h,_,e,K,d=>by
  simp only[aD.rel,aD.fold,mj (t:=a) h.1,mj (t:=b) h.2]
 | .dE n a ps k,f,h,_,e,K,d=>by
  have ag:run M (a.rel fun x=>bif x.b0 n then x else f x) e=(run M a e).map fun l=>(bif l.1.b0 n then l.1 else f l.1,l.2):=by
   unfold run;rw[mj (t:=a) h.2.1];rw[fold_map a (fun o:Option mZ=>o.map fun l=>(bif l.1.b0 n then l.1 else f l.1,l.2))]
   rfl
  show(aD.dE n (a.rel fun x=>bif x.b0 n then x else f x) ps (k.rel f)).fold M e K d=_
  cases cy:run M a e with
  |none=>rw[sG (by rw[ag,cy];rfl),sG cy]
  |some l=>
   obtain⟨x,aZ,aE⟩:=l
   have aa:run M (a.rel fun x=>bif x.b0 n then x else f x) e=some (bif x.b0 n then x else f x,aZ,aE):=by rw[ag,cy];rfl
   cases hx:x.b0 n with
   |true=>
    rw[hx,cond_true]at aa;rw[p8 aa hx,p8 cy hx];exact mj (t:=k) h.2.2 _ K d
   |false=>
    rw[hx,cond_false]at aa;rw[m0 aa (h.1 x hx),m0 cy hx]
 | .dW m xid du b8 ca a k,f,h,X,e,K,d=>by
  show(aD.dW m xid du b8 ca (a.rel fun x=>bif x.b0 m||x.c9 xid then x else f x) (k.rel f)).fold M e K d=_
  rw[wY,wY]
  have:(fun(i:Nat) (v:b4 ca)=>(a.rel fun x=>bif x.b0 m||x.c9 xid then x else f x).fold M (bw (bg.put e b8 ⟨.int .i64,(i:Int)⟩) ca v) (eg m xid ca K) (.cN v))=fun(i:Nat) (v:b4 ca)=>a.fold M (bw (bg.put e b8 ⟨.int .i64,(i:Int)⟩) ca v) (eg m xid ca fun x S aB=>K (f x) S aB) (.cN v):=by
   funext i v
   rw[mj (t:=a) h.2.1];simp only[DQ h.1]
  rw[this];generalize bq _ _ _ _=L
  cases L with
  |inl r=>rfl
  |inr v=>exact mj (t:=k) h.2.2 _ K d
 | .ep m xid ca a k,f,h,X,e,K,d=>by
  simp only[aD.rel,aD.fold]
  have:(fun(v:b4 ca)=>(a.rel fun x=>bif x.b0 m||x.c9 xid then x else f x).fold M (bw e ca v) (eg m xid ca K) (.cN v))=fun(v:b4 ca)=>a.fold M (bw e ca v) (eg m xid ca fun x S aB=>K (f x) S aB) (.cN v):=by
   funext v
   rw[mj (t:=a) h.2.1];simp only[DQ h.1]
  rw[this];generalize c7 _ _ _=L
  cases L with
  |inl r=>rfl
  |inr v=>exact mj (t:=k) h.2.2 _ K d
 | .bad _,_,_,_,_,_,_=>rfl
theorem vW{t:aD}{f:b7→b7}(h:t.iE f)(e:Env):run M (t.rel f) e=(run M t e).map fun l=>(f l.1,l.2):=by
 unfold run
 rw[mj h,fold_map t (fun o:Option mZ=>o.map fun l=>(f l.1,l.2))]
 rfl
theorem kN: ∀{t:aD} {f:b7→b7},t.iE f→∀{e:Env},(t.rel f).safe M e↔t.safe M e
 | .cR _ _,_,_,_=>Iff.rfl
 | .lt _ _ t,_,h,_=>kN (t:=t) h
 | .eH _ t,_,h,_=>by simp only[aD.rel,aD.safe,kN (t:=t) h]
 | .it c a b,f,h,e=>by simp only[aD.rel,aD.safe,kN (t:=a) h.1,kN (t:=b) h.2]
 | .dE n a ps k,f,h,e=>by
  have af: ∀x,(bif b7.b0 n x then x else f x).b0 n=x.b0 n:=fun x=>by
   cases hx:x.b0 n with
   |true=>exact hx
   |false=>exact h.1 x hx
  simp only[aD.rel,aD.safe,kN (t:=a) h.2.1,kN (t:=k) h.2.2,aD.jv,oW h.2.1,mj h.2.1,af]
 | .dW m xid du b8 ca a k,f,h,e=>by
  simp only[aD.rel,aD.safe,kN (t:=a) h.2.1,kN (t:=k) h.2.2,mj h.2.1,DQ h.1]
 | .ep m xid ca a k,f,h,e=>by
  simp only[aD.rel,aD.safe,kN (t:=a) h.2.1,kN (t:=k) h.2.2,mj h.2.1,DQ h.1]
 | .bad _,_,_,_=>Iff.rfl
end
def aD.lvl:aD→Nat
 | .lt _ _ t=>t.lvl
 | .eH _ t=>t.lvl
 | .it _ a b=>Nat.max a.lvl b.lvl
 | .dE n a _ k=>Nat.max n (Nat.max a.lvl k.lvl)
 | .dW m _ _ _ _ a k=>Nat.max m (Nat.max a.lvl k.lvl)
 | .ep m _ _ a k=>Nat.max m (Nat.max a.lvl k.lvl)
 |_=>0
def fM(n:Nat):b7→b7
 | .cp=>.k0 n
 |x=>x
def oX(i:Nat):b7→b7
 | .ext m=>match Nat.beq m i with
  |true=>.cp
  |false=>.ext m
 |x=>x
theorem zez(i n:Nat)(x:b7)(h:x.b0 n=false):(oX i x).b0 n=false:=by
 unfold oX
 split
 ·split
  ·rfl
  ·exact h
 ·exact h
theorem zeA(i n:Nat)(x:b7)(h:x.c9 n=false):(oX i x).c9 n=false:=by
 unfold oX
 split
 ·split
  ·rfl
  ·exact h
 ·exact h
theorem zeB(i n:Nat)(hn:i≠n)(x:b7)(h:x.b0 n=false):(fM i x).b0 n=false:=by
 unfold fM
 split
 ·show Nat.beq i n=false
  rw[p6];exact decide_eq_false hn
 ·exact h
theorem zeC(i n:Nat)(x:b7)(h:x.c9 n=false):(fM i x).c9 n=false:=by
 unfold fM
 split
 ·rfl
 ·exact h
theorem m1: ∀{t:aD} {f:b7→b7} (N:Nat),t.lvl<N→(∀n,n<N→∀x,x.b0 n=false→(f x).b0 n=false)→(∀n x,x.c9 n=false→(f x).c9 n=false)→t.iE f
 | .cR _ _,_,_,_,_,_=>trivial
 | .lt _ _ t,_,N,ar,aa,ae=>m1 (t:=t) N ar aa ae
 | .eH _ t,_,N,ar,aa,ae=>m1 (t:=t) N ar aa ae
 | .it _ a b,f,N,ar,aa,ae=>by
  have ar:Nat.max a.lvl b.lvl<N:=ar
  have g1:a.lvl≤Nat.max a.lvl b.lvl:=Nat.le_max_left _ _
  have g2:b.lvl≤Nat.max a.lvl b.lvl:=Nat.le_max_right _ _
  exact⟨m1 (t:=a) N (by omega) aa ae,m1 (t:=b) N (by omega) aa ae⟩
 | .dE n a _ k,f,N,ar,aa,ae=>by
  have ar:Nat.max n (Nat.max a.lvl k.lvl)<N:=ar
  have g0:n≤Nat.max n (Nat.max a.lvl k.lvl):=Nat.le_max_left _ _
  have g3:Nat.max a.lvl k.lvl≤Nat.max n (Nat.max a.lvl k.lvl):=Nat.le_max_right _ _
  have g1:a.lvl≤Nat.max a.lvl k.lvl:=Nat.le_max_left _ _
  have g2:k.lvl≤Nat.max a.lvl k.lvl:=Nat.le_max_right _ _
  refine⟨aa n (by omega),m1 (t:=a) N (by omega) (fun p ak x hx=>?_) (fun p x hx=>?_),m1 (t:=k) N (by omega) aa ae⟩
  ·cases x.b0 n with
   |true=>exact hx
   |false=>exact aa p ak x hx
  ·cases x.b0 n with
   |true=>exact hx
   |false=>exact ae p x hx
 | .dW m xid _ _ _ a k,f,N,ar,aa,ae=>by
  have ar:Nat.max m (Nat.max a.lvl k.lvl)<N:=ar
  have g0:m≤Nat.max m (Nat.max a.lvl k.lvl):=Nat.le_max_left _ _
  have g3:Nat.max a.lvl k.lvl≤Nat.max m (Nat.max a.lvl k.lvl):=Nat.le_max_right _ _
  have g1:a.lvl≤Nat.max a.lvl k.lvl:=Nat.le_max_left _ _
  have g2:k.lvl≤Nat.max a.lvl k.lvl:=Nat.le_max_right _ _
  refine⟨fun x hx ay=>⟨aa m (by omega) x hx,ae xid x ay⟩,m1 (t:=a) N (by omega) (fun p ak x hx=>?_) (fun p x hx=>?_),m1 (t:=k) N (by omega) aa ae⟩
  ·cases x.b0 m||x.c9 xid with
   |true=>exact hx
   |false=>exact aa p ak x hx
  ·cases x.b0 m||x.c9 xid with
   |true=>exact hx
   |false=>exact ae p x hx
 | .ep m xid _ a k,f,N,ar,aa,ae=>by
  have ar:Nat.max m (Nat.max a.lvl k.lvl)<N:=ar
  have g0:m≤Nat.max m (Nat.max a.lvl k.lvl):=Nat.le_max_left _ _
  have g3:Nat.max a.lvl k.lvl≤Nat.max m (Nat.max a.lvl k.lvl):=Nat.le_max_right _ _
  have g1:a.lvl≤Nat.max a.lvl k.lvl:=Nat.le_max_left _ _
  have g2:k.lvl≤Nat.max a.lvl k.lvl:=Nat.le_max_right _ _
  refine⟨fun x hx ay=>⟨aa m (by omega) x hx,ae xid x ay⟩,m1 (t:=a) N (by omega) (fun p ak x hx=>?_) (fun p x hx=>?_),m1 (t:=k) N (by omega) aa ae⟩
  ·cases x.b0 m||x.c9 xid with
   |true=>exact hx
   |false=>exact aa p ak x hx
  ·cases x.b0 m||x.c9 xid with
   |true=>exact hx
   |false=>exact ae p x hx
 | .bad _,_,_,_,_,_=>trivial
theorem zeD(t:aD)(i:Nat):t.iE (oX i):=m1 (t.lvl+1) (Nat.lt_succ_self _) (fun n _ x=>zez i n x) (fun n x=>zeA i n x)
theorem Li{t:aD}{n:Nat}(h:t.lvl<n):t.iE (fM n):=m1 n h (fun m hm x=>zeB n m (by omega) x) (fun m x=>zeC n m x)
def oY(o:Option (b7→Bool))(x:b7):Bool:=
 match o with
 |none=>true
 |some f=>f x
def aD.eL(f:aq→aD):aD→Option (b7→Bool)→aD
 | .cR .cp S,none=>f S
 | .cR .cp S,some o=>match(f S).fv o with
  |true=>f S
  |false=>.bad 9
 | .cR x S,_=>.cR x S
 | .lt i x t,o=>.lt i x (t.eL f o)
 | .eH n t,o=>.eH n (t.eL f o)
 | .it c a b,o=>.it c (a.eL f o) (b.eL f o)
 | .dE n a ps k,o=>.dE n (a.eL f (some fun x=>!(x.b0 n)&&oY o x)) ps (k.eL f o)
 | .dW m xid du b8 ca a k,o=>.dW m xid du b8 ca (a.eL f (some fun x=>!(x.b0 m)&&(!(x.c9 xid)&&oY o x))) (k.eL f o)
 | .ep m xid ca a k,o=>.ep m xid ca (a.eL f (some fun x=>!(x.b0 m)&&(!(x.c9 xid)&&oY o x))) (k.eL f o)
 | .bad n,_=>.bad n
end Go.aO
namespace Go.aO
open Go
theorem BE{R A:Type}{b c:Nat→A→Step R A}(I:Nat→A→Prop)(n:Nat)(h: ∀i v,i<n→I i v→c i v=b i v∧∀bp,b i v= .bn bp→I (i+1) bp): ∀(m k:Nat) (a:A),k+m=n→I k a→bq c k m a=bq b k m a
 |0,_,_,_,_=>rfl
 |m+1,k,a,hn,hi=>by
  obtain⟨aa,ae⟩:=h k a (by omega) hi
  simp only[bq,aa]
  cases ad:b k a with
  |ret r=>rfl
  |cN a=>rfl
  |bn v=>exact BE I n h m (k+1) v (by omega) (ae v ad)
theorem Lj{R A:Type}{b c:A→Step R A}(I:A→Prop)(h: ∀v,I v→c v=b v∧∀bp,b v= .bn bp→I bp): ∀(m:Nat) (a:A),I a→c7 c m a=c7 b m a∧(j7 c m a↔j7 b m a)
 |0,_,_=>⟨rfl,Iff.rfl⟩
 |m+1,a,hi=>by
  obtain⟨aa,ae⟩:=h a hi;simp only[c7,j7,aa]
  cases ad:b a with
  |ret r=>exact⟨rfl,Iff.rfl⟩
  |cN a=>exact⟨rfl,Iff.rfl⟩
  |bn v=>exact Lj I h m v (ae v ad)
def iF(M:List aV)(f:aq→aD)(o:Option mZ):Option mZ:=
 match o with
 |some (.cp,S,e)=>run M (f S) e
 |o=>o
section
variable {M:List aV} {f:aq→aD}
theorem z6{x:b7}{S:aq}{e:Env}(h:x≠ .cp):iF M f (some (x,S,e))=some (x,S,e):=by
 unfold iF
 split
 ·rename_i hx;cases hx;exact absurd rfl h
 ·rfl
theorem iX(m xid:Nat)(ca:List hz)(a:aD)(e:Env)(v:b4 ca):a.fold M e (eg m xid ca fun _ _ _=>()) (.cN v)=iW (fun _=>()) (dg M m xid ca a e v):=by
 unfold dg
 split
 ·rename_i x S aB h
  rw[kb h,wW]
 ·rename_i h
  rw[z1 h];rfl
theorem sH{R A X:Type}{f:R→X}{s:Step R A}{v:A}(h:iW f s= .bn v):s= .bn v:=by
 cases s<;>simp_all[iW]
theorem SM{m xid:Nat}{ca:List hz}{a bf:aD}{e:Env}{v:b4 ca}(h:run M bf e=iF M f (run M a e))(ar: ∀S aB,run M a e=some (.cp,S,aB)→∃x aZ aE,run M (f S) aB=some (x,aZ,aE)∧x.b0 m=false∧x.c9 xid=false):
 dg M m xid ca bf e v=iW (iF M f) (dg M m xid ca a e v):=by
 unfold dg
 rw[h]
 cases ag:run M a e with
 |none=>rfl
 |some l=>
  obtain⟨x,S,aB⟩:=l
  cases x with
  |cp=>
   obtain⟨x,aZ,aE,aa,ae,au⟩:=ar S aB ag;simp only[iF,aa];rw[ka ae au,ka (x:=.cp) rfl rfl];simp only[iW,iF,aa]
  |ext n=>
   simp only[iF];rw[wW]
   cases hx:b7.c9 xid (.ext n)with
   |true=>rw[nN rfl hx,nN rfl hx]
   |false=>rw[ka rfl hx,ka rfl hx];rfl
  |ret=>
   simp only[iF];rw[wW,ka rfl rfl,ka rfl rfl];rfl
  |k0 n=>
   simp only[iF];rw[wW]
   cases hx:b7.b0 m (.k0 n)with
   |true=>rw[nM hx,nM hx]
   |false=>rw[ka hx rfl,ka hx rfl];rfl
theorem m2: ∀{t:aD} {p q:b7→Bool},t.fv p=true→(∀x,p x=true→q x=true)→t.fv q=true
 | .cR x _,_,_,h,aN=>aN x h
 | .lt _ _ t,_,_,h,aN=>m2 (t:=t) h aN
 | .eH _ t,_,_,h,aN=>m2 (t:=t) h aN
 | .it _ a b,_,_,h,aN=>by
  simp only[aD.fv,Bool.and_eq_true]at h⊢;exact⟨m2 h.1 aN,m2 h.2 aN⟩
 | .dE n a _ k,_,_,h,aN=>by
  simp only[aD.fv,Bool.and_eq_true]at h⊢;refine⟨m2 h.1 fun x hx=>?_,m2 h.2 aN⟩
  simp only[Bool.or_eq_true]at hx⊢;exact hx.imp id (aN x)
 | .dW m xid _ _ _ a k,_,_,h,aN=>by
  simp only[aD.fv,Bool.and_eq_true]at h⊢;refine⟨m2 h.1 fun x hx=>?_,m2 h.2 aN⟩
  simp only[Bool.or_eq_true]at hx⊢;exact hx.imp id (Or.imp id (aN x))
 | .ep m xid _ a k,_,_,h,aN=>by
  simp only[aD.fv,Bool.and_eq_true]at h⊢;refine⟨m2 h.1 fun x hx=>?_,m2 h.2 aN⟩
  simp only[Bool.or_eq_true]at hx⊢;exact hx.imp id (Or.imp id (aN x))
 | .bad _,_,_,h,_=>by cases h
theorem jh: ∀(t:aD) (o:Option (b7→Bool)) {e:Env},(t.eL f o).safe M e→
    t.safe M e∧run M (t.eL f o) e=iF M f (run M t e)∧∀S aB,run M t e=some (.cp,S,aB)→(f S).safe M aB∧∀p,o=some p→(f S).fv p=true
  | .cR x S,o,e,h=>by
    cases x with
    |cp=>
      cases o with
      |none=>exact⟨trivial,rfl,fun dn aB ag=>by cases ag;exact⟨h,fun _ ak=>by cases ak⟩⟩
      |some p=>
        simp only[aD.eL]at h
        split at h
        · rename_i ar
          have ah:(aD.cR .cp S).eL f (some p)=f S:=by simp only[aD.eL,ar]
          rw[ah];exact⟨trivial,rfl,fun dn aB ag=>by cases ag;exact⟨h,fun _ ak=>by cases ak;exact ar⟩⟩
        · exact h.elim
    |_=>exact⟨trivial,rfl,fun dn aB ag=>by cases ag⟩
  | .lt i x t,o,_,h=>jh t o (e:=bg.put _ i _) h
  | .eH n t,o,e,h=>by
    obtain⟨aa,ae,au⟩:=jh t o h.2;exact⟨⟨h.1,aa⟩,ae,au⟩
  | .it c a b,o,e,h=>by
    have ba:=fun hc=>jh a o (h.1 hc)
    have ad:=fun hc=>jh b o (h.2 hc)
    refine⟨⟨fun hc=>(ba hc).1,fun hc=>(ad hc).1⟩,?_⟩
    simp only[run,aD.eL,aD.fold]
    cases hc:c.aC e .bool with
    |true=>exact(ba hc).2
    |false=>exact(ad hc).2
  | .dE n a ps k,o,e,h=>by
    obtain⟨cf,a2,a3⟩:=jh a _ h.1
    have ai:(aD.dE n a ps k).safe M e∧run M ((aD.dE n a ps k).eL f o) e=iF M f (run M (aD.dE n a ps k) e)∧∀S aB,run M (aD.dE n a ps k) e=some (.cp,S,aB)→(f S).safe M aB∧∀p,o=some p→(f S).fv p=true:=by
      show _∧run M (.dE n (a.eL f (some fun x=>!(x.b0 n)&&oY o x)) ps (k.eL f o)) e=_∧_
      cases ag:run M a e with
      |none=>
        rw[ag]at a2
        have a2:run M _ e=none:=a2
        refine⟨⟨cf,fun af=>by rw[z1 ag]at af;cases af⟩,?_,fun S aB af=>by unfold run at af;rw[sG ag]at af;cases af⟩
        unfold run;rw[sG a2,sG ag];rfl
      |some l=>
        obtain⟨x,aZ,aE⟩:=l
        cases hx:x.b0 n with
        |true=>
          have cb:x≠ .cp:=fun e=>by rw[e]at hx;cases hx
          rw[ag,z6 cb]at a2
          have aj:=SL h a2 hx
          obtain⟨eP,fx,iv⟩:=jh k o aj;refine⟨⟨cf,fun _=>?_⟩,?_,fun S aB af=>?_⟩
          · have:(fun(r:a6) (p:ey)=>(⟨r,bif a.jv n
      then a.fold M e (fun _ S aB=>(p.dp S).get aB r) r.fz
      else a.fold M e (fun x S aB=>bif x.b0 n then(p.dp S).get aB r else r.fz) r.fz⟩:aI))=fun r p=>⟨r,(p.dp aZ).get aE r⟩:=by
              funext r p
              simp only[kb ag,hx]
              cases a.jv n<;>rfl
            rw[this];exact eP
          · unfold run
            rw[p8 a2 hx,p8 ag hx];exact fx
          · unfold run at af
            rw[p8 ag hx]at af;exact iv S aB af
        |false=>
          have SN:(aD.dE n a ps k).safe M e:=⟨cf,fun af=>by rw[kb ag,hx]at af;cases af⟩
          by_cases cb:x= .cp
          · subst cb
            obtain⟨f1,f2⟩:=a3 aZ aE ag
            have f2:=f2 _ rfl
            obtain⟨y,dP,bo,g1,g2⟩:=ji (M:=M) (e:=aE) f2;simp only[Bool.and_eq_true,Bool.not_eq_true']at g2;rw[ag]at a2
            have a2:run M _ e=run M (f aZ) aE:=a2
            rw[g1]at a2;refine⟨SN,?_,fun S aB af=>?_⟩
            · have aa:run M (aD.dE n a ps k) e=some (.cp,aZ,aE):=by unfold run;rw[m0 ag hx]
              rw[aa];show _=run M (f aZ) aE;rw[g1];unfold run;rw[m0 a2 g2.1]
            · unfold run at af
              rw[m0 ag hx]at af;cases af;refine⟨f1,fun p ak=>?_⟩
              subst ak;exact m2 f2 fun x hx=>by simp only[Bool.and_eq_true]at hx;exact hx.2
          · rw[ag,z6 cb]at a2
            refine⟨SN,?_,fun S aB af=>?_⟩
            · unfold run
              rw[m0 a2 hx,m0 ag hx,z6 cb]
            · unfold run at af
              rw[m0 ag hx]at af;cases af;exact absurd rfl cb
    exact ai
  | .dW m xid du b8 ca a k,o,e,h=>by
    obtain⟨⟨I,i0,b2⟩,aj⟩:=h
    have key: ∀(i:Nat) (v:b4 ca),i<(cr (du.den M e)).toNat→I i v→a.safe M (bw (bg.put e b8 ⟨.int .i64,(i:Int)⟩) ca v)∧
        dg M m xid ca (a.eL f (some fun x=>!(x.b0 m)&&(!(x.c9 xid)&&oY o x))) (bw (bg.put e b8 ⟨.int .i64,(i:Int)⟩) ca v) v=iW (iF M f) (dg M m xid ca a (bw (bg.put e b8 ⟨.int .i64,(i:Int)⟩) ca v) v)∧
        (∀bp,dg M m xid ca a (bw (bg.put e b8 ⟨.int .i64,(i:Int)⟩) ca v) v= .bn bp→I (i+1) bp)∧
        ∀S aB,dg M m xid ca a (bw (bg.put e b8 ⟨.int .i64,(i:Int)⟩) ca v) v= .ret (some (.cp,S,aB))→(f S).safe M aB∧∀p,o=some p→(f S).fv p=true:=by
      intro i v hi ax;obtain⟨s1,s2⟩:=b2 i v hi ax;obtain⟨cf,a2,a3⟩:=jh a _ s1
      have ah:=SM (m:=m) (xid:=xid) (ca:=ca) (v:=v) a2 fun S aB ag=>by
        obtain⟨y,dP,bo,g1,g2⟩:=ji (M:=M) (e:=aB) ((a3 S aB ag).2 _ rfl);simp only[Bool.and_eq_true,Bool.not_eq_true']at g2;exact⟨y,dP,bo,g1,g2.1,g2.2.1⟩
      refine⟨cf,ah,fun bp iU=>s2 bp ?_,fun S aB ag=>?_⟩
      · rw[iX,ah,iU]
        rfl
      · unfold dg at ag
        cases oZ:run M a (bw (bg.put e b8 ⟨.int .i64,(i:Int)⟩) ca v)with
        |none=>rw[oZ]at ag;cases ag
        |some l=>
          obtain⟨x,dn,zT⟩:=l;rw[oZ]at ag;simp only at ag
          cases hx:x.b0 m with
          |true=>rw[nM hx]at ag;cases ag
          |false=>
            cases ay:x.c9 xid with
            |true=>rw[nN hx ay]at ag;cases ag
            |false=>
              rw[ka hx ay]at ag;cases ag;obtain⟨f1,f2⟩:=a3 S aB oZ;refine⟨f1,fun p ak=>?_⟩
              subst ak;exact m2 (f2 _ rfl) fun x hx=>by simp only[Bool.and_eq_true]at hx;exact hx.2.2
    have wZ:bq (fun i (v:b4 ca)=>(a.eL f (some fun x=>!(x.b0 m)&&(!(x.c9 xid)&&oY o x))).fold M (bw (bg.put e b8 ⟨.int .i64,(i:Int)⟩) ca v) (eg m xid ca fun _ _ _=>()) (.cN v)) 0 (cr (du.den M e)).toNat (cg _ (dI e ca))=
        bq (fun i (v:b4 ca)=>a.fold M (bw (bg.put e b8 ⟨.int .i64,(i:Int)⟩) ca v) (eg m xid ca fun _ _ _=>()) (.cN v)) 0 (cr (du.den M e)).toNat (cg _ (dI e ca)):=
      BE I _ (fun i v hi ax=>by
        obtain⟨_,g2,g3,_⟩:=key i v hi ax;refine⟨?_,fun bp iU=>g3 bp ?_⟩
        · rw[iX,iX,g2]
          cases dg M m xid ca a (bw (bg.put e b8 ⟨.int .i64,(i:Int)⟩) ca v) v<;>rfl
        · rw[iX]at iU
          exact sH iU) _ 0 _ (by omega) i0
    rw[wZ]at aj
    have fD:bq (fun i (v:b4 ca)=>(a.eL f (some fun x=>!(x.b0 m)&&(!(x.c9 xid)&&oY o x))).fold M (bw (bg.put e b8 ⟨.int .i64,(i:Int)⟩) ca v) (eg m xid ca fun x S e=>some (x,S,e)) (.cN v)) 0 (cr (du.den M e)).toNat (cg _ (dI e ca))=
        bq (fun i (v:b4 ca)=>iW (iF M f) (dg M m xid ca a (bw (bg.put e b8 ⟨.int .i64,(i:Int)⟩) ca v) v)) 0 (cr (du.den M e)).toNat (cg _ (dI e ca)):=
      BE I _ (fun i v hi ax=>by
        obtain⟨_,g2,g3,_⟩:=key i v hi ax;refine⟨?_,fun bp iU=>g3 bp (sH iU)⟩
        rw[wX,g2]) _ 0 _ (by omega) i0
    have fS: ∀(n i:Nat) (v:b4 ca),i+n=(cr (du.den M e)).toNat→I i v→∀S aB,bq (fun i (v:b4 ca)=>dg M m xid ca a (bw (bg.put e b8 ⟨.int .i64,(i:Int)⟩) ca v) v) i n v= .inl (some (.cp,S,aB))→(f S).safe M aB∧∀p,o=some p→(f S).fv p=true:=by
      intro n
      induction n with
      |zero=>intro i v _ _ S aB h;cases h
      |succ n a7=>
        intro i v kH ax S aB h;obtain⟨_,_,g3,g4⟩:=key i v (by omega) ax
        simp only[bq]at h
        cases ag:dg M m xid ca a (bw (bg.put e b8 ⟨.int .i64,(i:Int)⟩) ca v) v with
        |ret r=>rw[ag]at h;cases h;exact g4 S aB ag
        |cN bp=>rw[ag]at h;cases h
        |bn bp=>rw[ag]at h;exact a7 (i+1) bp (by omega) (g3 bp ag) S aB h
    have cy:run M (.dW m xid du b8 ca a k) e=Sum.elim (fun r=>r) (fun v=>run M k (bw e ca v)) (bq (fun i (v:b4 ca)=>dg M m xid ca a (bw (bg.put e b8 ⟨.int .i64,(i:Int)⟩) ca v) v) 0 (cr (du.den M e)).toNat (cg _ (dI e ca))):=by
      unfold run;rw[wY];simp only[wX]
    have Lk:run M ((aD.dW m xid du b8 ca a k).eL f o) e=Sum.elim (fun r=>r) (fun v=>run M (k.eL f o) (bw e ca v)) (Sum.map (iF M f) id (bq (fun i (v:b4 ca)=>dg M m xid ca a (bw (bg.put e b8 ⟨.int .i64,(i:Int)⟩) ca v) v) 0 (cr (du.den M e)).toNat (cg _ (dI e ca)))):=by
      show aD.fold M (.dW m xid du b8 ca (a.eL f (some fun x=>!(x.b0 m)&&(!(x.c9 xid)&&oY o x))) (k.eL f o)) e _ none=_;rw[wY,fD,wU (iF M f) (fun _ _=>rfl)];rfl
    have eA: ∀v,bq (fun i (v:b4 ca)=>dg M m xid ca a (bw (bg.put e b8 ⟨.int .i64,(i:Int)⟩) ca v) v) 0 (cr (du.den M e)).toNat (cg _ (dI e ca))= .inr v→(k.eL f o).safe M (bw e ca v):=fun v ax=>by
      simp only[iX]at aj;rw[wU (fun _=>()) (fun _ _=>rfl),ax]at aj;exact aj
    refine⟨⟨⟨I,i0,fun i v hi ax=>?_⟩,?_⟩,?_,fun S aB ag=>?_⟩
    · obtain⟨g1,_,g3,_⟩:=key i v hi ax
      exact⟨g1,fun bp iU=>g3 bp (sH (by rw[iX]at iU;exact iU))⟩
    · simp only[iX]
      rw[wU (fun _=>()) (fun _ _=>rfl)]
      cases ax:bq (fun i (v:b4 ca)=>dg M m xid ca a (bw (bg.put e b8 ⟨.int .i64,(i:Int)⟩) ca v) v) 0 (cr (du.den M e)).toNat (cg _ (dI e ca))with
      |inl r=>trivial
      |inr v=>exact(jh k o (eA v ax)).1
    · rw[cy,Lk]
      cases ax:bq (fun i (v:b4 ca)=>dg M m xid ca a (bw (bg.put e b8 ⟨.int .i64,(i:Int)⟩) ca v) v) 0 (cr (du.den M e)).toNat (cg _ (dI e ca))with
      |inl r=>rfl
      |inr v=>exact(jh k o (eA v ax)).2.1
    · rw[cy]at ag
      cases ax:bq (fun i (v:b4 ca)=>dg M m xid ca a (bw (bg.put e b8 ⟨.int .i64,(i:Int)⟩) ca v) v) 0 (cr (du.den M e)).toNat (cg _ (dI e ca))with
      |inl r=>
        rw[ax]at ag
        have ag:r=some (.cp,S,aB):=ag
        subst ag;exact fS _ 0 _ (by omega) i0 S aB ax
      |inr v=>
        rw[ax]at ag;exact(jh k o (eA v ax)).2.2 S aB ag
  | .ep m xid ca a k,o,e,h=>by
    obtain⟨⟨I,i0,b2⟩,he,aj⟩:=h
    have key: ∀(v:b4 ca),I v→a.safe M (bw e ca v)∧
        dg M m xid ca (a.eL f (some fun x=>!(x.b0 m)&&(!(x.c9 xid)&&oY o x))) (bw e ca v) v=iW (iF M f) (dg M m xid ca a (bw e ca v) v)∧
        (∀bp,dg M m xid ca a (bw e ca v) v= .bn bp→I bp)∧
        ∀S aB,dg M m xid ca a (bw e ca v) v= .ret (some (.cp,S,aB))→(f S).safe M aB∧∀p,o=some p→(f S).fv p=true:=by
      intro v ax;obtain⟨s1,s2⟩:=b2 v ax;obtain⟨cf,a2,a3⟩:=jh a _ s1
      have ah:=SM (m:=m) (xid:=xid) (ca:=ca) (v:=v) a2 fun S aB ag=>by
        obtain⟨y,dP,bo,g1,g2⟩:=ji (M:=M) (e:=aB) ((a3 S aB ag).2 _ rfl);simp only[Bool.and_eq_true,Bool.not_eq_true']at g2;exact⟨y,dP,bo,g1,g2.1,g2.2.1⟩
      refine⟨cf,ah,fun bp iU=>s2 bp ?_,fun S aB ag=>?_⟩
      · rw[iX,ah,iU]
        rfl
      · unfold dg at ag
        cases oZ:run M a (bw e ca v)with
        |none=>rw[oZ]at ag;cases ag
        |some l=>
          obtain⟨x,dn,zT⟩:=l;rw[oZ]at ag;simp only at ag
          cases hx:x.b0 m with
          |true=>rw[nM hx]at ag;cases ag
          |false=>
            cases ay:x.c9 xid with
            |true=>rw[nN hx ay]at ag;cases ag
            |false=>
              rw[ka hx ay]at ag;cases ag;obtain⟨f1,f2⟩:=a3 S aB oZ;refine⟨f1,fun p ak=>?_⟩
              subst ak;exact m2 (f2 _ rfl) fun x hx=>by simp only[Bool.and_eq_true]at hx;exact hx.2.2
    have wZ:=Lj (b:=fun(v:b4 ca)=>(a.fold M (bw e ca v) (eg m xid ca fun _ _ _=>()) (.cN v):Step Unit (b4 ca))) (c:=fun(v:b4 ca)=>((a.eL f (some fun x=>!(x.b0 m)&&(!(x.c9 xid)&&oY o x))).fold M (bw e ca v) (eg m xid ca fun _ _ _=>()) (.cN v):Step Unit (b4 ca))) I (fun v ax=>by
        obtain⟨_,g2,g3,_⟩:=key v ax;refine⟨?_,fun bp iU=>g3 bp ?_⟩
        · rw[iX,iX,g2]
          cases dg M m xid ca a (bw e ca v) v<;>rfl
        · rw[iX]at iU
          exact sH iU) dG _ i0
    rw[wZ.1]at aj
    have he:=wZ.2.1 he
    have fD:=(Lj (b:=fun(v:b4 ca)=>iW (iF M f) (dg M m xid ca a (bw e ca v) v)) (c:=fun(v:b4 ca)=>(a.eL f (some fun x=>!(x.b0 m)&&(!(x.c9 xid)&&oY o x))).fold M (bw e ca v) (eg m xid ca fun x S e=>some (x,S,e)) (.cN v)) I (fun v ax=>by
        obtain⟨_,g2,g3,_⟩:=key v ax;refine⟨?_,fun bp iU=>g3 bp (sH iU)⟩
        rw[wX,g2]) dG _ i0).1
    have fS: ∀(n:Nat) (v:b4 ca),I v→∀S aB,c7 (fun(v:b4 ca)=>dg M m xid ca a (bw e ca v) v) n v= .inl (some (.cp,S,aB))→(f S).safe M aB∧∀p,o=some p→(f S).fv p=true:=by
      intro n
      induction n with
      |zero=>intro v _ S aB h;cases h
      |succ n a7=>
        intro v ax S aB h;obtain⟨_,_,g3,g4⟩:=key v ax;simp only[c7]at h
        cases ag:dg M m xid ca a (bw e ca v) v with
        |ret r=>rw[ag]at h;cases h;exact g4 S aB ag
        |cN bp=>rw[ag]at h;cases h
        |bn bp=>rw[ag]at h;exact a7 bp (g3 bp ag) S aB h
    have cy:run M (.ep m xid ca a k) e=Sum.elim (fun r=>r) (fun v=>run M k (bw e ca v)) (c7 (fun(v:b4 ca)=>dg M m xid ca a (bw e ca v) v) dG (cg _ (dI e ca))):=by
      simp only[run,aD.fold,wX]
    have Lk:run M ((aD.ep m xid ca a k).eL f o) e=Sum.elim (fun r=>r) (fun v=>run M (k.eL f o) (bw e ca v)) (Sum.map (iF M f) id (c7 (fun(v:b4 ca)=>dg M m xid ca a (bw e ca v) v) dG (cg _ (dI e ca)))):=by
      rw[←wV (iF M f) (c:=fun(v:b4 ca)=>iW (iF M f) (dg M m xid ca a (bw e ca v) v)) (fun _=>rfl),←fD];rfl
    have eA: ∀v,c7 (fun(v:b4 ca)=>dg M m xid ca a (bw e ca v) v) dG (cg _ (dI e ca))= .inr v→(k.eL f o).safe M (bw e ca v):=fun v ax=>by
      simp only[iX]at aj;rw[wV (fun _=>()) (fun _=>rfl),ax]at aj;exact aj
    refine⟨⟨⟨I,i0,fun v ax=>?_⟩,he,?_⟩,?_,fun S aB ag=>?_⟩
    · obtain⟨g1,_,g3,_⟩:=key v ax
      exact⟨g1,fun bp iU=>g3 bp (sH (by rw[iX]at iU;exact iU))⟩
    · simp only[iX]
      rw[wV (fun _=>()) (fun _=>rfl)]
      cases ax:c7 (fun(v:b4 ca)=>dg M m xid ca a (bw e ca v) v) dG (cg _ (dI e ca))with
      |inl r=>trivial
      |inr v=>exact(jh k o (eA v ax)).1
    · rw[cy,Lk]
      cases ax:c7 (fun(v:b4 ca)=>dg M m xid ca a (bw e ca v) v) dG (cg _ (dI e ca))with
      |inl r=>rfl
      |inr v=>exact(jh k o (eA v ax)).2.1
    · rw[cy]at ag
      cases ax:c7 (fun(v:b4 ca)=>dg M m xid ca a (bw e ca v) v) dG (cg _ (dI e ca))with
      |inl r=>
        rw[ax]at ag
        have ag:r=some (.cp,S,aB):=ag
        subst ag;exact fS _ _ i0 S aB ax
      |inr v=>
        rw[ax]at ag;exact(jh k o (eA v ax)).2.2 S aB ag
  | .bad _,_,_,h=>h.elim
end
end Go.aO
namespace Go.aO
open Go
theorem nO(G:bd)(e:Env)(l:bg ab): ∀(n i j:Nat),(j9 G e l i n)[j]? =if j<n then some (match l.get (i+j)with|some x=>x.den G e|none=>.top)else none
 |0,_,_=>by simp[j9]
 |n+1,i,0=>by simp only[j9,List.getElem?_cons_zero,Nat.add_zero,Nat.zero_lt_succ,if_true]<;>rfl
 |n+1,i,j+1=>by
  simp only[j9,List.getElem?_cons_succ,nO G e l n (i+1) j]
  rw[show i+1+j=i+(j+1)by omega]
  simp
theorem DR(G:bd)(e:Env)(l:bg ab): ∀(n i:Nat),(j9 G e l i n).length=n
 |0,_=>rfl
 |n+1,i=>by simp[j9,DR G e l n (i+1)]
theorem uI(G:bd)(N B:Nat)(e:Env)(S:aq)(j:Nat):(S.den G N B e).c0[j]? =if j<N then some ((S.at j).den G e)else none:=by
 simp only[aq.den,nO,Nat.zero_add]
 by_cases h:j<N
 ·simp only[h,if_true,Option.some.injEq]
  unfold aq.at
  cases S.l.get j<;>rfl
 ·simp[h]
def z7:ab→ab→Bool
 | .aQ r i,.aQ q j=>Nat.beq i j&&hO r q
 | .fd c i k r,.fd d j m q=>(Nat.beq i j&&Nat.beq k m)&&(decide (c=d)&&hO r q)
 |_,_=>false
theorem Ll{x y:ab}(h:z7 x y=true):x=y:=by
 unfold z7 at h
 split at h
 ·simp only[Bool.and_eq_true]at h
  rw[Nat.eq_of_beq_eq_true h.1,hk h.2]
 ·simp only[Bool.and_eq_true,decide_eq_true_eq]at h
  rw[Nat.eq_of_beq_eq_true h.1.1,Nat.eq_of_beq_eq_true h.1.2,h.2.1,hk h.2.2]
 ·cases h
def k1(g:ab):List cc→Option Bool
 |[]=>none
 | .dV h b::r=>match z7 h g with
  |true=>some b
  |false=>k1 g r
 |_::r=>k1 g r
theorem p9{e:Env}{g:ab}{b:Bool}: ∀{l:List cc},k1 g l=some b→(∀c∈l,c.ok e)→g.aC e .bool=b
 | .dV h b'::r,aj,hc=>by
  simp only[k1]at aj
  split at aj
  ·rename_i ai
   cases aj;rw[←Ll ai];exact hc (.dV h b) (by simp)
  ·exact p9 aj fun c hm=>hc c (by simp[hm])
 | .d1 _ _ _::r,aj,hc=>p9 (l:=r) aj fun c hm=>hc c (by simp[hm])
 | .d2 _ _ _ _::r,aj,hc=>p9 (l:=r) aj fun c hm=>hc c (by simp[hm])
 | .rg _ _::r,aj,hc=>p9 (l:=r) aj fun c hm=>hc c (by simp[hm])
def ab.res(l:List cc):ab→ab
 | .fL g b v=>match k1 g l with
  |some c=>match decide (c=b)with
   |true=>v.res l
   |false=>.tp []
  |none=>.fL g b (v.res l)
 | .fl g id off=>match k1 g l,id with
  |some true,some id=>.cq id off
  |some false,_=>.cs (.pointer none)
  |_,_=>.fl g id off
 |x=>x
theorem SO{l:List cc}{g v:ab}{b:Bool}:(ab.fL g b v).res l=match k1 g l with
 |some c=>match decide (c=b)with
  |true=>v.res l
  |false=>.tp []
 |none=>.fL g b (v.res l):=by rw[ab.res]
theorem SP{l:List cc}{g:ab}{id:Option Nat}{off:Nat}:(ab.fl g id off).res l=match k1 g l,id with
 |some true,some id=>.cq id off
 |some false,_=>.cs (.pointer none)
 |_,_=>.fl g id off:=by
 cases aj:k1 g l with
 |none=>simp only[ab.res,aj]
 |some b=>cases b<;>cases id<;>simp only[ab.res,aj]
theorem Lm{G:bd}{e:Env}{l:List cc}(hc: ∀c∈l,c.ok e): ∀{x:ab},(x.res l).den G e=x.den G e
 | .fL g b v=>by
  have a7:=Lm (G:=G) hc (x:=v)
  rw[SO]
  split
  ·rename_i c aj
   have:=p9 aj hc
   split
   ·rename_i hd
    have hd:=of_decide_eq_true hd
    subst hd;rw[a7];simp only[ab.den,this]
    cases c<;>rfl
   ·rename_i hd
    have hd:=of_decide_eq_false hd
    simp only[ab.den,this]
    cases c<;>cases b<;>first|rfl|exact absurd rfl hd
  ·simp only[ab.den,a7]
 | .aQ _ _=>rfl
 | .fd _ _ _ _=>rfl
 | .cs _=>rfl
 | .ip _ _ _=>rfl
 | .bO _=>rfl
 | .tp _=>rfl
 | .cq _ _=>rfl
 | .gr _ _ _=>rfl
 | .aR _=>rfl
 | .fn _ _ _=>rfl
 | .gR _=>rfl
 | .lB _ _=>rfl
 | .gq _ _ _ _=>rfl
 | .cY _ _=>rfl
 | .fl g id off=>by
  rw[SP]
  cases aj:k1 g l with
  |none=>rfl
  |some c=>
   have:=p9 aj hc
   cases c with
   |true=>cases id with
    |none=>rfl
    |some id=>simp only[ab.den,this]
   |false=>simp only[ab.den,this]
 | .er _ _ _ _=>rfl
 | .top=>rfl
theorem Ln{l:List cc}{k:Nat}: ∀{x:ab},x.lt k=true→(x.res l).lt k=true
 | .fL g b v,h=>by
  simp only[ab.lt,Bool.and_eq_true]at h;rw[SO]
  split
  ·split
   ·exact Ln h.2
   ·rfl
  ·simp only[ab.lt,h.1,Ln h.2,Bool.and_self]
 | .aQ _ _,h=>h
 | .fd _ _ _ _,h=>h
 | .cs _,h=>h
 | .ip _ _ _,h=>h
 | .bO _,h=>h
 | .tp _,h=>h
 | .cq _ _,h=>h
 | .gr _ _ _,h=>h
 | .aR _,h=>h
 | .fn _ _ _,h=>h
 | .gR _,h=>h
 | .lB _ _,h=>h
 | .gq _ _ _ _,h=>h
 | .cY _ _,h=>h
 | .fl g id off,h=>by
  rw[SP]
  cases k1 g l with
  |none=>exact h
  |some c=>cases c with
   |true=>cases id with
    |none=>exact h
    |some id=>rfl
   |false=>rfl
 | .er _ _ _ _,h=>h
 | .top,h=>h
def aq.a8(N:Nat)(S:aq):Operand→ab
 | .tmp t=>match Nat.blt t N with
  |true=>(S.at t).res S.g
  |false=>.top
 | .const v=>match v.oneCell' with
  |true=>.cs v
  |false=>.top
 | .global g=>.lB g 0
 | .func f=>.fn (.func f) [] []
section
variable {G:bd} {N B:Nat} {e:Env} {S:aq}
theorem bM(hf: ∀c∈S.g,c.ok e)(x:Operand):aM G (S.den G N B e) x=(S.a8 N x).den G e:=by
 cases x with
 |tmp t=>
  simp only[aM,aq.a8,List.getD_eq_getElem?_getD,uI]
  cases h:Nat.blt t N with
  |true=>
   have:t<N:=fb h
   simp[this,Lm hf]
  |false=>
   have: ¬t<N:=fun h'=>by rw[jP h']at h;cases h
   simp[this,ab.den]
 |const v=>
  simp only[aM,aq.a8]
  cases v.oneCell'<;>simp[ab.den]
 |global g=>
  simp only[aM,aq.a8,ab.den]
  cases G g with
  |none=>rfl
  |some l=>simp
 |func f=>simp[aM,aq.a8,ab.den,ab.bX]
def aq.put(S:aq)(dst:Option Nat)(v:ab):aq:=
 match dst with
 |some d=>{S with l:=S.l.put d v}
 |none=>S
theorem Lo(d:Nat)(v:ab)(l:bg ab):j9 G e (l.put d v) 0 N=(j9 G e l 0 N).set d (v.den G e):=by
 apply List.ext_getElem?
 intro j
 rw[nO,List.getElem?_set,nO,DR,Nat.zero_add,bg.hV]
 by_cases hd:d=j
 ·subst hd
  by_cases af:d<N<;>simp[af]
 ·simp[hd]
theorem ff(dst:Option Nat)(v:ab):(S.put dst v).den G N B e=(S.den G N B e).put dst (v.den G e):=by
 cases dst with
 |none=>rfl
 |some d=>simp only[aq.put,aq.den,aU.put,Lo]
theorem eh: ∀(h:List (Nat × bK)) (id:Nat),aG (cH G e h) id=(dj h id).map (bK.den G e)
 |[],_=>rfl
 |(i,o)::r,id=>by
  simp only[cH,aG,dj,p6]
  by_cases h:i=id
  ·simp[h]
  ·simp only[h,if_false,decide_false]
   exact eh r id
theorem sI: ∀(h:List (Nat × bK)) (id:Nat) (o:bK),cH G e (ju h id o)=eQ (cH G e h) id (o.den G e)
 |[],_,_=>rfl
 |(i,p)::r,id,o=>by
  simp only[ju,cH,eQ,p6]
  by_cases h:i=id
  ·simp[h,cH]
  ·simp only[h,decide_false,if_false,cH,sI r id o]
end
def bK.lt(k:Nat):bK→Bool
 | .cQ _ l=>ab.cV k l
 | .rw _ _ x=>x.lt k
 | .it _ x p=>x.lt k&&p.lt k
def eI(k:Nat):List (Nat × bK)→Bool
 |[]=>true
 |(_,o)::r=>o.lt k&&eI k r
def cc.lt(k:Nat):cc→Bool
 | .d1 i _ x=>Nat.blt i k&&x.lt k
 | .d2 i _ x y=>Nat.blt i k&&(x.lt k&&y.lt k)
 | .rg i b=>Nat.blt i k&&b.lt k
 | .dV g _=>g.lt k
def fm(k:Nat):List cc→Bool
 |[]=>true
 |c::r=>c.lt k&&fm k r
structure aq.cz (S:aq):Prop where
 l: ∀i x,S.l.get i=some x→x.lt S.k=true
 h:eI S.k S.h=true
 g:fm S.k S.g=true
mutual
theorem gG{k m:Nat}(h:k≤m): ∀{x:ab},x.lt k=true→x.lt m=true:=fun {x} hx=>by
 cases x with
 |aQ r i=>exact jP (Nat.lt_of_lt_of_le (fb hx) h)
 |fd c i j r=>exact jP (Nat.lt_of_lt_of_le (fb (i:=i) hx) h)
 |ip c i j=>exact jP (Nat.lt_of_lt_of_le (fb (i:=i) hx) h)
 |bO l=>exact uJ (l:=l) h hx
 |tp l=>exact uJ (l:=l) h hx
 |gr id x off=>exact gG (x:=x) h hx
 |gq id off x n=>exact gG (x:=x) h hx
 |fl g id off=>exact gG (x:=g) h hx
 |er t a rs l=>exact uJ h (l:=l) hx
 |fn f a b=>
  simp only[ab.lt,Bool.and_eq_true]at hx⊢;exact⟨uJ h hx.1,uJ h hx.2⟩
 |fL g b x=>
  simp only[ab.lt,Bool.and_eq_true]at hx⊢;exact⟨gG h hx.1,gG h hx.2⟩
 |_=>rfl
theorem uJ{k m:Nat}(h:k≤m): ∀{l:List ab},ab.cV k l=true→ab.cV m l=true:=fun {l} ar=>by
 match l with
 |[]=>rfl
 |x::r=>
  simp only[ab.cV,Bool.and_eq_true]at ar⊢;exact⟨gG h ar.1,uJ h ar.2⟩
end
theorem sJ{k m:Nat}(h:k≤m): ∀{l:List (Nat × bK)},eI k l=true→eI m l=true
 |[],_=>rfl
 |(_,o)::r,ar=>by
  simp only[eI,Bool.and_eq_true]at ar⊢;refine⟨?_,sJ h ar.2⟩
  cases o with
  |cQ t l=>exact uJ h (l:=l) ar.1
  |rw t c x=>exact gG h (x:=x) ar.1
  |it q x p=>
   have aa:=ar.1
   simp only[bK.lt,Bool.and_eq_true]at aa⊢;exact⟨gG h aa.1,gG h aa.2⟩
theorem nP{k m:Nat}(h:k≤m): ∀{l:List cc},fm k l=true→fm m l=true
 |[],_=>rfl
 |c::r,ar=>by
  simp only[fm,Bool.and_eq_true]at ar⊢;refine⟨?_,nP h ar.2⟩
  cases c with
  |d1 i f x=>
   have:=ar.1
   simp only[cc.lt,Bool.and_eq_true]at this⊢;exact⟨jP (Nat.lt_of_lt_of_le (fb this.1) h),gG h this.2⟩
  |d2 i f x y=>
   have:=ar.1
   simp only[cc.lt,Bool.and_eq_true]at this⊢;exact⟨jP (Nat.lt_of_lt_of_le (fb this.1) h),gG h this.2.1,gG h this.2.2⟩
  |rg i b=>
   have:=ar.1
   simp only[cc.lt,Bool.and_eq_true]at this⊢;exact⟨jP (Nat.lt_of_lt_of_le (fb this.1) h),gG h this.2⟩
  |dV g b=>exact gG h (x:=g) ar.1
section
variable {G:bd} {N B:Nat} {e aB:Env} {S:aq} {k:Nat}
theorem w0(h:b3 k e aB): ∀{l:List (Nat × bK)},eI k l=true→cH G aB l=cH G e l
 |[],_=>rfl
 |(_,o)::r,ar=>by
  simp only[eI,Bool.and_eq_true]at ar;simp only[cH,w0 h ar.2]
  congr 2
  cases o with
  |cQ t l=>simp only[bK.den,wP h (l:=l) ar.1]
  |rw t c x=>simp only[bK.den,eG h (x:=x) ar.1]
  |it q x p=>
   have aa:=ar.1
   simp only[bK.lt,Bool.and_eq_true]at aa;simp only[bK.den,eG h (x:=x) aa.1,eG h (x:=p) aa.2]
theorem k2(h:b3 S.k e aB)(ad:S.cz):S.den G N B aB=S.den G N B e:=by
 simp only[aq.den,aU.mk.injEq,and_true,true_and]
 refine⟨?_,w0 h ad.h⟩
 apply List.ext_getElem?
 intro j
 rw[nO,nO]
 by_cases af:j<N
 ·simp only[af,if_true,Option.some.injEq]
  cases ah:S.l.get (0+j)with
  |none=>rfl
  |some x=>exact sB h (ad.l _ x ah)
 ·simp[af]
theorem ic(h:b3 k e aB): ∀{l:List cc},fm k l=true→(∀c∈l,c.ok e)→∀c∈l,c.ok aB
 |[],_,_,_,hc=>by cases hc
 |d::r,ar,hf,c,hc=>by
  simp only[fm,Bool.and_eq_true]at ar
  rcases List.mem_cons.1 hc with rfl|hc
  ·have aP:=hf c (by simp)
   cases c with
   |d1 i f x=>
    have aa:=ar.1
    simp only[cc.lt,Bool.and_eq_true]at aa;simp only[cc.ok]at aP⊢;rw[h i (fb aa.1),eG h aa.2];exact aP
   |d2 i f x y=>
    have aa:=ar.1
    simp only[cc.lt,Bool.and_eq_true]at aa;simp only[cc.ok]at aP⊢;rw[h i (fb aa.1),eG h aa.2.1,eG h aa.2.2];exact aP
   |rg i b=>
    have aa:=ar.1
    simp only[cc.lt,Bool.and_eq_true]at aa;simp only[cc.ok]at aP⊢;rw[h i (fb aa.1),ra h aa.2];exact aP
   |dV g b=>
    simp only[cc.ok]at aP⊢;rw[eG h (x:=g) ar.1];exact aP
  ·exact ic h ar.2 (fun c hc=>hf c (by simp[hc])) c hc
theorem DS(ad:S.cz)(x:Operand):(S.a8 N x).lt S.k=true:=by
 cases x with
 |tmp t=>
  simp only[aq.a8]
  split
  ·refine Ln ?_
   unfold aq.at
   split
   ·rename_i x hx;exact ad.l _ x hx
   ·rfl
  ·rfl
 |const v=>simp only[aq.a8];split<;>rfl
 |global g=>rfl
 |func f=>rfl
end
def bQ.lt(k:Nat):bQ→Bool
 | .re _ x=>x.lt k
 | .f1 _ x=>x.lt k
 | .f2 _ x y=>x.lt k&&y.lt k
 | .eB _ x lo hi=>x.lt k&&(ab.cV k lo.toList&&ab.cV k hi.toList)
 | .uG x lo hi=>x.lt k&&(ab.cV k lo.toList&&ab.cV k hi.toList)
 | .r6 _ g x y=>g.lt k&&(x.lt k&&y.lt k)
 | .zZ _ _ l m=>ab.cV k l&&ab.cV k m
 | .p7 _ l=>ab.cV k l
 | .up _ l i x=>l.lt k&&(i.lt k&&x.lt k)
 | .nth _ l i=>ab.cV k l&&i.lt k
 | .DM _ x=>x.lt k
 | .DN _ _=>true
 | .DO _ _ m x y=>m.lt k&&(x.lt k&&y.lt k)
 | .wT _ _ m x=>m.lt k&&x.lt k
 | .uH _ _ m x=>m.lt k&&x.lt k
 | .ca _ l=>ab.cV k l
 | .rf _ p _=>Nat.blt p k
section
variable {e aB:Env} {k:Nat}
theorem w1(h:b3 k e aB): ∀{rs:List a6} {l:List ab},ab.cV k l=true→gF aB rs l=gF e rs l
 |[],_,_=>by simp[gF]
 |_::_,[],_=>by simp[gF]
 |r::rs,x::xs,hx=>by
  simp only[ab.cV,Bool.and_eq_true]at hx;simp only[gF,uD h hx.1,w1 h hx.2]
theorem DT(h:b3 k e aB){o:Option ab}(ao:ab.cV k o.toList=true):mh aB o=mh e o:=by
 cases o with
 |none=>rfl
 |some x=>
  simp only[Option.toList,ab.cV,Bool.and_true]at ao;simp only[mh,ra h ao]
theorem SQ(h:b3 k e aB): ∀{rs:List a6} {l m:List ab},ab.cV k l=true→ab.cV k m=true→ky aB rs l m=ky e rs l m
 |[r],[x],[y],ar,hm=>by
  simp only[ab.cV,Bool.and_eq_true]at ar hm;simp only[ky,eG h ar.1,eG h hm.1]
 |r::s::rs,x::xs,y::ys,ar,hm=>by
  simp only[ab.cV,Bool.and_eq_true]at ar hm
  have:=SQ h (rs:=s::rs) ar.2 hm.2
  cases xs<;>cases ys<;>simp only[ky,eG h ar.1,eG h hm.1,this]
 |[r],x::iP::xs,y::ys,ar,hm=>by
  simp only[ab.cV,Bool.and_eq_true]at ar hm;simp only[ky,eG h ar.1,eG h hm.1]
 |[r],[x],y::sw::ys,ar,hm=>by
  simp only[ab.cV,Bool.and_eq_true]at ar hm;simp only[ky,eG h ar.1,eG h hm.1]
 |[],_,_,_,_=>by simp[ky]
 |_::_,[],_,_,_=>by simp[ky]
 |_::_,_::_,[],_,_=>by simp[ky]
theorem SR(h:b3 k e aB){c:bJ}: ∀{l:List ab},ab.cV k l=true→mi aB c l=mi e c l
 |[],_=>rfl
 |x::r,ar=>by
  simp only[ab.cV,Bool.and_eq_true]at ar;simp only[mi,uD h ar.1,SR h ar.2]
theorem SS(h:b3 k e aB){r:a6}: ∀{l:List ab} {n:Nat},ab.cV k l=true→sE aB r l n=sE e r l n
 |[],_,_=>rfl
 |[x],_,ar=>by
  simp only[ab.cV,Bool.and_eq_true]at ar;simp only[sE,eG h ar.1]
 |x::y::l,n,ar=>by
  simp only[ab.cV,Bool.and_eq_true]at ar
  have:=SS h (l:=y::l) (n:=n-1) (r:=r) (by simp only[ab.cV,Bool.and_eq_true];exact ar.2)
  simp only[sE,eG h ar.1,this]
theorem zeE(M:List aV)(h:b3 k e aB){x:bQ}(hx:x.lt k=true):x.den M aB=x.den M e:=by
 cases x with
 |re r x=>simp only[bQ.den,uD h (x:=x) hx]
 |f1 f x=>simp only[bQ.den,eG h (x:=x) hx]
 |f2 f x y=>
  simp only[bQ.lt,Bool.and_eq_true]at hx;simp only[bQ.den,eG h hx.1,eG h hx.2]
 |eB c x lo hi=>
  simp only[bQ.lt,Bool.and_eq_true]at hx;simp only[bQ.den,eG h hx.1,DT h hx.2.1,DT h hx.2.2]
 |uG x lo hi=>
  simp only[bQ.lt,Bool.and_eq_true]at hx;simp only[bQ.den,eG h hx.1,DT h hx.2.1,DT h hx.2.2]
 |r6 r g x y=>
  simp only[bQ.lt,Bool.and_eq_true]at hx;simp only[bQ.den,eG h hx.1,uD h hx.2.1,uD h hx.2.2]
 |zZ n rs l m=>
  simp only[bQ.lt,Bool.and_eq_true]at hx;simp only[bQ.den,SQ h hx.1 hx.2]
 |p7 c l=>simp only[bQ.den,SR h (l:=l) hx]
 |DM c x=>simp only[bQ.den,eG h (x:=x) hx]
 |DN r s=>rfl
 |DO r s m x y=>
  simp only[bQ.lt,Bool.and_eq_true]at hx;simp only[bQ.den,eG h hx.1,eG h hx.2.1,uD h hx.2.2]
 |wT r s m x=>
  simp only[bQ.lt,Bool.and_eq_true]at hx;simp only[bQ.den,eG h hx.1,eG h hx.2]
 |uH r s m x=>
  simp only[bQ.lt,Bool.and_eq_true]at hx;simp only[bQ.den,eG h hx.1,eG h hx.2]
 |up c l i x=>
  simp only[bQ.lt,Bool.and_eq_true]at hx;simp only[bQ.den,eG h hx.1,ra h hx.2.1,uD h hx.2.2]
 |nth r l i=>
  simp only[bQ.lt,Bool.and_eq_true]at hx;simp only[bQ.den,SS h hx.1,ra h hx.2]
 |ca j l=>simp only[bQ.den,w1 h (l:=l) hx]
 |rf rs p i=>simp only[bQ.den,h p (fb hx)]
end
end Go.aO
namespace Go.aO
open Go
section
variable {P:Program} {G:bd} {o:Oper} {s:aU}
theorem cX.sub{v bp:aF}(h:cX P G o s v)(ai:Sub v bp):cX P G o s bp:=fun E a w β ro ag=>by
 obtain⟨c,aa,ae⟩:=h E a w β ro ag
 exact⟨c,aa,ai _ _ _ _ _ _ ae⟩
def Lp(op:BinOp)(k bu:IntKind):Bool:=
 match op with
 | .add=>decide (k=bu)
 | .sub=>decide (k=bu)
 | .mul=>decide (k=bu)
 | .quo=>decide (k=bu)
 | .rem=>decide (k=bu)
 | .and=>decide (k=bu)
 | .or=>decide (k=bu)
 | .xor=>decide (k=bu)
 | .shl=>true
 | .shr=>true
 |_=>false
def w2:BinOp→Bool
 | .eql=>true
 | .neq=>true
 | .lss=>true
 | .leq=>true
 | .gtr=>true
 | .geq=>true
 |_=>false
theorem zeF{op:BinOp}{cF ty:TypeId}{x y:Operand}{k bu:IntKind}{a b:Int}(ao:o.op= .binOp op cF x y ty)(hx:aM G s x= .aw (.v (.int k a)))(ay:aM G s y= .aw (.v (.int bu b)))(h:Lp op k bu=true)(hn:DK op b):
 cX P G o s (.aw (.v (.int k (bL op k a b)))):=by
 cases op<;>simp only[Lp,Bool.false_eq_true,decide_eq_true_eq]at h
 case add=>subst h;exact oG _ cF ty x y ao hx ay (by simp[j1,bL])
 case sub=>subst h;exact oG _ cF ty x y ao hx ay (by simp[j1,bL])
 case mul=>subst h;exact oG _ cF ty x y ao hx ay (by simp[j1,bL])
 case quo=>subst h;exact oG _ cF ty x y ao hx ay (by have: ¬b=0:=hn;simp[j1,bL,this])
 case rem=>subst h;exact oG _ cF ty x y ao hx ay (by have: ¬b=0:=hn;simp[j1,bL,this])
 case and=>subst h;exact wL cF ty x y ao hx ay fun w=>by simp[binOp,Op.intBits,bL,aO.n6]
 case or=>subst h;exact wL cF ty x y ao hx ay fun w=>by simp[binOp,Op.intBits,bL,aO.ng]
 case xor=>subst h;exact wL cF ty x y ao hx ay fun w=>by simp[binOp,Op.intBits,bL,aO.n8]
 case shl=>exact oG _ cF ty x y ao hx ay (by have hn:0≤b:=hn;have: ¬b<0:=(by omega);simp[j1,bL,this])
 case shr=>exact oG _ cF ty x y ao hx ay (by have hn:0≤b:=hn;have: ¬b<0:=(by omega);simp[j1,bL,this])
theorem zeG{op:BinOp}{cF ty:TypeId}{x y:Operand}{k:IntKind}{a b:Int}(ao:o.op= .binOp op cF x y ty)(hx:aM G s x= .aw (.v (.int k a)))(ay:aM G s y= .aw (.v (.int k b)))(h:w2 op=true):
 cX P G o s (.aw (.v (.bool (zY op a b)))):=by
 cases op<;>simp only[w2,Bool.false_eq_true]at h
 all_goals exact oG _ cF ty x y ao hx ay (by simp[j1,C6,zY])
theorem zeH{op:BinOp}{cF ty:TypeId}{x y:Operand}{a b:ByteArray}(ao:o.op= .binOp op cF x y ty)(hx:aM G s x= .aw (.v (.string a)))(ay:aM G s y= .aw (.v (.string b)))(h:w2 op=true):
 cX P G o s (.aw (.v (.bool (cO op a b)))):=by
 cases op<;>simp only[w2,Bool.false_eq_true]at h
 all_goals exact oG _ cF ty x y ao hx ay (by simp[j1,cO])
def z8(G:bd)(s:aU)(o:Option Operand)(z:Option Int):Prop:=
 match o,z with
 |none,none=>True
 |some y,some z=>∃k,aM G s y= .aw (.v (.int k z))
 |_,_=>False
theorem SU(i:bJ)(ls:List (fQ i)){t:TypeId}{x:Operand}{lo hi:Option Operand}{o0 lC:Option Int}(ao:o.op= .slice t x lo hi none)(aK:j3 P t=some (b5 i))(hx:aM G s x= .aw (.li i ls))(aE:z8 G s lo o0)(bo:z8 G s hi lC)
 (hn:jD ls.length o0 lC):mf P G o s (.aw (.li i (iL ls o0 lC))):=by
 cases lo with
 |none=>
  cases o0 with
  |some _=>exact aE.elim
  |none=>
  cases hi with
  |none=>
   cases lC with
   |some _=>exact bo.elim
   |none=>
   have:=DG i ls (l:=0) (h:=ls.length) ao aK hx (.inl ⟨rfl,rfl⟩) (.inl ⟨rfl,rfl⟩) (Nat.zero_le _) (Nat.le_refl _)
   rw[List.take_length,List.drop_zero]at this;exact this
  |some y=>
   cases lC with
   |none=>exact bo.elim
   |some h=>
   obtain⟨k,ay⟩:=bo
   have hn:0≤h∧h≤(ls.length:Int):=hn
   obtain⟨n,rfl⟩: ∃n:Nat,h=(n:Int):=⟨h.toNat,by omega⟩
   have:=DG i ls (l:=0) (h:=n) ao aK hx (.inl ⟨rfl,rfl⟩) (.inr ⟨y,k,rfl,ay⟩) (Nat.zero_le _) (by omega)
   rw[List.drop_zero]at this;exact this
 |some y=>
  cases o0 with
  |none=>exact aE.elim
  |some a=>
  obtain⟨k,ay⟩:=aE
  cases hi with
  |none=>
   cases lC with
   |some _=>exact bo.elim
   |none=>
   have hn:0≤a∧a≤(ls.length:Int):=hn
   obtain⟨n,rfl⟩: ∃n:Nat,a=(n:Int):=⟨a.toNat,by omega⟩
   have:=DG i ls (l:=n) (h:=ls.length) ao aK hx (.inr ⟨y,k,rfl,ay⟩) (.inl ⟨rfl,rfl⟩) (by omega) (Nat.le_refl _)
   rw[List.take_length]at this;exact this
  |some rm=>
   cases lC with
   |none=>exact bo.elim
   |some h=>
   obtain⟨fx,Lq⟩:=bo
   have hn:0≤a∧a≤h∧h≤(ls.length:Int):=hn
   obtain⟨n,rfl⟩: ∃n:Nat,a=(n:Int):=⟨a.toNat,by omega⟩
   obtain⟨m,rfl⟩: ∃n:Nat,h=(n:Int):=⟨h.toNat,by omega⟩
   exact DG i ls (l:=n) (h:=m) ao aK hx (.inr ⟨y,k,rfl,ay⟩) (.inr ⟨rm,fx,rfl,Lq⟩) (by omega) (by omega)
theorem zeI(b:ByteArray){t:TypeId}{x:Operand}{lo hi:Option Operand}{o0 lC:Option Int}(ao:o.op= .slice t x lo hi none)(aK:P.underlying t=some .string)(hx:aM G s x= .aw (.v (.string b)))(aE:z8 G s lo o0)(bo:z8 G s hi lC)
 (hn:jD b.size o0 lC):cX P G o s (.aw (.v (.string (np b o0 lC)))):=by
 cases lo with
 |none=>
  cases o0 with
  |some _=>exact aE.elim
  |none=>
  cases hi with
  |none=>
   cases lC with
   |some _=>exact bo.elim
   |none=>exact Dl t x none none ao aK hx (l:=0) (h:=b.size) (.inl ⟨rfl,rfl⟩) (.inl ⟨rfl,rfl⟩) (Nat.zero_le _) (Nat.le_refl _)
  |some y=>
   cases lC with
   |none=>exact bo.elim
   |some h=>
   obtain⟨k,ay⟩:=bo
   have hn:0≤h∧h≤(b.size:Int):=hn
   obtain⟨n,rfl⟩: ∃n:Nat,h=(n:Int):=⟨h.toNat,by omega⟩
   exact Dl t x none _ ao aK hx (l:=0) (h:=n) (.inl ⟨rfl,rfl⟩) (.inr ⟨y,k,rfl,ay⟩) (Nat.zero_le _) (by omega)
 |some y=>
  cases o0 with
  |none=>exact aE.elim
  |some a=>
  obtain⟨k,ay⟩:=aE
  cases hi with
  |none=>
   cases lC with
   |some _=>exact bo.elim
   |none=>
   have hn:0≤a∧a≤(b.size:Int):=hn
   obtain⟨n,rfl⟩: ∃n:Nat,a=(n:Int):=⟨a.toNat,by omega⟩
   exact Dl t x _ none ao aK hx (l:=n) (h:=b.size) (.inr ⟨y,k,rfl,ay⟩) (.inl ⟨rfl,rfl⟩) (by omega) (Nat.le_refl _)
  |some rm=>
   cases lC with
   |none=>exact bo.elim
   |some h=>
   obtain⟨fx,Lq⟩:=bo
   have hn:0≤a∧a≤h∧h≤(b.size:Int):=hn
   obtain⟨n,rfl⟩: ∃n:Nat,a=(n:Int):=⟨a.toNat,by omega⟩
   obtain⟨m,rfl⟩: ∃n:Nat,h=(n:Int):=⟨h.toNat,by omega⟩
   exact Dl t x _ _ ao aK hx (l:=n) (h:=m) (.inr ⟨y,k,rfl,ay⟩) (.inr ⟨rm,fx,rfl,Lq⟩) (by omega) (by omega)
end
def DU(P:Program)(t:TypeId):Option a6:=
 match P.underlying t with
 |some (.int k)=>some (.int k)
 |some .bool=>some .bool
 |some .string=>some .str
 |_=>none
def o1(P:Program):Nat→Nat→List Field→Option (List a6)
 |0,_,_=>none
 |_+1,_,[]=>some []
 |d+1,k,f::fs=>
  if f.name= "_" ||f.offset != k then none
  else match mM P f.type with
   |some gs=>match P.info? f.type with
    |some inf=>match o1 P d 0 gs,o1 P d (k+inf.size) fs with
     |some a,some b=>match Nat.beq a.length inf.size with
      |true=>some (a++b)
      |false=>none
     |_,_=>none
    |none=>none
   |none=>match DU P f.type with
    |some r=>match o1 P d (k+1) fs with
     |some l=>some (r::l)
     |none=>none
    |none=>none
def sK:(r:a6)→r.den→Value
 | .int k,n=>.int k n
 | .bool,b=>.bool b
 | .str,x=>.string x
 |_,_=>undef
def a6.cmp:a6→Bool
 | .int _=>true
 | .bool=>true
 | .str=>true
 |_=>false
def Aa(d:aI):Value:=sK d.r d.v
def m3:List aI→List aI→Bool
 |d::ds,c::cs=>rh d.r d.v (c.aJ d.r)&&m3 ds cs
 |_,_=>true
theorem zeJ{P:Program}{t:TypeId}{r:a6}(h:DU P t=some r)(x y:r.den):qV P t (sK r x)=true∧mL (sK r x) (sK r y)=some (rh r x y):=by
 unfold DU at h
 split at h
 ·rename_i k hu;cases h;simp[sK,qV,hu,mL,rh]
 ·rename_i hu;cases h;simp[sK,qV,hu,mL,rh]
 ·rename_i hu;cases h;simp[sK,qV,hu,mL,rh]
 ·cases h
theorem SV: ∀{a c:List aI} (b d:List aI),a.length=c.length→m3 (a++b) (c++d)=(m3 a c&&m3 b d)
 |[],[],_,_,_=>by simp[m3]
 |x::a,y::c,b,d,h=>by
  simp only[List.cons_append,m3,SV (a:=a) (c:=c) b d (by simpa using h),Bool.and_assoc]
 |[],_::_,_,_,h=>by cases h
 |_::_,[],_,_,h=>by cases h
theorem DV{P:Program}: ∀(d k:Nat) (fs:List Field) (rs:List a6),o1 P d k fs=some rs→∀(aJ cY:List aI),aJ.map aI.r=rs→cY.map aI.r=rs→pU P d k fs (aJ.map Aa) (cY.map Aa)=some (m3 aJ cY)
 |0,_,_,_,h,_,_,_,_=>by cases h
 |d+1,k,[],rs,h,aJ,cY,ba,ad=>by
  simp only[o1,Option.some.injEq]at h;subst h
  cases me ba
  cases me ad
  rfl
 |d+1,k,f::fs,rs,h,aJ,cY,ba,ad=>by
  simp only[o1]at h;simp only[pU]
  split at h
  ·cases h
  ·rename_i hc
   rw[if_neg hc]
   cases ai:mM P f.type with
   |some gs=>
    rw[ai]at h;simp only at h⊢
    cases hi:P.info? f.type with
    |none=>rw[hi]at h;cases h
    |some inf=>
     rw[hi]at h;simp only at h⊢
     split at h
     ·rename_i u v aa ae
      split at h
      ·rename_i ar
       simp only[Option.some.injEq]at h;subst h
       have ar:=Nat.eq_of_beq_eq_true ar
       have SW:(aJ.take inf.size).map aI.r=u:=by rw[List.map_take,ba,←ar,List.take_left]
       have zeK:(aJ.drop inf.size).map aI.r=v:=by rw[List.map_drop,ba,←ar,List.drop_left]
       have tb:(cY.take inf.size).map aI.r=u:=by rw[List.map_take,ad,←ar,List.take_left]
       have zeL:(cY.drop inf.size).map aI.r=v:=by rw[List.map_drop,ad,←ar,List.drop_left]
       rw[←List.map_take,←List.map_take,←List.map_drop,←List.map_drop,DV d 0 gs u aa _ _ SW tb,DV d _ fs v ae _ _ zeK zeL];simp only[Option.some.injEq];rw[←SV _ _ (by have aa:=congrArg List.length SW;have ae:=congrArg List.length tb;simp only[List.length_map]at aa ae;omega),List.take_append_drop,List.take_append_drop]
      ·cases h
     ·cases h
   |none=>
    rw[ai]at h;simp only at h⊢
    split at h
    ·rename_i r ag
     split at h
     ·rename_i l ar
      simp only[Option.some.injEq]at h;subst h;obtain⟨a,zjH,rfl,SX,Gc⟩:=ly ba;obtain⟨b,zjI,rfl,ia,oP⟩:=ly ad;obtain⟨zjJ,aQ⟩:=a;obtain⟨zjK,tq⟩:=b;simp only at SX ia;subst SX;subst ia;obtain⟨g1,g2⟩:=zeJ ag aQ tq;simp only[List.map_cons,Aa,g1,g2,if_true,m3,cI];rw[DV d _ fs l ar _ _ Gc oP]
     ·cases h
    ·cases h
theorem DW{P:Program}: ∀(d k:Nat) (fs:List Field) (rs:List a6),o1 P d k fs=some rs→∀r∈rs,r.cmp=true
 |0,_,_,_,h,_,_=>by cases h
 |d+1,k,[],rs,h,r,ag=>by
  simp only[o1,Option.some.injEq]at h;subst h;cases ag
 |d+1,k,f::fs,rs,h,r,ag=>by
  simp only[o1]at h
  split at h
  ·cases h
  ·cases ai:mM P f.type with
   |some gs=>
    rw[ai]at h;simp only at h
    cases hi:P.info? f.type with
    |none=>rw[hi]at h;cases h
    |some inf=>
     rw[hi]at h;simp only at h
     split at h
     ·rename_i u v aa ae
      split at h
      ·simp only[Option.some.injEq]at h
       subst h
       rcases List.mem_append.1 ag with q|q
       ·exact DW d 0 gs u aa r q
       ·exact DW d _ fs v ae r q
      ·cases h
     ·cases h
   |none=>
    rw[ai]at h;simp only at h
    split at h
    ·rename_i eV dY
     split at h
     ·rename_i l ar
      simp only[Option.some.injEq]at h;subst h
      rcases List.mem_cons.1 ag with rfl|q
      ·unfold DU at dY
       split at dY<;>first|(cases dY;rfl)|cases dY
      ·exact DW d _ fs l ar r q
     ·cases h
    ·cases h
theorem zeM{r:a6}(h:r.cmp=true)(x:r.den):fJ r x= .v (sK r x):=by
 cases r<;>first|rfl|cases h
theorem Ab{G:bd}{e:Env}: ∀{rs:List a6} {l:List ab},hl rs l=true→(∀r∈rs,r.cmp=true)→hy (ab.bX G e l)=some ((fX e rs l).map Aa)
 |[],[],_,_=>rfl
 |[],_::_,h,_=>by cases h
 |_::_,[],h,_=>by cases h
 |r::rs,x::xs,h,hc=>by
  simp only[hl,Bool.and_eq_true]at h
  have aa:x.den G e= .aw (fJ r (x.aC e r)):=wQ h.1 (by have:=hc r (by simp);cases r<;>first|rfl|cases this)
  simp only[ab.bX,fX,aa,zeM (hc r (by simp)),hy,Ab h.2 fun r ag=>hc r (by simp[ag]),List.map_cons,Aa]
theorem SY{e:Env}: ∀{rs:List a6} {l m:List ab},hl rs l=true→hl rs m=true→ky e rs l m=m3 (fX e rs l) (fX e rs m)
 |[],[],[],_,_=>rfl
 |[],_::_,_,h,_=>by cases h
 |[],[],_::_,_,h=>by cases h
 |_::_,[],_,h,_=>by cases h
 |_::_,_::_,[],_,h=>by cases h
 |[r],[x],[y],_,_=>by simp[ky,fX,m3,cI]
 |[r],x::iP::xs,_::_,h,_=>by simp[hl]at h
 |[r],[x],y::sw::ys,_,h=>by simp[hl]at h
 |r::s::rs,x::xs,y::ys,h,h'=>by
  simp only[hl,Bool.and_eq_true]at h h'
  have:=SY (e:=e) (rs:=s::rs) (l:=xs) (m:=ys) h.2 h'.2
  cases xs with
  |nil=>simp[hl]at h
  |cons iP xs=>
   cases ys with
   |nil=>simp[hl]at h'
   |cons sw ys=>
    have au:m3 (fX e (r::s::rs) (x::iP::xs)) (fX e (r::s::rs) (y::sw::ys))=(rh r (x.aC e r) (y.aC e r)&&m3 (fX e (s::rs) (iP::xs)) (fX e (s::rs) (sw::ys))):=by
     simp only[fX,m3,cI]
    rw[au,←this];simp only[ky]
    cases rh r (x.aC e r) (y.aC e r)<;>rfl
section
variable {P:Program} {G:bd} {o:Oper} {N B:Nat} {e:Env} {S:aq}
theorem SZ(hf: ∀c∈S.g,c.ok e){n:Bool}{op:BinOp}(Ac:op=bif n then .neq else .eql){cF ty:TypeId}{x y:Operand}(ao:o.op= .binOp op cF x y ty){fs:List Field}{rs:List a6}(h:mM P cF=some fs)(ag:o1 P 64 0 fs=some rs){l m:List ab}(hx:S.a8 N x= .bO l)(ay:S.a8 N y= .bO m)
 (ar:hl rs l=true)(hm:hl rs m=true):cX P G o (S.den G N B e) (.aw (.v (.bool (bif n then !ky e rs l m else ky e rs l m)))):=by
 have hc:=DW 64 0 fs rs ag
 have fU:aM G (S.den G N B e) x= .agg (ab.bX G e l):=by rw[bM hf,hx];rfl
 have ml:aM G (S.den G N B e) y= .agg (ab.bX G e m):=by rw[bM hf,ay];rfl
 have ad:=DV 64 0 fs rs ag _ _ (zV G e ar).1 (zV G e hm).1
 rw[←SY ar hm]at ad
 cases n with
 |true=>
  subst Ac;exact Rq cF ty x y ao h fU ml (Ab ar hc) (Ab hm hc) ad
 |false=>
  subst Ac;exact Rp cF ty x y ao h fU ml (Ab ar hc) (Ab hm hc) ad
end
end Go.aO
