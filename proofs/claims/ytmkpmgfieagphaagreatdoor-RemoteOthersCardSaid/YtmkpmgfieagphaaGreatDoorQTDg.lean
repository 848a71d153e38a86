/- TD, part B: expressions, needs, states, trees: what they are and what they stand for. Conditions: none. -/
import Derived.Test.YtmkpmgfieagphaaGreatDoorQTDa
namespace Go.aK
open Go
inductive gD where
 |nz
 |iJ (c:bF)
 |oD (k bk:IntKind)
 |mN
 |zj (k:IntKind)
 |tB (k:IntKind)
 |cM
 |wv
 deriving DecidableEq
@[reducible] def gD.a:gD→aU
 | .nz=>.str
 | .iJ c=>.li c
 | .oD k _=>.int k
 | .mN=>.bool
 | .zj k=>.int k
 | .tB k=>.int k
 | .cM=>.li .u8
 | .wv=>.str
@[reducible] def gD.c:gD→aU
 | .nz=>.int .i64
 | .iJ _=>.int .i64
 | .oD _ bk=>.int bk
 | .mN=>.bool
 | .zj k=>.int k
 | .tB k=>.int k
 | .cM=>.str
 | .wv=>.li .u8
def gD.den:(f:gD)→f.a.den→f.c.den
 | .nz,x=>(ByteArray.size x:Int)
 | .iJ _,x=>(List.length x:Int)
 | .oD _ bk,x=>bk.wrap x
 | .mN,x=>!x
 | .zj k,x=>k.wrap (0-x)
 | .tB k,x=>nZ k (if k.signed then -1 else k.max) x
 | .cM,x=>bytesOf x
 | .wv,x=>(ByteArray.data x).toList.map fun u=>(u.toNat:Int)
def bu(op:BinOp)(k:IntKind)(a b:Int):Int:=
 match op with
 | .add=>k.wrap (a+b)
 | .sub=>k.wrap (a-b)
 | .mul=>k.wrap (a*b)
 | .quo=>k.wrap (a.tdiv b)
 | .rem=>a.tmod b
 | .shl=>k.wrap (a*2^(min b.toNat k.bits))
 | .shr=>a.fdiv (2^(min b.toNat k.bits))
 | .and=>nX k a b
 | .or=>m5 k a b
 | .xor=>nZ k a b
 |_=>0
def CM(op:BinOp)(b:Int):Prop:=
 match op with
 | .quo=>b≠0
 | .rem=>b≠0
 | .shl=>0≤b
 | .shr=>0≤b
 |_=>True
def zk(op:BinOp)(a b:Int):Bool:=
 match op with
 | .eql=>a==b
 | .neq=>a != b
 | .lss=>decide (a<b)
 | .leq=>decide (a≤b)
 | .gtr=>decide (a>b)
 |_=>decide (a≥b)
def cC(op:BinOp)(a b:ByteArray):Bool:=
 match op with
 | .eql=>dI a b
 | .neq=>!dI a b
 | .lss=>qK a b
 | .leq=>qK a b||dI a b
 | .gtr=>!(qK a b||dI a b)
 |_=>!qK a b
inductive cA where
 |jk (op:BinOp) (k bk:IntKind)
 |oK (op:BinOp) (k:IntKind)
 |l7 (op:BinOp)
 |nb (n:Bool)
 |sl
 |tC (k:IntKind)
 |mx (k:IntKind)
 |j1 (c:bF) (k:IntKind)
 |q2 (k:IntKind)
 |ap (c:bF)
 |lL
 |lN
 |lM
 |kD
 |wx
 deriving DecidableEq
@[reducible] def cA.a:cA→aU
 | .jk _ k _=>.int k
 | .oK _ k=>.int k
 | .l7 _=>.str
 | .nb _=>.bool
 | .sl=>.str
 | .tC k=>.int k
 | .mx k=>.int k
 | .j1 c _=>.li c
 | .q2 _=>.str
 | .ap c=>.li c
 | .lL=>.str
 | .lN=>.str
 | .lM=>.str
 | .kD=>.str
 | .wx=>.str
@[reducible] def cA.b:cA→aU
 | .jk _ _ bk=>.int bk
 | .oK _ k=>.int k
 | .l7 _=>.str
 | .nb _=>.bool
 | .sl=>.str
 | .tC k=>.int k
 | .mx k=>.int k
 | .j1 _ k=>.int k
 | .q2 k=>.int k
 | .ap c=>.li c
 | .lL=>.int .i64
 | .lN=>.int .i64
 | .lM=>.int .i64
 | .kD=>.int .i64
 | .wx=>.int .u8
@[reducible] def cA.c:cA→aU
 | .jk _ k _=>.int k
 | .oK _ _=>.bool
 | .l7 _=>.bool
 | .nb _=>.bool
 | .sl=>.str
 | .tC k=>.int k
 | .mx k=>.int k
 | .j1 c _=>.st c
 | .q2 _=>.int .u8
 | .ap c=>.li c
 | .lL=>.bool
 | .lN=>.int .i64
 | .lM=>.int .i32
 | .kD=>.int .i64
 | .wx=>.int .i64
def CN(b:ByteArray)(c:Int):Int:=
 match(List.range b.size).find? fun i=>b[i]! ==c.toNat.toUInt8 with
 |some i=>(i:Int)
 |none=> -1
def cA.den:(f:cA)→f.a.den→f.b.den→f.c.den
 | .jk op k _,x,y=>bu op k x y
 | .oK op _,x,y=>zk op x y
 | .l7 op,x,y=>cC op x y
 | .nb n,x,y=>bif n then !(x==y)else x==y
 | .sl,x,y=>ByteArray.append x y
 | .tC _,x,y=>if y<x then y else x
 | .mx _,x,y=>if y>x then y else x
 | .j1 c _,x,y=>List.getD x (Int.toNat y) (aE c)
 | .q2 _,x,y=>ew x y
 | .ap _,x,y=>List.append x y
 | .lL,x,y=>decide (Int.toNat y<ByteArray.size x)
 | .lN,_,y=>(Int.toNat y:Int)
 | .lM,x,y=>((Utf8.decode x (Int.toNat y)).1:Int)
 | .wx,x,y=>CN x y
 | .kD,x,y=>((Int.toNat y+(Utf8.decode x (Int.toNat y)).2:Nat):Int)
def cA.ue(bytes:Nat):(f:cA)→f.a.den→f.b.den→Prop
 | .jk op _ _,_,y=>CM op y
 | .sl,x,y=>ByteArray.size x+ByteArray.size y≤9223372036854775807
 | .j1 _ _,x,y=>0≤y∧y<(List.length x:Int)
 | .q2 _,x,y=>0≤y∧y<(ByteArray.size x:Int)
 | .ap _,x,y=>List.length x+List.length y≤maxLen∧(List.length x+List.length y)*bytes≤140737488355328
 |_,_,_=>True
@[reducible] def fa:List aU→aU
 |[]=>.un
 |[r]=>r
 |r::s::l=>.y8 r (fa (s::l))
def b8:(rs:List aU)→List aF→(fa rs).den
 |[],_=>()
 |[r],d::_=>d.aG r
 |[r],[]=>r.fv
 |r::s::l,d::ds=>(d.aG r,b8 (s::l) ds)
 |r::s::l,[]=>(r.fv,b8 (s::l) [])
def dv:(rs:List aU)→(fa rs).den→List aF
 |[],_=>[]
 |[r],x=>[⟨r,x⟩]
 |r::s::l,x=>⟨r,x.1⟩::dv (s::l) x.2
structure aR where
 ps:List aU
 rs:List aU
 pre:Option ((fa ps).den→Prop)
 m:(fa ps).den→(fa rs).den
def aR.d:aR:=⟨[],[],none,fun x=>x⟩
def eT{α:Type _}(d:α):List α→Nat→α
 |[],_=>d
 |x::r,n=>match Nat.beq n 0 with
  |true=>x
  |false=>eT d r (Nat.sub n 1)
def gA(e:Env):List aU→List ab→List aF
 |r::rs,x::xs=>⟨r,x.get e r⟩::gA e rs xs
 |_,_=>[]
inductive bJ where
 |q3 (r:aU) (x:ab)
 |f1 (f:gD) (x:ab)
 |f2 (f:cA) (x y:ab)
 |ez (c:bF) (x:ab) (lo hi:Option ab)
 |uf (x:ab) (lo hi:Option ab)
 |CO (r:aU) (g x y:ab)
 |zl (n:Bool) (rs:List aU) (l m:List ab)
 |p3 (c:bF) (rows:List ab)
 |up (c:bF) (l i x:ab)
 |nth (r:aU) (l:List ab) (i:ab)
 |CP (c:bF) (x:ab)
 |CQ (k v:aU)
 |CR (k v:aU) (m x y:ab)
 |wy (k v:aU) (m x:ab)
 |ug (k v:aU) (m x:ab)
 |ca (j:Nat) (aG:List ab)
 |q4 (rs:List aU) (p i:Nat)
def l8(e:Env):Option ab→Option Int
 |none=>none
 |some x=>some (ck (x.dyn e))
def iy{α:Type}(l:List α):Option Int→Option Int→List α
 |none,none=>l
 |some a,none=>l.drop a.toNat
 |none,some h=>l.take h.toNat
 |some a,some h=>(l.take h.toNat).drop a.toNat
def m9(b:ByteArray):Option Int→Option Int→ByteArray
 |none,none=>b.extract 0 b.size
 |some a,none=>b.extract a.toNat b.size
 |none,some h=>b.extract 0 h.toNat
 |some a,some h=>b.extract a.toNat h.toNat
def ju(n:Nat):Option Int→Option Int→Prop
 |none,none=>True
 |some a,none=>0≤a∧a≤(n:Int)
 |none,some h=>0≤h∧h≤(n:Int)
 |some a,some h=>0≤a∧a≤h∧h≤(n:Int)
def q5:(r:aU)→r.den→r.den→Bool
 | .int _,x,y=>(show Int from x)==y
 | .bool,x,y=>(show Bool from x)==y
 | .str,x,y=>dI x y
 |_,_,_=>false
def kp(e:Env):List aU→List ab→List ab→Bool
 |[r],[x],[y]=>q5 r (x.az e r) (y.az e r)
 |r::rs,x::xs,y::ys=>bif q5 r (x.az e r) (y.az e r)then kp e rs xs ys else false
 |_,_,_=>true
def l9(e:Env)(c:bF):List ab→List (fO c)
 |[]=>[]
 |x::r=>x.get e (.st c)::l9 e c r
def sm(e:Env)(r:aU):List ab→Nat→r.den
 |[],_=>r.fv
 |[x],_=>x.az e r
 |x::l,n=>bif Nat.beq n 0 then x.az e r else sm e r l (n-1)
def jw{V:Type}:(k:aU)→List (k.den × V)→k.den→Option V
 | .int _,l,x=>hO (K:=Int) l x
 | .str,l,x=>hO (K:=ByteArray) l x
 |_,_,_=>none
def rX{V:Type}:(k:aU)→List (k.den × V)→k.den→V→List (k.den × V)
 | .int _,l,x,v=>iS (K:=Int) l x v
 | .str,l,x,v=>iS (K:=ByteArray) l x v
 |_,l,_,_=>l
def bJ.den(M:List aR)(e:Env):bJ→aF
 | .q3 r x=>⟨r,x.get e r⟩
 | .f1 f x=>⟨f.c,f.den (x.az e f.a)⟩
 | .f2 f x y=>⟨f.c,f.den (x.az e f.a) (y.az e f.b)⟩
 | .ez c x lo hi=>⟨.li c,iy (x.az e (.li c)) (l8 e lo) (l8 e hi)⟩
 | .uf x lo hi=>⟨.str,m9 (x.az e .str) (l8 e lo) (l8 e hi)⟩
 | .CO r g x y=>⟨r,bif g.az e .bool then x.get e r else y.get e r⟩
 | .zl n rs l m=>⟨.bool,bif n then !kp e rs l m else kp e rs l m⟩
 | .p3 c rows=>⟨.li c,l9 e c rows⟩
 | .up c l i x=>⟨.li c,List.set (l.az e (.li c)) (ck (i.dyn e)).toNat (x.get e (.st c))⟩
 | .nth r l i=>⟨r,sm e r l (ck (i.dyn e)).toNat⟩
 | .CP c x=>⟨.li c,List.replicate (Int.toNat (x.az e (.int .i64))) (aE c)⟩
 | .CQ k v=>⟨.mp k v,([]:List (k.den × v.den))⟩
 | .CR k v m x y=>⟨.mp k v,rX k (m.az e (.mp k v)) (x.az e k) (y.get e v)⟩
 | .wy k v m x=>⟨.bool,(jw k (show List (k.den × v.den)from m.az e (.mp k v)) (x.az e k)).isSome⟩
 | .ug k v m x=>⟨v,(jw k (show List (k.den × v.den)from m.az e (.mp k v)) (x.az e k)).getD v.fv⟩
 | .ca j aG=>⟨fa (eT aR.d M j).rs,(eT aR.d M j).m (b8 _ (gA e (eT aR.d M j).ps aG))⟩
 | .q4 rs p i=>eT aF.d (dv rs ((Env.at e p).aG (fa rs))) i
inductive fc where
 |f2 (bytes:Nat) (f:cA) (x y:ab)
 |ez (c:bF) (x:ab) (lo hi:Option ab)
 |uf (x:ab) (lo hi:Option ab)
 |up (c:bF) (l i:ab)
 |nth (n:Nat) (i:ab)
 |mk (bytes:Nat) (x y:ab)
 |ca (j:Nat) (aG:List ab)
 |Ri (g:ab) (b:Bool) (n:fc)
def kz{α:Type}(p:Option (α→Prop))(x:α):Prop:=
 match p with
 |none=>True
 |some q=>q x
def fc.ok(M:List aR)(e:Env):fc→Prop
 | .f2 n f x y=>f.ue n (x.az e f.a) (y.az e f.b)
 | .ez c x lo hi=>ju (List.length (x.az e (.li c))) (l8 e lo) (l8 e hi)
 | .uf x lo hi=>ju (ByteArray.size (x.az e .str)) (l8 e lo) (l8 e hi)
 | .up c l i=>0≤ck (i.dyn e)∧ck (i.dyn e)<(List.length (l.az e (.li c)):Int)
 | .nth n i=>0≤ck (i.dyn e)∧ck (i.dyn e)<(n:Int)
 | .mk n x y=>0≤x.az e (.int .i64)∧x.az e (.int .i64)≤y.az e (.int .i64)∧y.az e (.int .i64)≤(maxLen:Int)∧(n:Int)*y.az e (.int .i64)≤281474976710656
 | .ca j aG=>kz (eT aR.d M j).pre (b8 _ (gA e (eT aR.d M j).ps aG))
 | .Ri g b n=>g.az e .bool=b→n.ok M e
inductive sn where
 |st
 |mp (k v:aU)
 deriving DecidableEq
@[reducible] def sn.rt:sn→aU
 | .st=>.int .i64
 | .mp k v=>.mp k v
def sn.den:(q:sn)→ByteArray→q.rt.den→vK
 | .st,s,p=>pV s (Int.toNat p)
 | .mp k v,_,l=>jG v.agg (gh (kU k) (il v) l)
inductive bB where
 |dm (t:TypeId) (l:List ab)
 |rw (t:TypeId) (c:bF) (x:ab)
 |it (q:sn) (x p:ab)
def bB.den(G:a8)(e:Env):bB→eg
 | .dm t l=>.box t (ab.bO G e l)
 | .rw t c x=>.row false t (bZ c) (List.map (b9 c) (x.az e (.li c)))
 | .it q x p=>.bK (q.den (x.az e .str) (p.az e q.rt))
def cw(G:a8)(e:Env):List (Nat × bB)→Heap
 |[]=>[]
 |(i,o)::r=>(i,o.den G e)::cw G e r
def da:List (Nat × bB)→Nat→Option bB
 |[],_=>none
 |(i,o)::r,k=>match Nat.beq i k with
  |true=>some o
  |false=>da r k
def jl:List (Nat × bB)→Nat→bB→List (Nat × bB)
 |[],k,x=>[(k,x)]
 |(i,o)::r,k,x=>match Nat.beq i k with
  |true=>(i,x)::r
  |false=>(i,o)::jl r k x
inductive b6 where
 |d1 (i:Nat) (f:gD) (x:ab)
 |d2 (i:Nat) (f:cA) (x y:ab)
 |rg (i:Nat) (b:ab)
 |dR (g:ab) (b:Bool)
def b6.ok(e:Env):b6→Prop
 | .d1 i f x=>Env.at e i=⟨f.c,f.den (x.az e f.a)⟩
 | .d2 i f x y=>Env.at e i=⟨f.c,f.den (x.az e f.a) (y.az e f.b)⟩
 | .rg i b=>0≤ck (Env.at e i)∧ck (Env.at e i)<ck (b.dyn e)
 | .dR g b=>g.az e .bool=b
structure aq where
 l:ba ab
 h:List (Nat × bB)
 n:Nat
 k:Nat
 g:List b6
def aq.at(S:aq)(i:Nat):ab:=
 match S.l.get i with
 |some x=>x
 |none=>.top
def j2(G:a8)(e:Env)(l:ba ab):Nat→Nat→List aC
 |_,0=>[]
 |i,n+1=>(match l.get i with|some x=>x.den G e|none=>.top)::j2 G e l (i+1) n
def aq.den(G:a8)(N B:Nat)(e:Env)(S:aq):aO:=⟨j2 G e S.l 0 N,cw G e S.h,S.n,B⟩
inductive et where
 |slot (i:Nat) (p:List Nat)
 |box (id off:Nat) (p:List Nat)
 |row (id:Nat)
 |kq (p:et)
def ab.kq:ab→ab
 | .eb _ _=>.cs (.bool true)
 | .cs (.pointer none)=>.cs (.bool false)
 | .fg (.aT .bool i) _ _=>.aT .bool i
 |_=>.top
def ab.sub:ab→List Nat→ab
 |x,[]=>x
 | .ch l,i::p=>(eT .top l i).sub p
 | .tp l,i::p=>(eT .top l i).sub p
 |_,_::_=>.top
def et.dg(S:aq):et→ab
 | .slot i p=>(S.at i).sub p
 | .box id off p=>match da S.h id with
  |some (.dm _ l)=>(eT .top l off).sub p
  |_=>.top
 | .row id=>match da S.h id with
  |some (.rw _ _ x)=>x
  |some (.it _ _ p)=>p
  |_=>.top
 | .kq p=>(p.dg S).kq
inductive b0 where
 |cj
 |ext (n:Nat)
 |ret
 |kZ (n:Nat)
def b0.bT(n:Nat):b0→Bool
 | .kZ m=>Nat.beq m n
 |_=>false
def b0.cX(n:Nat):b0→Bool
 | .ext m=>Nat.beq m n
 |_=>false
structure hy where
 i:Nat
 r:aU
 x:ab
 p:et
inductive aB where
 |cG (x:b0) (S:aq)
 |lt (i:Nat) (x:bJ) (t:aB)
 |eD (n:fc) (t:aB)
 |it (g:ab) (a b:aB)
 |dz (n:Nat) (a:aB) (ps:List (Nat × aU × et)) (k:aB)
 |ei (m xid:Nat) (dn:bJ) (b1:Nat) (ca:List hy) (a k:aB)
 |eY (m xid:Nat) (ca:List hy) (a k:aB)
 |bad (n:Nat)
def aB.fp:aB→(b0→Bool)→Bool
 | .cG x _,f=>f x
 | .lt _ _ t,f=>t.fp f
 | .eD _ t,f=>t.fp f
 | .it _ a b,f=>a.fp f&&b.fp f
 | .dz n a _ k,f=>a.fp (fun x=>x.bT n||f x)&&k.fp f
 | .ei m xid _ _ _ a k,f=>a.fp (fun x=>x.bT m||(x.cX xid||f x))&&k.fp f
 | .eY m xid _ a k,f=>a.fp (fun x=>x.bT m||(x.cX xid||f x))&&k.fp f
 | .bad _,_=>false
def aB.jm(t:aB)(n:Nat):Bool:=t.fp (b0.bT n)
def q6:List hy→List aU
 |[]=>[]
 |a::l=>a.r::q6 l
def dC(e:Env):List hy→List aF
 |[]=>[]
 |a::l=>⟨a.r,a.x.get e a.r⟩::dC e l
def fw(S:aq)(e:Env):List hy→List aF
 |[]=>[]
 |a::l=>⟨a.r,(a.p.dg S).get e a.r⟩::fw S e l
def q7(e:Env):List hy→List aF→Env
 |a::l,d::ds=>q7 (ba.put e a.i d) l ds
 |_,_=>e
abbrev bY(ca:List hy):Type:=(fa (q6 ca)).den
def bl(e:Env)(ca:List hy)(v:bY ca):Env:=q7 e ca (dv (q6 ca) v)
def fR(e:Env)(f:aU→et→aF):List (Nat × aU × et)→Env
 |[]=>e
 |(i,r,p)::l=>fR (ba.put e i (f r p)) f l
def dT:Nat:=18446744073709551616
def ee{X:Type}(m xid:Nat)(ca:List hy)(K:b0→aq→Env→X)(x:b0)(S:aq)(e:Env):Step X (bY ca):=
 match x.bT m with
 |true=>.bq (b8 _ (fw S e ca))
 |false=>match x.cX xid with
  |true=>.cK (b8 _ (fw S e ca))
  |false=>.ret (K x S e)
def aB.fold(M:List aR):aB→{X:Type}→Env→(b0→aq→Env→X)→X→X
  | .cG x S,_,e,K,_=>K x S e
  | .lt i x t,_,e,K,d=>t.fold M (ba.put e i (x.den M e)) K d
  | .eD _ t,_,e,K,d=>t.fold M e K d
  | .it g a b,_,e,K,d=>bif g.az e .bool then a.fold M e K d else b.fold M e K d
  | .dz n a ps k,_,e,K,d=>bif a.jm n
    then k.fold M (fR e (fun r p=>⟨r,a.fold M e (fun _ S ay=>(p.dg S).get ay r) r.fv⟩) ps) K d
    else bif a.fold M e (fun x _ _=>x.bT n) false
      then k.fold M (fR e (fun r p=>⟨r,a.fold M e (fun x S ay=>bif x.bT n then(p.dg S).get ay r else r.fv) r.fv⟩) ps) K d
      else a.fold M e K d
  | .ei m xid dn b1 ca a k,X,e,K,d=>Sum.elim (fun r=>r) (fun v=>k.fold M (bl e ca v) K d) (bo (fun i (v:bY ca)=>bif a.jm m
        then(.bq (a.fold M (bl (ba.put e b1 ⟨.int .i64,(i:Int)⟩) ca v) (fun _ S ay=>b8 _ (fw S ay ca)) v):Step X (bY ca))
        else a.fold M (bl (ba.put e b1 ⟨.int .i64,(i:Int)⟩) ca v) (ee m xid ca K) (.cK v)) 0 (ck (dn.den M e)).toNat (b8 _ (dC e ca)))
  | .eY m xid ca a k,X,e,K,d=>Sum.elim (fun r=>r) (fun v=>k.fold M (bl e ca v) K d) (c5 (fun v=>(a.fold M (bl e ca v) (ee m xid ca K) (.cK v):Step X (bY ca))) dT (b8 _ (dC e ca)))
  | .bad _,_,_,_,d=>d
def aB.safe(M:List aR):aB→Env→Prop
  | .cG _ _,_=>True
  | .lt i x t,e=>t.safe M (ba.put e i (x.den M e))
  | .eD n t,e=>n.ok M e∧t.safe M e
  | .it g a b,e=>(g.az e .bool=true→a.safe M e)∧(g.az e .bool=false→b.safe M e)
  | .dz n a ps k,e=>a.safe M e∧(a.fold M e (fun x _ _=>x.bT n) false=true→k.safe M (fR e (fun r p=>⟨r,bif a.jm n
      then a.fold M e (fun _ S ay=>(p.dg S).get ay r) r.fv
      else a.fold M e (fun x S ay=>bif x.bT n then(p.dg S).get ay r else r.fv) r.fv⟩) ps))
  | .ei m xid dn b1 ca a k,e=>(∃I:Nat→bY ca→Prop,I 0 (b8 _ (dC e ca))∧∀(i:Nat) (v:bY ca),i<(ck (dn.den M e)).toNat→I i v→
      a.safe M (bl (ba.put e b1 ⟨.int .i64,(i:Int)⟩) ca v)∧∀bg,a.fold M (bl (ba.put e b1 ⟨.int .i64,(i:Int)⟩) ca v) (ee m xid ca fun _ _ _=>()) (.cK v)= .bq bg→I (i+1) bg)∧
      Sum.elim (fun _=>True) (fun v=>k.safe M (bl e ca v)) (bo (fun i (v:bY ca)=>a.fold M (bl (ba.put e b1 ⟨.int .i64,(i:Int)⟩) ca v) (ee m xid ca fun _ _ _=>()) (.cK v)) 0 (ck (dn.den M e)).toNat (b8 _ (dC e ca)))
  | .eY m xid ca a k,e=>(∃I:bY ca→Prop,I (b8 _ (dC e ca))∧∀(v:bY ca),I v→
      a.safe M (bl e ca v)∧∀bg,a.fold M (bl e ca v) (ee m xid ca fun _ _ _=>()) (.cK v)= .bq bg→I bg)∧
      j0 (fun v=>(a.fold M (bl e ca v) (ee m xid ca fun _ _ _=>()) (.cK v):Step Unit (bY ca))) dT (b8 _ (dC e ca))∧
      Sum.elim (fun _=>True) (fun v=>k.safe M (bl e ca v)) (c5 (fun v=>(a.fold M (bl e ca v) (ee m xid ca fun _ _ _=>()) (.cK v):Step Unit (bY ca))) dT (b8 _ (dC e ca)))
  | .bad _,_=>False
def aB.clean:aB→Bool
 | .cG _ _=>true
 | .lt _ _ t=>t.clean
 | .eD _ _=>false
 | .it _ a b=>a.clean&&b.clean
 | .dz _ a _ k=>a.clean&&k.clean
 | .ei _ _ _ _ _ a k=>a.clean&&k.clean
 | .eY _ _ _ _ _=>false
 | .bad _=>false
theorem q8(M:List aR): ∀{t:aB} {e:Env},t.clean=true→t.safe M e
 | .cG _ _,_,_=>trivial
 | .lt _ _ t,_,h=>q8 M (t:=t) h
 | .eD _ _,_,h=>by cases h
 | .it _ a b,_,h=>by
  simp only[aB.clean,Bool.and_eq_true]at h;exact⟨fun _=>q8 M h.1,fun _=>q8 M h.2⟩
 | .dz _ a _ k,_,h=>by
  simp only[aB.clean,Bool.and_eq_true]at h;exact⟨q8 M h.1,fun _=>q8 M h.2⟩
 | .ei _ _ _ _ _ a k,_,h=>by
  simp only[aB.clean,Bool.and_eq_true]at h;refine⟨⟨fun _ _=>True,trivial,fun _ _ _ _=>⟨q8 M h.1,fun _ _=>trivial⟩⟩,?_⟩
  generalize bo _ _ _ _=L
  cases L with
  |inl r=>trivial
  |inr v=>exact q8 M h.2
 | .eY _ _ _ _ _,_,h=>by cases h
 | .bad _,_,h=>by cases h
end Go.aK
namespace Go.aK
open Go
def iK{R A X:Type}(f:R→X):Step R A→Step X A
 | .ret r=>.ret (f r)
 | .cK a=>.cK a
 | .bq a=>.bq a
theorem wz{R A X:Type}(f:R→X){b:Nat→A→Step R A}{c:Nat→A→Step X A}(h: ∀i a,c i a=iK f (b i a)): ∀(m k:Nat) (a:A),bo c k m a=Sum.map f id (bo b k m a)
 |0,_,_=>rfl
 |m+1,k,a=>by
  simp only[bo,h]
  cases b k a with
  |ret r=>rfl
  |cK a=>rfl
  |bq a=>exact wz f h m (k+1) a
theorem wA{R A X:Type}(f:R→X){b:A→Step R A}{c:A→Step X A}(h: ∀a,c a=iK f (b a)): ∀(m:Nat) (a:A),c5 c m a=Sum.map f id (c5 b m a)
 |0,_=>rfl
 |m+1,a=>by
  simp only[c5,h]
  cases b a with
  |ret r=>rfl
  |cK a=>rfl
  |bq a=>exact wA f h m a
theorem JG{R A X:Type}(f:R→X){b:A→Step R A}{c:A→Step X A}(h: ∀a,c a=iK f (b a)): ∀(m:Nat) (a:A),j0 c m a↔j0 b m a
 |0,_=>Iff.rfl
 |m+1,a=>by
  simp only[j0,h]
  cases b a with
  |ret r=>exact Iff.rfl
  |cK a=>exact Iff.rfl
  |bq a=>exact JG f h m a
theorem wB{X Y:Type}(g:X→Y)(m xid:Nat)(ca:List hy)(K:b0→aq→Env→X)(x:b0)(S:aq)(e:Env):iK g (ee m xid ca K x S e)=ee m xid ca (fun x S e=>g (K x S e)) x S e:=by
 unfold ee
 split
 ·rfl
 ·split<;>rfl
section
variable {X:Type} {m xid:Nat} {ca:List hy} {K:b0→aq→Env→X} {x:b0} {S:aq} {e:Env}
theorem nA(h:x.bT m=true):ee m xid ca K x S e= .bq (b8 _ (fw S e ca)):=by unfold ee;rw[h]
theorem nB(h:x.bT m=false)(h':x.cX xid=true):ee m xid ca K x S e= .cK (b8 _ (fw S e ca)):=by unfold ee;rw[h,h']
theorem j3(h:x.bT m=false)(h':x.cX xid=false):ee m xid ca K x S e= .ret (K x S e):=by unfold ee;rw[h,h']
end
section
variable {M:List aR}
theorem fold_map: ∀(t:aB) {X Y:Type} (g:X→Y) (e:Env) (K:b0→aq→Env→X) (d:X),g (t.fold M e K d)=t.fold M e (fun x S ay=>g (K x S ay)) (g d)
  | .cG _ _,_,_,_,_,_,_=>rfl
  | .lt _ _ t,_,_,g,_,K,d=>fold_map t g _ K d
  | .eD _ t,_,_,g,_,K,d=>fold_map t g _ K d
  | .it c a b,_,_,g,e,K,d=>by
    simp only[aB.fold]
    cases c.az e .bool with
    |true=>exact fold_map a g e K d
    |false=>exact fold_map b g e K d
  | .dz n a ps k,_,_,g,e,K,d=>by
    simp only[aB.fold]
    cases a.jm n with
    |true=>exact fold_map k g _ K d
    |false=>cases a.fold M e (fun x _ _=>x.bT n) false with
      |true=>exact fold_map k g _ K d
      |false=>exact fold_map a g e K d
  | .ei m xid dn b1 ca a k,X,Y,g,e,K,d=>by
    simp only[aB.fold]
    rw[wz g (c:=fun i (v:bY ca)=>bif a.jm m
        then(.bq (a.fold M (bl (ba.put e b1 ⟨.int .i64,(i:Int)⟩) ca v) (fun _ S ay=>b8 _ (fw S ay ca)) v):Step Y (bY ca))
        else a.fold M (bl (ba.put e b1 ⟨.int .i64,(i:Int)⟩) ca v) (ee m xid ca fun x S e=>g (K x S e)) (.cK v))
      (b:=fun i (v:bY ca)=>bif a.jm m
        then(.bq (a.fold M (bl (ba.put e b1 ⟨.int .i64,(i:Int)⟩) ca v) (fun _ S ay=>b8 _ (fw S ay ca)) v):Step X (bY ca))
        else a.fold M (bl (ba.put e b1 ⟨.int .i64,(i:Int)⟩) ca v) (ee m xid ca K) (.cK v))
      (fun i v=>by
        cases a.jm m with
        |true=>rfl
        |false=>
          simp only[cond_false];rw[fold_map a (iK g)];simp only[wB]
          rfl)]
    generalize bo _ _ _ _=L
    cases L with
    |inl r=>rfl
    |inr v=>exact fold_map k g _ K d
  | .eY m xid ca a k,X,Y,g,e,K,d=>by
    simp only[aB.fold]
    rw[wA g (c:=fun(v:bY ca)=>a.fold M (bl e ca v) (ee m xid ca fun x S e=>g (K x S e)) (.cK v))
      (b:=fun(v:bY ca)=>a.fold M (bl e ca v) (ee m xid ca K) (.cK v))
      (fun v=>by
        rw[fold_map a (iK g)];simp only[wB]
        rfl)]
    generalize c5 _ _ _=L
    cases L with
    |inl r=>rfl
    |inr v=>exact fold_map k g _ K d
  | .bad _,_,_,_,_,_,_=>rfl
abbrev mO:=b0 × aq × Env
def run(M:List aR)(t:aB)(e:Env):Option mO:=t.fold M e (fun x S ay=>some (x,S,ay)) none
theorem j4{t:aB}{e ay:Env}{x:b0}{S:aq}(h:run M t e=some (x,S,ay)){X:Type}(K:b0→aq→Env→X)(d:X):t.fold M e K d=K x S ay:=by
 have:=fold_map (M:=M) t (fun(o:Option mO)=>match o with|some (x,S,ay)=>K x S ay|none=>d) e (fun x S ay=>some (x,S,ay)) none
 simp only at this
 rw[←this]
 unfold run at h
 rw[h]
theorem zm{t:aB}{e:Env}(h:run M t e=none){X:Type}(K:b0→aq→Env→X)(d:X):t.fold M e K d=d:=by
 have:=fold_map (M:=M) t (fun(o:Option mO)=>match o with|some (x,S,ay)=>K x S ay|none=>d) e (fun x S ay=>some (x,S,ay)) none
 simp only at this
 rw[←this]
 unfold run at h
 rw[h]
def c4(M:List aR)(m xid:Nat)(ca:List hy)(a:aB)(e:Env)(v:bY ca):Step (Option mO) (bY ca):=
 match run M a e with
 |some (x,S,ay)=>ee m xid ca (fun x S e=>some (x,S,e)) x S ay
 |none=>.cK v
theorem wC(m xid:Nat)(ca:List hy)(a:aB)(e:Env)(v:bY ca):a.fold M e (ee m xid ca fun x S e=>some (x,S,e)) (.cK v)=c4 M m xid ca a e v:=by
 unfold c4
 split
 ·rename_i x S ay h
  exact j4 h _ _
 ·rename_i h
  exact zm h _ _
theorem Rj{m xid b1:Nat}{dn:bJ}{ca:List hy}{a k:aB}{e:Env}{X:Type}(K:b0→aq→Env→X)(d:X)(h:a.jm m=true→∀e,∃x S ay,run M a e=some (x,S,ay)∧x.bT m=true):
 (aB.ei m xid dn b1 ca a k).fold M e K d=Sum.elim (fun r=>r) (fun v=>k.fold M (bl e ca v) K d) (bo (fun i (v:bY ca)=>a.fold M (bl (ba.put e b1 ⟨.int .i64,(i:Int)⟩) ca v) (ee m xid ca K) (.cK v)) 0 (ck (dn.den M e)).toNat (b8 _ (dC e ca))):=by
 simp only[aB.fold]
 cases af:a.jm m with
 |false=>rfl
 |true=>
  have:(fun(i:Nat) (v:bY ca)=>(.bq (a.fold M (bl (ba.put e b1 ⟨.int .i64,(i:Int)⟩) ca v) (fun _ S ay=>b8 _ (fw S ay ca)) v):Step X (bY ca)))=fun(i:Nat) (v:bY ca)=>a.fold M (bl (ba.put e b1 ⟨.int .i64,(i:Int)⟩) ca v) (ee m xid ca K) (.cK v):=by
   funext i v
   obtain⟨x,S,ay,aa,ae⟩:=h af (bl (ba.put e b1 ⟨.int .i64,(i:Int)⟩) ca v);simp only[j4 aa,ee,ae]
  simp only[cond_true];rw[this]
theorem iY: ∀{t:aB} {f:b0→Bool} {e:Env},t.fp f=true→∃x S ay,run M t e=some (x,S,ay)∧f x=true
 | .cG x S,_,e,h=>⟨x,S,e,rfl,h⟩
 | .lt _ _ t,_,_,h=>iY (t:=t) h
 | .eD _ t,_,_,h=>iY (t:=t) h
 | .it c a b,f,e,h=>by
  simp only[aB.fp,Bool.and_eq_true]at h;simp only[run,aB.fold]
  cases c.az e .bool with
  |true=>exact iY (t:=a) h.1
  |false=>exact iY (t:=b) h.2
 | .dz n a ps k,f,e,h=>by
  simp only[aB.fp,Bool.and_eq_true]at h;obtain⟨x,S,ay,aa,ae⟩:=iY (t:=a) (e:=e) h.1;simp only[run,aB.fold]
  cases a.jm n with
  |true=>exact iY (t:=k) h.2
  |false=>
   rw[j4 aa]
   cases hx:x.bT n with
   |true=>exact iY (t:=k) h.2
   |false=>
    rw[hx,Bool.false_or]at ae;exact⟨x,S,ay,aa,ae⟩
 | .ei m xid dn b1 ca a k,f,e,h=>by
  simp only[aB.fp,Bool.and_eq_true]at h
  have key: ∀(n i:Nat) (v:bY ca),(∃bg,bo (fun i (v:bY ca)=>a.fold M (bl (ba.put e b1 ⟨.int .i64,(i:Int)⟩) ca v) (ee m xid ca fun x S e=>some (x,S,e)) (.cK v)) i n v= .inr bg)∨
   ∃x S ay,bo (fun i (v:bY ca)=>a.fold M (bl (ba.put e b1 ⟨.int .i64,(i:Int)⟩) ca v) (ee m xid ca fun x S e=>some (x,S,e)) (.cK v)) i n v= .inl (some (x,S,ay))∧f x=true:=by
   intro n
   induction n with
   |zero=>exact fun i v=>.inl ⟨v,rfl⟩
   |succ n aZ=>
    intro i v;obtain⟨x,S,ay,aa,ae⟩:=iY (t:=a) (e:=bl (ba.put e b1 ⟨.int .i64,(i:Int)⟩) ca v) h.1;simp only[bo,j4 aa]
    cases hx:x.bT m with
    |true=>
     rw[nA hx];exact aZ (i+1) _
    |false=>
     cases ax:x.cX xid with
     |true=>
      rw[nB hx ax];exact .inl ⟨_,rfl⟩
     |false=>
      rw[j3 hx ax];rw[hx,ax,Bool.false_or,Bool.false_or]at ae;exact .inr ⟨x,S,ay,rfl,ae⟩
  unfold run;rw[Rj _ _ fun af e=>iY (t:=a) (e:=e) af]
  rcases key (ck (dn.den M e)).toNat 0 (b8 _ (dC e ca))with⟨bg,aw⟩|⟨x,S,ay,aw,hf⟩
  ·rw[aw];exact iY (t:=k) h.2
  ·rw[aw];exact⟨x,S,ay,rfl,hf⟩
 | .eY m xid ca a k,f,e,h=>by
  simp only[aB.fp,Bool.and_eq_true]at h
  have key: ∀(n:Nat) (v:bY ca),(∃bg,c5 (fun(v:bY ca)=>(a.fold M (bl e ca v) (ee m xid ca fun x S e=>some (x,S,e)) (.cK v):Step (Option mO) (bY ca))) n v= .inr bg)∨
   ∃x S ay,c5 (fun(v:bY ca)=>(a.fold M (bl e ca v) (ee m xid ca fun x S e=>some (x,S,e)) (.cK v):Step (Option mO) (bY ca))) n v= .inl (some (x,S,ay))∧f x=true:=by
   intro n
   induction n with
   |zero=>exact fun v=>.inl ⟨v,rfl⟩
   |succ n aZ=>
    intro v;simp only[c5];obtain⟨x,S,ay,aa,ae⟩:=iY (t:=a) (e:=bl e ca v) h.1;rw[j4 aa]
    cases hx:x.bT m with
    |true=>
     rw[nA hx];exact aZ _
    |false=>
     cases ax:x.cX xid with
     |true=>
      rw[nB hx ax];exact .inl ⟨_,rfl⟩
     |false=>
      rw[j3 hx ax];rw[hx,ax,Bool.false_or,Bool.false_or]at ae;exact .inr ⟨x,S,ay,rfl,ae⟩
  simp only[run,aB.fold]
  rcases key dT (b8 _ (dC e ca))with⟨bg,aw⟩|⟨x,S,ay,aw,hf⟩
  ·rw[aw];exact iY (t:=k) h.2
  ·rw[aw];exact⟨x,S,ay,rfl,hf⟩
 | .bad _,_,_,h=>by cases h
theorem p4{n:Nat}{a k:aB}{ps:List (Nat × aU × et)}{e aA:Env}{x:b0}{aS:aq}(h:run M a e=some (x,aS,aA))(hx:x.bT n=true){X:Type}(K:b0→aq→Env→X)(d:X):
 (aB.dz n a ps k).fold M e K d=k.fold M (fR e (fun r p=>⟨r,(p.dg aS).get aA r⟩) ps) K d:=by
 simp only[aB.fold]
 cases a.jm n with
 |true=>simp only[j4 h,cond_true]
 |false=>simp only[j4 h,hx,cond_true,cond_false]
theorem mP{n:Nat}{a k:aB}{ps:List (Nat × aU × et)}{e aA:Env}{x:b0}{aS:aq}(h:run M a e=some (x,aS,aA))(hx:x.bT n=false){X:Type}(K:b0→aq→Env→X)(d:X):
 (aB.dz n a ps k).fold M e K d=K x aS aA:=by
 simp only[aB.fold]
 cases af:a.jm n with
 |true=>
  obtain⟨iB,df,ay,aa,ae⟩:=iY (M:=M) (t:=a) (e:=e) af;rw[aa]at h;cases h;rw[hx]at ae;cases ae
 |false=>simp only[j4 h,hx,cond_false]
theorem so{n:Nat}{a k:aB}{ps:List (Nat × aU × et)}{e:Env}(h:run M a e=none){X:Type}(K:b0→aq→Env→X)(d:X):
 (aB.dz n a ps k).fold M e K d=d:=by
 simp only[aB.fold]
 cases af:a.jm n with
 |true=>
  obtain⟨iB,df,ay,aa,ae⟩:=iY (M:=M) (t:=a) (e:=e) af;rw[aa]at h;cases h
 |false=>simp only[zm h,cond_false]
theorem Rk{n:Nat}{a k:aB}{ps:List (Nat × aU × et)}{e aA:Env}{x:b0}{aS:aq}(ai:(aB.dz n a ps k).safe M e)(h:run M a e=some (x,aS,aA))(hx:x.bT n=true):
 k.safe M (fR e (fun r p=>⟨r,(p.dg aS).get aA r⟩) ps):=by
 have aa:=ai.2 (by rw[j4 h];exact hx)
 have ae:(fun(r:aU) (p:et)=>(⟨r,bif a.jm n
  then a.fold M e (fun _ S ay=>(p.dg S).get ay r) r.fv
  else a.fold M e (fun x S ay=>bif x.bT n then(p.dg S).get ay r else r.fv) r.fv⟩:aF))=fun r p=>⟨r,(p.dg aS).get aA r⟩:=by
  funext r p
  simp only[j4 h,hx]
  cases a.jm n<;>rfl
 rw[ae]at aa
 exact aa
theorem wD{m xid b1:Nat}{dn:bJ}{ca:List hy}{a k:aB}{e:Env}{X:Type}(K:b0→aq→Env→X)(d:X):
 (aB.ei m xid dn b1 ca a k).fold M e K d=Sum.elim (fun r=>r) (fun v=>k.fold M (bl e ca v) K d) (bo (fun i (v:bY ca)=>a.fold M (bl (ba.put e b1 ⟨.int .i64,(i:Int)⟩) ca v) (ee m xid ca K) (.cK v)) 0 (ck (dn.den M e)).toNat (b8 _ (dC e ca))):=Rj K d fun af _=>iY af
end
end Go.aK
namespace Go.aK
open Go
def aB.rel:aB→(b0→b0)→aB
 | .cG x S,f=>.cG (f x) S
 | .lt i x t,f=>.lt i x (t.rel f)
 | .eD n t,f=>.eD n (t.rel f)
 | .it c a b,f=>.it c (a.rel f) (b.rel f)
 | .dz n a ps k,f=>.dz n (a.rel fun x=>bif x.bT n then x else f x) ps (k.rel f)
 | .ei m xid dn b1 ca a k,f=>.ei m xid dn b1 ca (a.rel fun x=>bif x.bT m||x.cX xid then x else f x) (k.rel f)
 | .eY m xid ca a k,f=>.eY m xid ca (a.rel fun x=>bif x.bT m||x.cX xid then x else f x) (k.rel f)
 | .bad n,_=>.bad n
def aB.iq:aB→(b0→b0)→Prop
 | .cG _ _,_=>True
 | .lt _ _ t,f=>t.iq f
 | .eD _ t,f=>t.iq f
 | .it _ a b,f=>a.iq f∧b.iq f
 | .dz n a _ k,f=>(∀x,x.bT n=false→(f x).bT n=false)∧(a.iq fun x=>bif x.bT n then x else f x)∧k.iq f
 | .ei m xid _ _ _ a k,f=>(∀x,x.bT m=false→x.cX xid=false→(f x).bT m=false∧(f x).cX xid=false)∧(a.iq fun x=>bif x.bT m||x.cX xid then x else f x)∧k.iq f
 | .eY m xid _ a k,f=>(∀x,x.bT m=false→x.cX xid=false→(f x).bT m=false∧(f x).cX xid=false)∧(a.iq fun x=>bif x.bT m||x.cX xid then x else f x)∧k.iq f
 | .bad _,_=>True
section
variable {M:List aR}
theorem CS{X:Type}{m xid:Nat}{ca:List hy}{K:b0→aq→Env→X}{f:b0→b0}(h: ∀x,x.bT m=false→x.cX xid=false→(f x).bT m=false∧(f x).cX xid=false)(x:b0)(S:aq)(e:Env):
 ee m xid ca K (bif x.bT m||x.cX xid then x else f x) S e=ee m xid ca (fun x S e=>K (f x) S e) x S e:=by
 cases hx:x.bT m with
 |true=>rw[Bool.true_or,cond_true,nA hx,nA hx]
 |false=>
  cases ax:x.cX xid with
  |true=>rw[Bool.false_or,cond_true,nB hx ax,nB hx ax]
  |false=>
   obtain⟨aa,ae⟩:=h x hx ax;rw[Bool.false_or,cond_false,j3 hx ax,j3 aa ae]
theorem JH: ∀{t:aB} {f g:b0→Bool},(∀x,f x=g x)→t.fp f=t.fp g:=fun {t f g} h=>by
 have:f=g:=funext h
 rw[this]
theorem oL: ∀{t:aB} {f:b0→b0} {g:b0→Bool},t.iq f→(t.rel f).fp g=t.fp fun x=>g (f x)
 | .cG _ _,_,_,_=>rfl
 | .lt _ _ t,_,_,h=>oL (t:=t) h
 | .eD _ t,_,_,h=>oL (t:=t) h
 | .it _ a b,f,g,h=>by simp only[aB.rel,aB.fp,oL (t:=a) h.1,oL (t:=b) h.2]
 | .dz n a ps k,f,g,h=>by
  simp only[aB.rel,aB.fp,oL (t:=a) h.2.1,oL (t:=k) h.2.2]
  congr 1
  refine JH fun x=>?_
  cases hx:x.bT n with
  |true=>simp[hx]
  |false=>simp[h.1 x hx]
 | .ei m xid dn b1 ca a k,f,g,h=>by
  simp only[aB.rel,aB.fp,oL (t:=a) h.2.1,oL (t:=k) h.2.2]
  congr 1
  refine JH fun x=>?_
  cases hx:x.bT m with
  |true=>simp[hx]
  |false=>
   cases ax:x.cX xid with
   |true=>simp[ax]
   |false=>simp[(h.1 x hx ax).1,(h.1 x hx ax).2]
 | .eY m xid ca a k,f,g,h=>by
  simp only[aB.rel,aB.fp,oL (t:=a) h.2.1,oL (t:=k) h.2.2]
  congr 1
  refine JH fun x=>?_
  cases hx:x.bT m with
  |true=>simp[hx]
  |false=>
   cases ax:x.cX xid with
   |true=>simp[ax]
   |false=>simp[(h.1 x hx ax).1,(h.1 x hx ax).2]
 | .bad _,_,_,_=>rfl
theorem ma: ∀{t:aB} {f:b0→b0},t.iq f→∀{X:Type} (e:Env) (K:b0→aq→Env→X) (d:X),(t.rel f).fold M e K d=t.fold M e (fun x S ay=>K (f x) S ay) d
 | .cG _ _,_,_,_,_,_,_=>rfl
 | .lt _ _ t,_,h,_,_,K,d=>ma (t:=t) h _ K d
 | .eD _ t,_,h,_,_,K,d=>ma (t:=t) h _ K d
 | .it c a b,f,h,_,e,K,d=>by
  simp only[aB.rel,aB.fold,ma (t:=a) h.1,ma (t:=b) h.2]
 | .dz n a ps k,f,h,_,e,K,d=>by
  have ag:run M (a.rel fun x=>bif x.bT n then x else f x) e=(run M a e).map fun l=>(bif l.1.bT n then l.1 else f l.1,l.2):=by
   unfold run;rw[ma (t:=a) h.2.1];rw[fold_map a (fun o:Option mO=>o.map fun l=>(bif l.1.bT n then l.1 else f l.1,l.2))]
   rfl
  show(aB.dz n (a.rel fun x=>bif x.bT n then x else f x) ps (k.rel f)).fold M e K d=_
  cases cn:run M a e with
  |none=>rw[so (by rw[ag,cn];rfl),so cn]
  |some l=>
   obtain⟨x,aS,aA⟩:=l
   have aa:run M (a.rel fun x=>bif x.bT n then x else f x) e=some (bif x.bT n then x else f x,aS,aA):=by rw[ag,cn];rfl
   cases hx:x.bT n with
   |true=>
    rw[hx,cond_true]at aa;rw[p4 aa hx,p4 cn hx];exact ma (t:=k) h.2.2 _ K d
   |false=>
    rw[hx,cond_false]at aa;rw[mP aa (h.1 x hx),mP cn hx]
 | .ei m xid dn b1 ca a k,f,h,X,e,K,d=>by
  show(aB.ei m xid dn b1 ca (a.rel fun x=>bif x.bT m||x.cX xid then x else f x) (k.rel f)).fold M e K d=_
  rw[wD,wD]
  have:(fun(i:Nat) (v:bY ca)=>(a.rel fun x=>bif x.bT m||x.cX xid then x else f x).fold M (bl (ba.put e b1 ⟨.int .i64,(i:Int)⟩) ca v) (ee m xid ca K) (.cK v))=fun(i:Nat) (v:bY ca)=>a.fold M (bl (ba.put e b1 ⟨.int .i64,(i:Int)⟩) ca v) (ee m xid ca fun x S ay=>K (f x) S ay) (.cK v):=by
   funext i v
   rw[ma (t:=a) h.2.1];simp only[CS h.1]
  rw[this];generalize bo _ _ _ _=L
  cases L with
  |inl r=>rfl
  |inr v=>exact ma (t:=k) h.2.2 _ K d
 | .eY m xid ca a k,f,h,X,e,K,d=>by
  simp only[aB.rel,aB.fold]
  have:(fun(v:bY ca)=>(a.rel fun x=>bif x.bT m||x.cX xid then x else f x).fold M (bl e ca v) (ee m xid ca K) (.cK v))=fun(v:bY ca)=>a.fold M (bl e ca v) (ee m xid ca fun x S ay=>K (f x) S ay) (.cK v):=by
   funext v
   rw[ma (t:=a) h.2.1];simp only[CS h.1]
  rw[this];generalize c5 _ _ _=L
  cases L with
  |inl r=>rfl
  |inr v=>exact ma (t:=k) h.2.2 _ K d
 | .bad _,_,_,_,_,_,_=>rfl
theorem vC{t:aB}{f:b0→b0}(h:t.iq f)(e:Env):run M (t.rel f) e=(run M t e).map fun l=>(f l.1,l.2):=by
 unfold run
 rw[ma h,fold_map t (fun o:Option mO=>o.map fun l=>(f l.1,l.2))]
 rfl
theorem kL: ∀{t:aB} {f:b0→b0},t.iq f→∀{e:Env},(t.rel f).safe M e↔t.safe M e
 | .cG _ _,_,_,_=>Iff.rfl
 | .lt _ _ t,_,h,_=>kL (t:=t) h
 | .eD _ t,_,h,_=>by simp only[aB.rel,aB.safe,kL (t:=t) h]
 | .it c a b,f,h,e=>by simp only[aB.rel,aB.safe,kL (t:=a) h.1,kL (t:=b) h.2]
 | .dz n a ps k,f,h,e=>by
  have af: ∀x,(bif b0.bT n x then x else f x).bT n=x.bT n:=fun x=>by
   cases hx:x.bT n with
   |true=>exact hx
   |false=>exact h.1 x hx
  simp only[aB.rel,aB.safe,kL (t:=a) h.2.1,kL (t:=k) h.2.2,aB.jm,oL h.2.1,ma h.2.1,af]
 | .ei m xid dn b1 ca a k,f,h,e=>by
  simp only[aB.rel,aB.safe,kL (t:=a) h.2.1,kL (t:=k) h.2.2,ma h.2.1,CS h.1]
 | .eY m xid ca a k,f,h,e=>by
  simp only[aB.rel,aB.safe,kL (t:=a) h.2.1,kL (t:=k) h.2.2,ma h.2.1,CS h.1]
 | .bad _,_,_,_=>Iff.rfl
end
def aB.lvl:aB→Nat
 | .lt _ _ t=>t.lvl
 | .eD _ t=>t.lvl
 | .it _ a b=>Nat.max a.lvl b.lvl
 | .dz n a _ k=>Nat.max n (Nat.max a.lvl k.lvl)
 | .ei m _ _ _ _ a k=>Nat.max m (Nat.max a.lvl k.lvl)
 | .eY m _ _ a k=>Nat.max m (Nat.max a.lvl k.lvl)
 |_=>0
def fI(n:Nat):b0→b0
 | .cj=>.kZ n
 |x=>x
def oM(i:Nat):b0→b0
 | .ext m=>match Nat.beq m i with
  |true=>.cj
  |false=>.ext m
 |x=>x
theorem zc7(i n:Nat)(x:b0)(h:x.bT n=false):(oM i x).bT n=false:=by
 unfold oM
 split
 ·split
  ·rfl
  ·exact h
 ·exact h
theorem zc8(i n:Nat)(x:b0)(h:x.cX n=false):(oM i x).cX n=false:=by
 unfold oM
 split
 ·split
  ·rfl
  ·exact h
 ·exact h
theorem zc9(i n:Nat)(hn:i≠n)(x:b0)(h:x.bT n=false):(fI i x).bT n=false:=by
 unfold fI
 split
 ·show Nat.beq i n=false
  rw[p2];exact decide_eq_false hn
 ·exact h
theorem zda(i n:Nat)(x:b0)(h:x.cX n=false):(fI i x).cX n=false:=by
 unfold fI
 split
 ·rfl
 ·exact h
theorem mQ: ∀{t:aB} {f:b0→b0} (N:Nat),t.lvl<N→(∀n,n<N→∀x,x.bT n=false→(f x).bT n=false)→(∀n x,x.cX n=false→(f x).cX n=false)→t.iq f
 | .cG _ _,_,_,_,_,_=>trivial
 | .lt _ _ t,_,N,ar,aa,ae=>mQ (t:=t) N ar aa ae
 | .eD _ t,_,N,ar,aa,ae=>mQ (t:=t) N ar aa ae
 | .it _ a b,f,N,ar,aa,ae=>by
  have ar:Nat.max a.lvl b.lvl<N:=ar
  have g1:a.lvl≤Nat.max a.lvl b.lvl:=Nat.le_max_left _ _
  have g2:b.lvl≤Nat.max a.lvl b.lvl:=Nat.le_max_right _ _
  exact⟨mQ (t:=a) N (by omega) aa ae,mQ (t:=b) N (by omega) aa ae⟩
 | .dz n a _ k,f,N,ar,aa,ae=>by
  have ar:Nat.max n (Nat.max a.lvl k.lvl)<N:=ar
  have g0:n≤Nat.max n (Nat.max a.lvl k.lvl):=Nat.le_max_left _ _
  have g3:Nat.max a.lvl k.lvl≤Nat.max n (Nat.max a.lvl k.lvl):=Nat.le_max_right _ _
  have g1:a.lvl≤Nat.max a.lvl k.lvl:=Nat.le_max_left _ _
  have g2:k.lvl≤Nat.max a.lvl k.lvl:=Nat.le_max_right _ _
  refine⟨aa n (by omega),mQ (t:=a) N (by omega) (fun p ak x hx=>?_) (fun p x hx=>?_),mQ (t:=k) N (by omega) aa ae⟩
  ·cases x.bT n with
   |true=>exact hx
   |false=>exact aa p ak x hx
  ·cases x.bT n with
   |true=>exact hx
   |false=>exact ae p x hx
 | .ei m xid _ _ _ a k,f,N,ar,aa,ae=>by
  have ar:Nat.max m (Nat.max a.lvl k.lvl)<N:=ar
  have g0:m≤Nat.max m (Nat.max a.lvl k.lvl):=Nat.le_max_left _ _
  have g3:Nat.max a.lvl k.lvl≤Nat.max m (Nat.max a.lvl k.lvl):=Nat.le_max_right _ _
  have g1:a.lvl≤Nat.max a.lvl k.lvl:=Nat.le_max_left _ _
  have g2:k.lvl≤Nat.max a.lvl k.lvl:=Nat.le_max_right _ _
  refine⟨fun x hx ax=>⟨aa m (by omega) x hx,ae xid x ax⟩,mQ (t:=a) N (by omega) (fun p ak x hx=>?_) (fun p x hx=>?_),mQ (t:=k) N (by omega) aa ae⟩
  ·cases x.bT m||x.cX xid with
   |true=>exact hx
   |false=>exact aa p ak x hx
  ·cases x.bT m||x.cX xid with
   |true=>exact hx
   |false=>exact ae p x hx
 | .eY m xid _ a k,f,N,ar,aa,ae=>by
  have ar:Nat.max m (Nat.max a.lvl k.lvl)<N:=ar
  have g0:m≤Nat.max m (Nat.max a.lvl k.lvl):=Nat.le_max_left _ _
  have g3:Nat.max a.lvl k.lvl≤Nat.max m (Nat.max a.lvl k.lvl):=Nat.le_max_right _ _
  have g1:a.lvl≤Nat.max a.lvl k.lvl:=Nat.le_max_left _ _
  have g2:k.lvl≤Nat.max a.lvl k.lvl:=Nat.le_max_right _ _
  refine⟨fun x hx ax=>⟨aa m (by omega) x hx,ae xid x ax⟩,mQ (t:=a) N (by omega) (fun p ak x hx=>?_) (fun p x hx=>?_),mQ (t:=k) N (by omega) aa ae⟩
  ·cases x.bT m||x.cX xid with
   |true=>exact hx
   |false=>exact aa p ak x hx
  ·cases x.bT m||x.cX xid with
   |true=>exact hx
   |false=>exact ae p x hx
 | .bad _,_,_,_,_,_=>trivial
theorem zdb(t:aB)(i:Nat):t.iq (oM i):=mQ (t.lvl+1) (Nat.lt_succ_self _) (fun n _ x=>zc7 i n x) (fun n x=>zc8 i n x)
theorem JI{t:aB}{n:Nat}(h:t.lvl<n):t.iq (fI n):=mQ n h (fun m hm x=>zc9 n m (by omega) x) (fun m x=>zda n m x)
def oN(o:Option (b0→Bool))(x:b0):Bool:=
 match o with
 |none=>true
 |some f=>f x
def aB.eG(f:aq→aB):aB→Option (b0→Bool)→aB
 | .cG .cj S,none=>f S
 | .cG .cj S,some o=>match(f S).fp o with
  |true=>f S
  |false=>.bad 9
 | .cG x S,_=>.cG x S
 | .lt i x t,o=>.lt i x (t.eG f o)
 | .eD n t,o=>.eD n (t.eG f o)
 | .it c a b,o=>.it c (a.eG f o) (b.eG f o)
 | .dz n a ps k,o=>.dz n (a.eG f (some fun x=>!(x.bT n)&&oN o x)) ps (k.eG f o)
 | .ei m xid dn b1 ca a k,o=>.ei m xid dn b1 ca (a.eG f (some fun x=>!(x.bT m)&&(!(x.cX xid)&&oN o x))) (k.eG f o)
 | .eY m xid ca a k,o=>.eY m xid ca (a.eG f (some fun x=>!(x.bT m)&&(!(x.cX xid)&&oN o x))) (k.eG f o)
 | .bad n,_=>.bad n
end Go.aK
namespace Go.aK
open Go
theorem AY{R A:Type}{b c:Nat→A→Step R A}(I:Nat→A→Prop)(n:Nat)(h: ∀i v,i<n→I i v→c i v=b i v∧∀bg,b i v= .bq bg→I (i+1) bg): ∀(m k:Nat) (a:A),k+m=n→I k a→bo c k m a=bo b k m a
 |0,_,_,_,_=>rfl
 |m+1,k,a,hn,hi=>by
  obtain⟨aa,ae⟩:=h k a (by omega) hi
  simp only[bo,aa]
  cases ad:b k a with
  |ret r=>rfl
  |cK a=>rfl
  |bq v=>exact AY I n h m (k+1) v (by omega) (ae v ad)
theorem JJ{R A:Type}{b c:A→Step R A}(I:A→Prop)(h: ∀v,I v→c v=b v∧∀bg,b v= .bq bg→I bg): ∀(m:Nat) (a:A),I a→c5 c m a=c5 b m a∧(j0 c m a↔j0 b m a)
 |0,_,_=>⟨rfl,Iff.rfl⟩
 |m+1,a,hi=>by
  obtain⟨aa,ae⟩:=h a hi;simp only[c5,j0,aa]
  cases ad:b a with
  |ret r=>exact⟨rfl,Iff.rfl⟩
  |cK a=>exact⟨rfl,Iff.rfl⟩
  |bq v=>exact JJ I h m v (ae v ad)
def ir(M:List aR)(f:aq→aB)(o:Option mO):Option mO:=
 match o with
 |some (.cj,S,e)=>run M (f S) e
 |o=>o
section
variable {M:List aR} {f:aq→aB}
theorem zn{x:b0}{S:aq}{e:Env}(h:x≠ .cj):ir M f (some (x,S,e))=some (x,S,e):=by
 unfold ir
 split
 ·rename_i hx;cases hx;exact absurd rfl h
 ·rfl
theorem iL(m xid:Nat)(ca:List hy)(a:aB)(e:Env)(v:bY ca):a.fold M e (ee m xid ca fun _ _ _=>()) (.cK v)=iK (fun _=>()) (c4 M m xid ca a e v):=by
 unfold c4
 split
 ·rename_i x S ay h
  rw[j4 h,wB]
 ·rename_i h
  rw[zm h];rfl
theorem sq{R A X:Type}{f:R→X}{s:Step R A}{v:A}(h:iK f s= .bq v):s= .bq v:=by
 cases s<;>simp_all[iK]
theorem Rl{m xid:Nat}{ca:List hy}{a bc:aB}{e:Env}{v:bY ca}(h:run M bc e=ir M f (run M a e))(ar: ∀S ay,run M a e=some (.cj,S,ay)→∃x aS aA,run M (f S) ay=some (x,aS,aA)∧x.bT m=false∧x.cX xid=false):
 c4 M m xid ca bc e v=iK (ir M f) (c4 M m xid ca a e v):=by
 unfold c4
 rw[h]
 cases ag:run M a e with
 |none=>rfl
 |some l=>
  obtain⟨x,S,ay⟩:=l
  cases x with
  |cj=>
   obtain⟨x,aS,aA,aa,ae,av⟩:=ar S ay ag;simp only[ir,aa];rw[j3 ae av,j3 (x:=.cj) rfl rfl];simp only[iK,ir,aa]
  |ext n=>
   simp only[ir];rw[wB]
   cases hx:b0.cX xid (.ext n)with
   |true=>rw[nB rfl hx,nB rfl hx]
   |false=>rw[j3 rfl hx,j3 rfl hx];rfl
  |ret=>
   simp only[ir];rw[wB,j3 rfl rfl,j3 rfl rfl];rfl
  |kZ n=>
   simp only[ir];rw[wB]
   cases hx:b0.bT m (.kZ n)with
   |true=>rw[nA hx,nA hx]
   |false=>rw[j3 hx rfl,j3 hx rfl];rfl
theorem mR: ∀{t:aB} {p q:b0→Bool},t.fp p=true→(∀x,p x=true→q x=true)→t.fp q=true
 | .cG x _,_,_,h,aJ=>aJ x h
 | .lt _ _ t,_,_,h,aJ=>mR (t:=t) h aJ
 | .eD _ t,_,_,h,aJ=>mR (t:=t) h aJ
 | .it _ a b,_,_,h,aJ=>by
  simp only[aB.fp,Bool.and_eq_true]at h⊢;exact⟨mR h.1 aJ,mR h.2 aJ⟩
 | .dz n a _ k,_,_,h,aJ=>by
  simp only[aB.fp,Bool.and_eq_true]at h⊢;refine⟨mR h.1 fun x hx=>?_,mR h.2 aJ⟩
  simp only[Bool.or_eq_true]at hx⊢;exact hx.imp id (aJ x)
 | .ei m xid _ _ _ a k,_,_,h,aJ=>by
  simp only[aB.fp,Bool.and_eq_true]at h⊢;refine⟨mR h.1 fun x hx=>?_,mR h.2 aJ⟩
  simp only[Bool.or_eq_true]at hx⊢;exact hx.imp id (Or.imp id (aJ x))
 | .eY m xid _ a k,_,_,h,aJ=>by
  simp only[aB.fp,Bool.and_eq_true]at h⊢;refine⟨mR h.1 fun x hx=>?_,mR h.2 aJ⟩
  simp only[Bool.or_eq_true]at hx⊢;exact hx.imp id (Or.imp id (aJ x))
 | .bad _,_,_,h,_=>by cases h
theorem iX: ∀(t:aB) (o:Option (b0→Bool)) {e:Env},(t.eG f o).safe M e→
    t.safe M e∧run M (t.eG f o) e=ir M f (run M t e)∧∀S ay,run M t e=some (.cj,S,ay)→(f S).safe M ay∧∀p,o=some p→(f S).fp p=true
  | .cG x S,o,e,h=>by
    cases x with
    |cj=>
      cases o with
      |none=>exact⟨trivial,rfl,fun df ay ag=>by cases ag;exact⟨h,fun _ ak=>by cases ak⟩⟩
      |some p=>
        simp only[aB.eG]at h
        split at h
        · rename_i ar
          have ah:(aB.cG .cj S).eG f (some p)=f S:=by simp only[aB.eG,ar]
          rw[ah];exact⟨trivial,rfl,fun df ay ag=>by cases ag;exact⟨h,fun _ ak=>by cases ak;exact ar⟩⟩
        · exact h.elim
    |_=>exact⟨trivial,rfl,fun df ay ag=>by cases ag⟩
  | .lt i x t,o,_,h=>iX t o (e:=ba.put _ i _) h
  | .eD n t,o,e,h=>by
    obtain⟨aa,ae,av⟩:=iX t o h.2;exact⟨⟨h.1,aa⟩,ae,av⟩
  | .it c a b,o,e,h=>by
    have a6:=fun hc=>iX a o (h.1 hc)
    have ad:=fun hc=>iX b o (h.2 hc)
    refine⟨⟨fun hc=>(a6 hc).1,fun hc=>(ad hc).1⟩,?_⟩
    simp only[run,aB.eG,aB.fold]
    cases hc:c.az e .bool with
    |true=>exact(a6 hc).2
    |false=>exact(ad hc).2
  | .dz n a ps k,o,e,h=>by
    obtain⟨cb,a2,a3⟩:=iX a _ h.1
    have ai:(aB.dz n a ps k).safe M e∧run M ((aB.dz n a ps k).eG f o) e=ir M f (run M (aB.dz n a ps k) e)∧∀S ay,run M (aB.dz n a ps k) e=some (.cj,S,ay)→(f S).safe M ay∧∀p,o=some p→(f S).fp p=true:=by
      show _∧run M (.dz n (a.eG f (some fun x=>!(x.bT n)&&oN o x)) ps (k.eG f o)) e=_∧_
      cases ag:run M a e with
      |none=>
        rw[ag]at a2
        have a2:run M _ e=none:=a2
        refine⟨⟨cb,fun af=>by rw[zm ag]at af;cases af⟩,?_,fun S ay af=>by unfold run at af;rw[so ag]at af;cases af⟩
        unfold run;rw[so a2,so ag];rfl
      |some l=>
        obtain⟨x,aS,aA⟩:=l
        cases hx:x.bT n with
        |true=>
          have b7:x≠ .cj:=fun e=>by rw[e]at hx;cases hx
          rw[ag,zn b7]at a2
          have aj:=Rk h a2 hx
          obtain⟨fu,gE,kM⟩:=iX k o aj;refine⟨⟨cb,fun _=>?_⟩,?_,fun S ay af=>?_⟩
          · have:(fun(r:aU) (p:et)=>(⟨r,bif a.jm n
      then a.fold M e (fun _ S ay=>(p.dg S).get ay r) r.fv
      else a.fold M e (fun x S ay=>bif x.bT n then(p.dg S).get ay r else r.fv) r.fv⟩:aF))=fun r p=>⟨r,(p.dg aS).get aA r⟩:=by
              funext r p
              simp only[j4 ag,hx]
              cases a.jm n<;>rfl
            rw[this];exact fu
          · unfold run
            rw[p4 a2 hx,p4 ag hx];exact gE
          · unfold run at af
            rw[p4 ag hx]at af;exact kM S ay af
        |false=>
          have Rm:(aB.dz n a ps k).safe M e:=⟨cb,fun af=>by rw[j4 ag,hx]at af;cases af⟩
          by_cases b7:x= .cj
          · subst b7
            obtain⟨f1,f2⟩:=a3 aS aA ag
            have f2:=f2 _ rfl
            obtain⟨y,dM,bh,g1,g2⟩:=iY (M:=M) (e:=aA) f2;simp only[Bool.and_eq_true,Bool.not_eq_true']at g2;rw[ag]at a2
            have a2:run M _ e=run M (f aS) aA:=a2
            rw[g1]at a2;refine⟨Rm,?_,fun S ay af=>?_⟩
            · have aa:run M (aB.dz n a ps k) e=some (.cj,aS,aA):=by unfold run;rw[mP ag hx]
              rw[aa];show _=run M (f aS) aA;rw[g1];unfold run;rw[mP a2 g2.1]
            · unfold run at af
              rw[mP ag hx]at af;cases af;refine⟨f1,fun p ak=>?_⟩
              subst ak;exact mR f2 fun x hx=>by simp only[Bool.and_eq_true]at hx;exact hx.2
          · rw[ag,zn b7]at a2
            refine⟨Rm,?_,fun S ay af=>?_⟩
            · unfold run
              rw[mP a2 hx,mP ag hx,zn b7]
            · unfold run at af
              rw[mP ag hx]at af;cases af;exact absurd rfl b7
    exact ai
  | .ei m xid dn b1 ca a k,o,e,h=>by
    obtain⟨⟨I,i0,bW⟩,aj⟩:=h
    have key: ∀(i:Nat) (v:bY ca),i<(ck (dn.den M e)).toNat→I i v→a.safe M (bl (ba.put e b1 ⟨.int .i64,(i:Int)⟩) ca v)∧
        c4 M m xid ca (a.eG f (some fun x=>!(x.bT m)&&(!(x.cX xid)&&oN o x))) (bl (ba.put e b1 ⟨.int .i64,(i:Int)⟩) ca v) v=iK (ir M f) (c4 M m xid ca a (bl (ba.put e b1 ⟨.int .i64,(i:Int)⟩) ca v) v)∧
        (∀bg,c4 M m xid ca a (bl (ba.put e b1 ⟨.int .i64,(i:Int)⟩) ca v) v= .bq bg→I (i+1) bg)∧
        ∀S ay,c4 M m xid ca a (bl (ba.put e b1 ⟨.int .i64,(i:Int)⟩) ca v) v= .ret (some (.cj,S,ay))→(f S).safe M ay∧∀p,o=some p→(f S).fp p=true:=by
      intro i v hi aw;obtain⟨s1,s2⟩:=bW i v hi aw;obtain⟨cb,a2,a3⟩:=iX a _ s1
      have ah:=Rl (m:=m) (xid:=xid) (ca:=ca) (v:=v) a2 fun S ay ag=>by
        obtain⟨y,dM,bh,g1,g2⟩:=iY (M:=M) (e:=ay) ((a3 S ay ag).2 _ rfl);simp only[Bool.and_eq_true,Bool.not_eq_true']at g2;exact⟨y,dM,bh,g1,g2.1,g2.2.1⟩
      refine⟨cb,ah,fun bg iH=>s2 bg ?_,fun S ay ag=>?_⟩
      · rw[iL,ah,iH]
        rfl
      · unfold c4 at ag
        cases oO:run M a (bl (ba.put e b1 ⟨.int .i64,(i:Int)⟩) ca v)with
        |none=>rw[oO]at ag;cases ag
        |some l=>
          obtain⟨x,df,zf⟩:=l;rw[oO]at ag;simp only at ag
          cases hx:x.bT m with
          |true=>rw[nA hx]at ag;cases ag
          |false=>
            cases ax:x.cX xid with
            |true=>rw[nB hx ax]at ag;cases ag
            |false=>
              rw[j3 hx ax]at ag;cases ag;obtain⟨f1,f2⟩:=a3 S ay oO;refine⟨f1,fun p ak=>?_⟩
              subst ak;exact mR (f2 _ rfl) fun x hx=>by simp only[Bool.and_eq_true]at hx;exact hx.2.2
    have wE:bo (fun i (v:bY ca)=>(a.eG f (some fun x=>!(x.bT m)&&(!(x.cX xid)&&oN o x))).fold M (bl (ba.put e b1 ⟨.int .i64,(i:Int)⟩) ca v) (ee m xid ca fun _ _ _=>()) (.cK v)) 0 (ck (dn.den M e)).toNat (b8 _ (dC e ca))=
        bo (fun i (v:bY ca)=>a.fold M (bl (ba.put e b1 ⟨.int .i64,(i:Int)⟩) ca v) (ee m xid ca fun _ _ _=>()) (.cK v)) 0 (ck (dn.den M e)).toNat (b8 _ (dC e ca)):=
      AY I _ (fun i v hi aw=>by
        obtain⟨_,g2,g3,_⟩:=key i v hi aw;refine⟨?_,fun bg iH=>g3 bg ?_⟩
        · rw[iL,iL,g2]
          cases c4 M m xid ca a (bl (ba.put e b1 ⟨.int .i64,(i:Int)⟩) ca v) v<;>rfl
        · rw[iL]at iH
          exact sq iH) _ 0 _ (by omega) i0
    rw[wE]at aj
    have fJ:bo (fun i (v:bY ca)=>(a.eG f (some fun x=>!(x.bT m)&&(!(x.cX xid)&&oN o x))).fold M (bl (ba.put e b1 ⟨.int .i64,(i:Int)⟩) ca v) (ee m xid ca fun x S e=>some (x,S,e)) (.cK v)) 0 (ck (dn.den M e)).toNat (b8 _ (dC e ca))=
        bo (fun i (v:bY ca)=>iK (ir M f) (c4 M m xid ca a (bl (ba.put e b1 ⟨.int .i64,(i:Int)⟩) ca v) v)) 0 (ck (dn.den M e)).toNat (b8 _ (dC e ca)):=
      AY I _ (fun i v hi aw=>by
        obtain⟨_,g2,g3,_⟩:=key i v hi aw;refine⟨?_,fun bg iH=>g3 bg (sq iH)⟩
        rw[wC,g2]) _ 0 _ (by omega) i0
    have fQ: ∀(n i:Nat) (v:bY ca),i+n=(ck (dn.den M e)).toNat→I i v→∀S ay,bo (fun i (v:bY ca)=>c4 M m xid ca a (bl (ba.put e b1 ⟨.int .i64,(i:Int)⟩) ca v) v) i n v= .inl (some (.cj,S,ay))→(f S).safe M ay∧∀p,o=some p→(f S).fp p=true:=by
      intro n
      induction n with
      |zero=>intro i v _ _ S ay h;cases h
      |succ n aZ=>
        intro i v kG aw S ay h;obtain⟨_,_,g3,g4⟩:=key i v (by omega) aw
        simp only[bo]at h
        cases ag:c4 M m xid ca a (bl (ba.put e b1 ⟨.int .i64,(i:Int)⟩) ca v) v with
        |ret r=>rw[ag]at h;cases h;exact g4 S ay ag
        |cK bg=>rw[ag]at h;cases h
        |bq bg=>rw[ag]at h;exact aZ (i+1) bg (by omega) (g3 bg ag) S ay h
    have cn:run M (.ei m xid dn b1 ca a k) e=Sum.elim (fun r=>r) (fun v=>run M k (bl e ca v)) (bo (fun i (v:bY ca)=>c4 M m xid ca a (bl (ba.put e b1 ⟨.int .i64,(i:Int)⟩) ca v) v) 0 (ck (dn.den M e)).toNat (b8 _ (dC e ca))):=by
      unfold run;rw[wD];simp only[wC]
    have JK:run M ((aB.ei m xid dn b1 ca a k).eG f o) e=Sum.elim (fun r=>r) (fun v=>run M (k.eG f o) (bl e ca v)) (Sum.map (ir M f) id (bo (fun i (v:bY ca)=>c4 M m xid ca a (bl (ba.put e b1 ⟨.int .i64,(i:Int)⟩) ca v) v) 0 (ck (dn.den M e)).toNat (b8 _ (dC e ca)))):=by
      show aB.fold M (.ei m xid dn b1 ca (a.eG f (some fun x=>!(x.bT m)&&(!(x.cX xid)&&oN o x))) (k.eG f o)) e _ none=_;rw[wD,fJ,wz (ir M f) (fun _ _=>rfl)];rfl
    have ey: ∀v,bo (fun i (v:bY ca)=>c4 M m xid ca a (bl (ba.put e b1 ⟨.int .i64,(i:Int)⟩) ca v) v) 0 (ck (dn.den M e)).toNat (b8 _ (dC e ca))= .inr v→(k.eG f o).safe M (bl e ca v):=fun v aw=>by
      simp only[iL]at aj;rw[wz (fun _=>()) (fun _ _=>rfl),aw]at aj;exact aj
    refine⟨⟨⟨I,i0,fun i v hi aw=>?_⟩,?_⟩,?_,fun S ay ag=>?_⟩
    · obtain⟨g1,_,g3,_⟩:=key i v hi aw
      exact⟨g1,fun bg iH=>g3 bg (sq (by rw[iL]at iH;exact iH))⟩
    · simp only[iL]
      rw[wz (fun _=>()) (fun _ _=>rfl)]
      cases aw:bo (fun i (v:bY ca)=>c4 M m xid ca a (bl (ba.put e b1 ⟨.int .i64,(i:Int)⟩) ca v) v) 0 (ck (dn.den M e)).toNat (b8 _ (dC e ca))with
      |inl r=>trivial
      |inr v=>exact(iX k o (ey v aw)).1
    · rw[cn,JK]
      cases aw:bo (fun i (v:bY ca)=>c4 M m xid ca a (bl (ba.put e b1 ⟨.int .i64,(i:Int)⟩) ca v) v) 0 (ck (dn.den M e)).toNat (b8 _ (dC e ca))with
      |inl r=>rfl
      |inr v=>exact(iX k o (ey v aw)).2.1
    · rw[cn]at ag
      cases aw:bo (fun i (v:bY ca)=>c4 M m xid ca a (bl (ba.put e b1 ⟨.int .i64,(i:Int)⟩) ca v) v) 0 (ck (dn.den M e)).toNat (b8 _ (dC e ca))with
      |inl r=>
        rw[aw]at ag
        have ag:r=some (.cj,S,ay):=ag
        subst ag;exact fQ _ 0 _ (by omega) i0 S ay aw
      |inr v=>
        rw[aw]at ag;exact(iX k o (ey v aw)).2.2 S ay ag
  | .eY m xid ca a k,o,e,h=>by
    obtain⟨⟨I,i0,bW⟩,he,aj⟩:=h
    have key: ∀(v:bY ca),I v→a.safe M (bl e ca v)∧
        c4 M m xid ca (a.eG f (some fun x=>!(x.bT m)&&(!(x.cX xid)&&oN o x))) (bl e ca v) v=iK (ir M f) (c4 M m xid ca a (bl e ca v) v)∧
        (∀bg,c4 M m xid ca a (bl e ca v) v= .bq bg→I bg)∧
        ∀S ay,c4 M m xid ca a (bl e ca v) v= .ret (some (.cj,S,ay))→(f S).safe M ay∧∀p,o=some p→(f S).fp p=true:=by
      intro v aw;obtain⟨s1,s2⟩:=bW v aw;obtain⟨cb,a2,a3⟩:=iX a _ s1
      have ah:=Rl (m:=m) (xid:=xid) (ca:=ca) (v:=v) a2 fun S ay ag=>by
        obtain⟨y,dM,bh,g1,g2⟩:=iY (M:=M) (e:=ay) ((a3 S ay ag).2 _ rfl);simp only[Bool.and_eq_true,Bool.not_eq_true']at g2;exact⟨y,dM,bh,g1,g2.1,g2.2.1⟩
      refine⟨cb,ah,fun bg iH=>s2 bg ?_,fun S ay ag=>?_⟩
      · rw[iL,ah,iH]
        rfl
      · unfold c4 at ag
        cases oO:run M a (bl e ca v)with
        |none=>rw[oO]at ag;cases ag
        |some l=>
          obtain⟨x,df,zf⟩:=l;rw[oO]at ag;simp only at ag
          cases hx:x.bT m with
          |true=>rw[nA hx]at ag;cases ag
          |false=>
            cases ax:x.cX xid with
            |true=>rw[nB hx ax]at ag;cases ag
            |false=>
              rw[j3 hx ax]at ag;cases ag;obtain⟨f1,f2⟩:=a3 S ay oO;refine⟨f1,fun p ak=>?_⟩
              subst ak;exact mR (f2 _ rfl) fun x hx=>by simp only[Bool.and_eq_true]at hx;exact hx.2.2
    have wE:=JJ (b:=fun(v:bY ca)=>(a.fold M (bl e ca v) (ee m xid ca fun _ _ _=>()) (.cK v):Step Unit (bY ca))) (c:=fun(v:bY ca)=>((a.eG f (some fun x=>!(x.bT m)&&(!(x.cX xid)&&oN o x))).fold M (bl e ca v) (ee m xid ca fun _ _ _=>()) (.cK v):Step Unit (bY ca))) I (fun v aw=>by
        obtain⟨_,g2,g3,_⟩:=key v aw;refine⟨?_,fun bg iH=>g3 bg ?_⟩
        · rw[iL,iL,g2]
          cases c4 M m xid ca a (bl e ca v) v<;>rfl
        · rw[iL]at iH
          exact sq iH) dT _ i0
    rw[wE.1]at aj
    have he:=wE.2.1 he
    have fJ:=(JJ (b:=fun(v:bY ca)=>iK (ir M f) (c4 M m xid ca a (bl e ca v) v)) (c:=fun(v:bY ca)=>(a.eG f (some fun x=>!(x.bT m)&&(!(x.cX xid)&&oN o x))).fold M (bl e ca v) (ee m xid ca fun x S e=>some (x,S,e)) (.cK v)) I (fun v aw=>by
        obtain⟨_,g2,g3,_⟩:=key v aw;refine⟨?_,fun bg iH=>g3 bg (sq iH)⟩
        rw[wC,g2]) dT _ i0).1
    have fQ: ∀(n:Nat) (v:bY ca),I v→∀S ay,c5 (fun(v:bY ca)=>c4 M m xid ca a (bl e ca v) v) n v= .inl (some (.cj,S,ay))→(f S).safe M ay∧∀p,o=some p→(f S).fp p=true:=by
      intro n
      induction n with
      |zero=>intro v _ S ay h;cases h
      |succ n aZ=>
        intro v aw S ay h;obtain⟨_,_,g3,g4⟩:=key v aw;simp only[c5]at h
        cases ag:c4 M m xid ca a (bl e ca v) v with
        |ret r=>rw[ag]at h;cases h;exact g4 S ay ag
        |cK bg=>rw[ag]at h;cases h
        |bq bg=>rw[ag]at h;exact aZ bg (g3 bg ag) S ay h
    have cn:run M (.eY m xid ca a k) e=Sum.elim (fun r=>r) (fun v=>run M k (bl e ca v)) (c5 (fun(v:bY ca)=>c4 M m xid ca a (bl e ca v) v) dT (b8 _ (dC e ca))):=by
      simp only[run,aB.fold,wC]
    have JK:run M ((aB.eY m xid ca a k).eG f o) e=Sum.elim (fun r=>r) (fun v=>run M (k.eG f o) (bl e ca v)) (Sum.map (ir M f) id (c5 (fun(v:bY ca)=>c4 M m xid ca a (bl e ca v) v) dT (b8 _ (dC e ca)))):=by
      rw[←wA (ir M f) (c:=fun(v:bY ca)=>iK (ir M f) (c4 M m xid ca a (bl e ca v) v)) (fun _=>rfl),←fJ];rfl
    have ey: ∀v,c5 (fun(v:bY ca)=>c4 M m xid ca a (bl e ca v) v) dT (b8 _ (dC e ca))= .inr v→(k.eG f o).safe M (bl e ca v):=fun v aw=>by
      simp only[iL]at aj;rw[wA (fun _=>()) (fun _=>rfl),aw]at aj;exact aj
    refine⟨⟨⟨I,i0,fun v aw=>?_⟩,he,?_⟩,?_,fun S ay ag=>?_⟩
    · obtain⟨g1,_,g3,_⟩:=key v aw
      exact⟨g1,fun bg iH=>g3 bg (sq (by rw[iL]at iH;exact iH))⟩
    · simp only[iL]
      rw[wA (fun _=>()) (fun _=>rfl)]
      cases aw:c5 (fun(v:bY ca)=>c4 M m xid ca a (bl e ca v) v) dT (b8 _ (dC e ca))with
      |inl r=>trivial
      |inr v=>exact(iX k o (ey v aw)).1
    · rw[cn,JK]
      cases aw:c5 (fun(v:bY ca)=>c4 M m xid ca a (bl e ca v) v) dT (b8 _ (dC e ca))with
      |inl r=>rfl
      |inr v=>exact(iX k o (ey v aw)).2.1
    · rw[cn]at ag
      cases aw:c5 (fun(v:bY ca)=>c4 M m xid ca a (bl e ca v) v) dT (b8 _ (dC e ca))with
      |inl r=>
        rw[aw]at ag
        have ag:r=some (.cj,S,ay):=ag
        subst ag;exact fQ _ _ i0 S ay aw
      |inr v=>
        rw[aw]at ag;exact(iX k o (ey v aw)).2.2 S ay ag
  | .bad _,_,_,h=>h.elim
end
end Go.aK
namespace Go.aK
open Go
theorem nC(G:a8)(e:Env)(l:ba ab): ∀(n i j:Nat),(j2 G e l i n)[j]? =if j<n then some (match l.get (i+j)with|some x=>x.den G e|none=>.top)else none
 |0,_,_=>by simp[j2]
 |n+1,i,0=>by simp only[j2,List.getElem?_cons_zero,Nat.add_zero,Nat.zero_lt_succ,if_true]<;>rfl
 |n+1,i,j+1=>by
  simp only[j2,List.getElem?_cons_succ,nC G e l n (i+1) j]
  rw[show i+1+j=i+(j+1)by omega]
  simp
theorem CT(G:a8)(e:Env)(l:ba ab): ∀(n i:Nat),(j2 G e l i n).length=n
 |0,_=>rfl
 |n+1,i=>by simp[j2,CT G e l n (i+1)]
theorem uh(G:a8)(N B:Nat)(e:Env)(S:aq)(j:Nat):(S.den G N B e).cO[j]? =if j<N then some ((S.at j).den G e)else none:=by
 simp only[aq.den,nC,Nat.zero_add]
 by_cases h:j<N
 ·simp only[h,if_true,Option.some.injEq]
  unfold aq.at
  cases S.l.get j<;>rfl
 ·simp[h]
def zo:ab→ab→Bool
 | .aT r i,.aT q j=>Nat.beq i j&&hJ r q
 | .fd c i k r,.fd d j m q=>(Nat.beq i j&&Nat.beq k m)&&(decide (c=d)&&hJ r q)
 |_,_=>false
theorem JL{x y:ab}(h:zo x y=true):x=y:=by
 unfold zo at h
 split at h
 ·simp only[Bool.and_eq_true]at h
  rw[Nat.eq_of_beq_eq_true h.1,hj h.2]
 ·simp only[Bool.and_eq_true,decide_eq_true_eq]at h
  rw[Nat.eq_of_beq_eq_true h.1.1,Nat.eq_of_beq_eq_true h.1.2,h.2.1,hj h.2.2]
 ·cases h
def k0(g:ab):List b6→Option Bool
 |[]=>none
 | .dR h b::r=>match zo h g with
  |true=>some b
  |false=>k0 g r
 |_::r=>k0 g r
theorem p5{e:Env}{g:ab}{b:Bool}: ∀{l:List b6},k0 g l=some b→(∀c∈l,c.ok e)→g.az e .bool=b
 | .dR h b'::r,aj,hc=>by
  simp only[k0]at aj
  split at aj
  ·rename_i ai
   cases aj;rw[←JL ai];exact hc (.dR h b) (by simp)
  ·exact p5 aj fun c hm=>hc c (by simp[hm])
 | .d1 _ _ _::r,aj,hc=>p5 (l:=r) aj fun c hm=>hc c (by simp[hm])
 | .d2 _ _ _ _::r,aj,hc=>p5 (l:=r) aj fun c hm=>hc c (by simp[hm])
 | .rg _ _::r,aj,hc=>p5 (l:=r) aj fun c hm=>hc c (by simp[hm])
def ab.res(l:List b6):ab→ab
 | .fH g b v=>match k0 g l with
  |some c=>match decide (c=b)with
   |true=>v.res l
   |false=>.tp []
  |none=>.fH g b (v.res l)
 | .fg g id off=>match k0 g l,id with
  |some true,some id=>.eb id off
  |some false,_=>.cs (.pointer none)
  |_,_=>.fg g id off
 |x=>x
theorem Rn{l:List b6}{g v:ab}{b:Bool}:(ab.fH g b v).res l=match k0 g l with
 |some c=>match decide (c=b)with
  |true=>v.res l
  |false=>.tp []
 |none=>.fH g b (v.res l):=by rw[ab.res]
theorem Ro{l:List b6}{g:ab}{id:Option Nat}{off:Nat}:(ab.fg g id off).res l=match k0 g l,id with
 |some true,some id=>.eb id off
 |some false,_=>.cs (.pointer none)
 |_,_=>.fg g id off:=by
 cases aj:k0 g l with
 |none=>simp only[ab.res,aj]
 |some b=>cases b<;>cases id<;>simp only[ab.res,aj]
theorem JM{G:a8}{e:Env}{l:List b6}(hc: ∀c∈l,c.ok e): ∀{x:ab},(x.res l).den G e=x.den G e
 | .fH g b v=>by
  have aZ:=JM (G:=G) hc (x:=v)
  rw[Rn]
  split
  ·rename_i c aj
   have:=p5 aj hc
   split
   ·rename_i hd
    have hd:=of_decide_eq_true hd
    subst hd;rw[aZ];simp only[ab.den,this]
    cases c<;>rfl
   ·rename_i hd
    have hd:=of_decide_eq_false hd
    simp only[ab.den,this]
    cases c<;>cases b<;>first|rfl|exact absurd rfl hd
  ·simp only[ab.den,aZ]
 | .aT _ _=>rfl
 | .fd _ _ _ _=>rfl
 | .cs _=>rfl
 | .ip _ _ _=>rfl
 | .ch _=>rfl
 | .tp _=>rfl
 | .eb _ _=>rfl
 | .gJ _ _ _=>rfl
 | .aM _=>rfl
 | .fn _ _ _=>rfl
 | .gR _=>rfl
 | .lr _ _=>rfl
 | .gO _ _ _ _=>rfl
 | .cM _ _=>rfl
 | .fg g id off=>by
  rw[Ro]
  cases aj:k0 g l with
  |none=>rfl
  |some c=>
   have:=p5 aj hc
   cases c with
   |true=>cases id with
    |none=>rfl
    |some id=>simp only[ab.den,this]
   |false=>simp only[ab.den,this]
 | .ek _ _ _ _=>rfl
 | .top=>rfl
theorem JN{l:List b6}{k:Nat}: ∀{x:ab},x.lt k=true→(x.res l).lt k=true
 | .fH g b v,h=>by
  simp only[ab.lt,Bool.and_eq_true]at h;rw[Rn]
  split
  ·split
   ·exact JN h.2
   ·rfl
  ·simp only[ab.lt,h.1,JN h.2,Bool.and_self]
 | .aT _ _,h=>h
 | .fd _ _ _ _,h=>h
 | .cs _,h=>h
 | .ip _ _ _,h=>h
 | .ch _,h=>h
 | .tp _,h=>h
 | .eb _ _,h=>h
 | .gJ _ _ _,h=>h
 | .aM _,h=>h
 | .fn _ _ _,h=>h
 | .gR _,h=>h
 | .lr _ _,h=>h
 | .gO _ _ _ _,h=>h
 | .cM _ _,h=>h
 | .fg g id off,h=>by
  rw[Ro]
  cases k0 g l with
  |none=>exact h
  |some c=>cases c with
   |true=>cases id with
    |none=>exact h
    |some id=>rfl
   |false=>rfl
 | .ek _ _ _ _,h=>h
 | .top,h=>h
def aq.aY(N:Nat)(S:aq):Operand→ab
 | .tmp t=>match Nat.blt t N with
  |true=>(S.at t).res S.g
  |false=>.top
 | .const v=>match v.oneCell' with
  |true=>.cs v
  |false=>.top
 | .global g=>.lr g 0
 | .func f=>.fn (.func f) [] []
section
variable {G:a8} {N B:Nat} {e:Env} {S:aq}
theorem bC(hf: ∀c∈S.g,c.ok e)(x:Operand):aI G (S.den G N B e) x=(S.aY N x).den G e:=by
 cases x with
 |tmp t=>
  simp only[aI,aq.aY,List.getD_eq_getElem?_getD,uh]
  cases h:Nat.blt t N with
  |true=>
   have:t<N:=e6 h
   simp[this,JM hf]
  |false=>
   have: ¬t<N:=fun h'=>by rw[jI h']at h;cases h
   simp[this,ab.den]
 |const v=>
  simp only[aI,aq.aY]
  cases v.oneCell'<;>simp[ab.den]
 |global g=>
  simp only[aI,aq.aY,ab.den]
  cases G g with
  |none=>rfl
  |some l=>simp
 |func f=>simp[aI,aq.aY,ab.den,ab.bO]
def aq.put(S:aq)(dst:Option Nat)(v:ab):aq:=
 match dst with
 |some d=>{S with l:=S.l.put d v}
 |none=>S
theorem JO(d:Nat)(v:ab)(l:ba ab):j2 G e (l.put d v) 0 N=(j2 G e l 0 N).set d (v.den G e):=by
 apply List.ext_getElem?
 intro j
 rw[nC,List.getElem?_set,nC,CT,Nat.zero_add,ba.hR]
 by_cases hd:d=j
 ·subst hd
  by_cases af:d<N<;>simp[af]
 ·simp[hd]
theorem e9(dst:Option Nat)(v:ab):(S.put dst v).den G N B e=(S.den G N B e).put dst (v.den G e):=by
 cases dst with
 |none=>rfl
 |some d=>simp only[aq.put,aq.den,aO.put,JO]
theorem ef: ∀(h:List (Nat × bB)) (id:Nat),aD (cw G e h) id=(da h id).map (bB.den G e)
 |[],_=>rfl
 |(i,o)::r,id=>by
  simp only[cw,aD,da,p2]
  by_cases h:i=id
  ·simp[h]
  ·simp only[h,if_false,decide_false]
   exact ef r id
theorem sr: ∀(h:List (Nat × bB)) (id:Nat) (o:bB),cw G e (jl h id o)=eL (cw G e h) id (o.den G e)
 |[],_,_=>rfl
 |(i,p)::r,id,o=>by
  simp only[jl,cw,eL,p2]
  by_cases h:i=id
  ·simp[h,cw]
  ·simp only[h,decide_false,if_false,cw,sr r id o]
end
def bB.lt(k:Nat):bB→Bool
 | .dm _ l=>ab.cI k l
 | .rw _ _ x=>x.lt k
 | .it _ x p=>x.lt k&&p.lt k
def eE(k:Nat):List (Nat × bB)→Bool
 |[]=>true
 |(_,o)::r=>o.lt k&&eE k r
def b6.lt(k:Nat):b6→Bool
 | .d1 i _ x=>Nat.blt i k&&x.lt k
 | .d2 i _ x y=>Nat.blt i k&&(x.lt k&&y.lt k)
 | .rg i b=>Nat.blt i k&&b.lt k
 | .dR g _=>g.lt k
def fh(k:Nat):List b6→Bool
 |[]=>true
 |c::r=>c.lt k&&fh k r
structure aq.cp (S:aq):Prop where
 l: ∀i x,S.l.get i=some x→x.lt S.k=true
 h:eE S.k S.h=true
 g:fh S.k S.g=true
mutual
theorem gB{k m:Nat}(h:k≤m): ∀{x:ab},x.lt k=true→x.lt m=true:=fun {x} hx=>by
 cases x with
 |aT r i=>exact jI (Nat.lt_of_lt_of_le (e6 hx) h)
 |fd c i j r=>exact jI (Nat.lt_of_lt_of_le (e6 (i:=i) hx) h)
 |ip c i j=>exact jI (Nat.lt_of_lt_of_le (e6 (i:=i) hx) h)
 |ch l=>exact ui (l:=l) h hx
 |tp l=>exact ui (l:=l) h hx
 |gJ id x off=>exact gB (x:=x) h hx
 |gO id off x n=>exact gB (x:=x) h hx
 |fg g id off=>exact gB (x:=g) h hx
 |ek t a rs l=>exact ui h (l:=l) hx
 |fn f a b=>
  simp only[ab.lt,Bool.and_eq_true]at hx⊢;exact⟨ui h hx.1,ui h hx.2⟩
 |fH g b x=>
  simp only[ab.lt,Bool.and_eq_true]at hx⊢;exact⟨gB h hx.1,gB h hx.2⟩
 |_=>rfl
theorem ui{k m:Nat}(h:k≤m): ∀{l:List ab},ab.cI k l=true→ab.cI m l=true:=fun {l} ar=>by
 match l with
 |[]=>rfl
 |x::r=>
  simp only[ab.cI,Bool.and_eq_true]at ar⊢;exact⟨gB h ar.1,ui h ar.2⟩
end
theorem ss{k m:Nat}(h:k≤m): ∀{l:List (Nat × bB)},eE k l=true→eE m l=true
 |[],_=>rfl
 |(_,o)::r,ar=>by
  simp only[eE,Bool.and_eq_true]at ar⊢;refine⟨?_,ss h ar.2⟩
  cases o with
  |dm t l=>exact ui h (l:=l) ar.1
  |rw t c x=>exact gB h (x:=x) ar.1
  |it q x p=>
   have aa:=ar.1
   simp only[bB.lt,Bool.and_eq_true]at aa⊢;exact⟨gB h aa.1,gB h aa.2⟩
theorem nD{k m:Nat}(h:k≤m): ∀{l:List b6},fh k l=true→fh m l=true
 |[],_=>rfl
 |c::r,ar=>by
  simp only[fh,Bool.and_eq_true]at ar⊢;refine⟨?_,nD h ar.2⟩
  cases c with
  |d1 i f x=>
   have:=ar.1
   simp only[b6.lt,Bool.and_eq_true]at this⊢;exact⟨jI (Nat.lt_of_lt_of_le (e6 this.1) h),gB h this.2⟩
  |d2 i f x y=>
   have:=ar.1
   simp only[b6.lt,Bool.and_eq_true]at this⊢;exact⟨jI (Nat.lt_of_lt_of_le (e6 this.1) h),gB h this.2.1,gB h this.2.2⟩
  |rg i b=>
   have:=ar.1
   simp only[b6.lt,Bool.and_eq_true]at this⊢;exact⟨jI (Nat.lt_of_lt_of_le (e6 this.1) h),gB h this.2⟩
  |dR g b=>exact gB h (x:=g) ar.1
section
variable {G:a8} {N B:Nat} {e ay:Env} {S:aq} {k:Nat}
theorem wF(h:bX k e ay): ∀{l:List (Nat × bB)},eE k l=true→cw G ay l=cw G e l
 |[],_=>rfl
 |(_,o)::r,ar=>by
  simp only[eE,Bool.and_eq_true]at ar;simp only[cw,wF h ar.2]
  congr 2
  cases o with
  |dm t l=>simp only[bB.den,wq h (l:=l) ar.1]
  |rw t c x=>simp only[bB.den,eC h (x:=x) ar.1]
  |it q x p=>
   have aa:=ar.1
   simp only[bB.lt,Bool.and_eq_true]at aa;simp only[bB.den,eC h (x:=x) aa.1,eC h (x:=p) aa.2]
theorem k1(h:bX S.k e ay)(ad:S.cp):S.den G N B ay=S.den G N B e:=by
 simp only[aq.den,aO.mk.injEq,and_true,true_and]
 refine⟨?_,wF h ad.h⟩
 apply List.ext_getElem?
 intro j
 rw[nC,nC]
 by_cases af:j<N
 ·simp only[af,if_true,Option.some.injEq]
  cases ah:S.l.get (0+j)with
  |none=>rfl
  |some x=>exact sj h (ad.l _ x ah)
 ·simp[af]
theorem h8(h:bX k e ay): ∀{l:List b6},fh k l=true→(∀c∈l,c.ok e)→∀c∈l,c.ok ay
 |[],_,_,_,hc=>by cases hc
 |d::r,ar,hf,c,hc=>by
  simp only[fh,Bool.and_eq_true]at ar
  rcases List.mem_cons.1 hc with rfl|hc
  ·have aP:=hf c (by simp)
   cases c with
   |d1 i f x=>
    have aa:=ar.1
    simp only[b6.lt,Bool.and_eq_true]at aa;simp only[b6.ok]at aP⊢;rw[h i (e6 aa.1),eC h aa.2];exact aP
   |d2 i f x y=>
    have aa:=ar.1
    simp only[b6.lt,Bool.and_eq_true]at aa;simp only[b6.ok]at aP⊢;rw[h i (e6 aa.1),eC h aa.2.1,eC h aa.2.2];exact aP
   |rg i b=>
    have aa:=ar.1
    simp only[b6.lt,Bool.and_eq_true]at aa;simp only[b6.ok]at aP⊢;rw[h i (e6 aa.1),q1 h aa.2];exact aP
   |dR g b=>
    simp only[b6.ok]at aP⊢;rw[eC h (x:=g) ar.1];exact aP
  ·exact h8 h ar.2 (fun c hc=>hf c (by simp[hc])) c hc
theorem CU(ad:S.cp)(x:Operand):(S.aY N x).lt S.k=true:=by
 cases x with
 |tmp t=>
  simp only[aq.aY]
  split
  ·refine JN ?_
   unfold aq.at
   split
   ·rename_i x hx;exact ad.l _ x hx
   ·rfl
  ·rfl
 |const v=>simp only[aq.aY];split<;>rfl
 |global g=>rfl
 |func f=>rfl
end
def bJ.lt(k:Nat):bJ→Bool
 | .q3 _ x=>x.lt k
 | .f1 _ x=>x.lt k
 | .f2 _ x y=>x.lt k&&y.lt k
 | .ez _ x lo hi=>x.lt k&&(ab.cI k lo.toList&&ab.cI k hi.toList)
 | .uf x lo hi=>x.lt k&&(ab.cI k lo.toList&&ab.cI k hi.toList)
 | .CO _ g x y=>g.lt k&&(x.lt k&&y.lt k)
 | .zl _ _ l m=>ab.cI k l&&ab.cI k m
 | .p3 _ l=>ab.cI k l
 | .up _ l i x=>l.lt k&&(i.lt k&&x.lt k)
 | .nth _ l i=>ab.cI k l&&i.lt k
 | .CP _ x=>x.lt k
 | .CQ _ _=>true
 | .CR _ _ m x y=>m.lt k&&(x.lt k&&y.lt k)
 | .wy _ _ m x=>m.lt k&&x.lt k
 | .ug _ _ m x=>m.lt k&&x.lt k
 | .ca _ l=>ab.cI k l
 | .q4 _ p _=>Nat.blt p k
section
variable {e ay:Env} {k:Nat}
theorem wG(h:bX k e ay): ∀{rs:List aU} {l:List ab},ab.cI k l=true→gA ay rs l=gA e rs l
 |[],_,_=>by simp[gA]
 |_::_,[],_=>by simp[gA]
 |r::rs,x::xs,hx=>by
  simp only[ab.cI,Bool.and_eq_true]at hx;simp only[gA,uc h hx.1,wG h hx.2]
theorem CV(h:bX k e ay){o:Option ab}(an:ab.cI k o.toList=true):l8 ay o=l8 e o:=by
 cases o with
 |none=>rfl
 |some x=>
  simp only[Option.toList,ab.cI,Bool.and_true]at an;simp only[l8,q1 h an]
theorem Rp(h:bX k e ay): ∀{rs:List aU} {l m:List ab},ab.cI k l=true→ab.cI k m=true→kp ay rs l m=kp e rs l m
 |[r],[x],[y],ar,hm=>by
  simp only[ab.cI,Bool.and_eq_true]at ar hm;simp only[kp,eC h ar.1,eC h hm.1]
 |r::s::rs,x::xs,y::ys,ar,hm=>by
  simp only[ab.cI,Bool.and_eq_true]at ar hm
  have:=Rp h (rs:=s::rs) ar.2 hm.2
  cases xs<;>cases ys<;>simp only[kp,eC h ar.1,eC h hm.1,this]
 |[r],x::iB::xs,y::ys,ar,hm=>by
  simp only[ab.cI,Bool.and_eq_true]at ar hm;simp only[kp,eC h ar.1,eC h hm.1]
 |[r],[x],y::se::ys,ar,hm=>by
  simp only[ab.cI,Bool.and_eq_true]at ar hm;simp only[kp,eC h ar.1,eC h hm.1]
 |[],_,_,_,_=>by simp[kp]
 |_::_,[],_,_,_=>by simp[kp]
 |_::_,_::_,[],_,_=>by simp[kp]
theorem Rq(h:bX k e ay){c:bF}: ∀{l:List ab},ab.cI k l=true→l9 ay c l=l9 e c l
 |[],_=>rfl
 |x::r,ar=>by
  simp only[ab.cI,Bool.and_eq_true]at ar;simp only[l9,uc h ar.1,Rq h ar.2]
theorem Rr(h:bX k e ay){r:aU}: ∀{l:List ab} {n:Nat},ab.cI k l=true→sm ay r l n=sm e r l n
 |[],_,_=>rfl
 |[x],_,ar=>by
  simp only[ab.cI,Bool.and_eq_true]at ar;simp only[sm,eC h ar.1]
 |x::y::l,n,ar=>by
  simp only[ab.cI,Bool.and_eq_true]at ar
  have:=Rr h (l:=y::l) (n:=n-1) (r:=r) (by simp only[ab.cI,Bool.and_eq_true];exact ar.2)
  simp only[sm,eC h ar.1,this]
theorem zdc(M:List aR)(h:bX k e ay){x:bJ}(hx:x.lt k=true):x.den M ay=x.den M e:=by
 cases x with
 |q3 r x=>simp only[bJ.den,uc h (x:=x) hx]
 |f1 f x=>simp only[bJ.den,eC h (x:=x) hx]
 |f2 f x y=>
  simp only[bJ.lt,Bool.and_eq_true]at hx;simp only[bJ.den,eC h hx.1,eC h hx.2]
 |ez c x lo hi=>
  simp only[bJ.lt,Bool.and_eq_true]at hx;simp only[bJ.den,eC h hx.1,CV h hx.2.1,CV h hx.2.2]
 |uf x lo hi=>
  simp only[bJ.lt,Bool.and_eq_true]at hx;simp only[bJ.den,eC h hx.1,CV h hx.2.1,CV h hx.2.2]
 |CO r g x y=>
  simp only[bJ.lt,Bool.and_eq_true]at hx;simp only[bJ.den,eC h hx.1,uc h hx.2.1,uc h hx.2.2]
 |zl n rs l m=>
  simp only[bJ.lt,Bool.and_eq_true]at hx;simp only[bJ.den,Rp h hx.1 hx.2]
 |p3 c l=>simp only[bJ.den,Rq h (l:=l) hx]
 |CP c x=>simp only[bJ.den,eC h (x:=x) hx]
 |CQ r s=>rfl
 |CR r s m x y=>
  simp only[bJ.lt,Bool.and_eq_true]at hx;simp only[bJ.den,eC h hx.1,eC h hx.2.1,uc h hx.2.2]
 |wy r s m x=>
  simp only[bJ.lt,Bool.and_eq_true]at hx;simp only[bJ.den,eC h hx.1,eC h hx.2]
 |ug r s m x=>
  simp only[bJ.lt,Bool.and_eq_true]at hx;simp only[bJ.den,eC h hx.1,eC h hx.2]
 |up c l i x=>
  simp only[bJ.lt,Bool.and_eq_true]at hx;simp only[bJ.den,eC h hx.1,q1 h hx.2.1,uc h hx.2.2]
 |nth r l i=>
  simp only[bJ.lt,Bool.and_eq_true]at hx;simp only[bJ.den,Rr h hx.1,q1 h hx.2]
 |ca j l=>simp only[bJ.den,wG h (l:=l) hx]
 |q4 rs p i=>simp only[bJ.den,h p (e6 hx)]
end
end Go.aK
namespace Go.aK
open Go
section
variable {P:Program} {G:a8} {o:Oper} {s:aO}
theorem cL.sub{v bg:aC}(h:cL P G o s v)(ai:Sub v bg):cL P G o s bg:=fun E a w β ro ag=>by
 obtain⟨c,aa,ae⟩:=h E a w β ro ag
 exact⟨c,aa,ai _ _ _ _ _ _ ae⟩
def JP(op:BinOp)(k bk:IntKind):Bool:=
 match op with
 | .add=>decide (k=bk)
 | .sub=>decide (k=bk)
 | .mul=>decide (k=bk)
 | .quo=>decide (k=bk)
 | .rem=>decide (k=bk)
 | .and=>decide (k=bk)
 | .or=>decide (k=bk)
 | .xor=>decide (k=bk)
 | .shl=>true
 | .shr=>true
 |_=>false
def wH:BinOp→Bool
 | .eql=>true
 | .neq=>true
 | .lss=>true
 | .leq=>true
 | .gtr=>true
 | .geq=>true
 |_=>false
theorem zdd{op:BinOp}{cv ty:TypeId}{x y:Operand}{k bk:IntKind}{a b:Int}(an:o.op= .binOp op cv x y ty)(hx:aI G s x= .au (.v (.int k a)))(ax:aI G s y= .au (.v (.int bk b)))(h:JP op k bk=true)(hn:CM op b):
 cL P G o s (.au (.v (.int k (bu op k a b)))):=by
 cases op<;>simp only[JP,Bool.false_eq_true,decide_eq_true_eq]at h
 case add=>subst h;exact ov _ cv ty x y an hx ax (by simp[jU,bu])
 case sub=>subst h;exact ov _ cv ty x y an hx ax (by simp[jU,bu])
 case mul=>subst h;exact ov _ cv ty x y an hx ax (by simp[jU,bu])
 case quo=>subst h;exact ov _ cv ty x y an hx ax (by have: ¬b=0:=hn;simp[jU,bu,this])
 case rem=>subst h;exact ov _ cv ty x y an hx ax (by have: ¬b=0:=hn;simp[jU,bu,this])
 case and=>subst h;exact wj cv ty x y an hx ax fun w=>by simp[binOp,Op.intBits,bu,aK.nX]
 case or=>subst h;exact wj cv ty x y an hx ax fun w=>by simp[binOp,Op.intBits,bu,aK.m5]
 case xor=>subst h;exact wj cv ty x y an hx ax fun w=>by simp[binOp,Op.intBits,bu,aK.nZ]
 case shl=>exact ov _ cv ty x y an hx ax (by have hn:0≤b:=hn;have: ¬b<0:=(by omega);simp[jU,bu,this])
 case shr=>exact ov _ cv ty x y an hx ax (by have hn:0≤b:=hn;have: ¬b<0:=(by omega);simp[jU,bu,this])
theorem zde{op:BinOp}{cv ty:TypeId}{x y:Operand}{k:IntKind}{a b:Int}(an:o.op= .binOp op cv x y ty)(hx:aI G s x= .au (.v (.int k a)))(ax:aI G s y= .au (.v (.int k b)))(h:wH op=true):
 cL P G o s (.au (.v (.bool (zk op a b)))):=by
 cases op<;>simp only[wH,Bool.false_eq_true]at h
 all_goals exact ov _ cv ty x y an hx ax (by simp[jU,B9,zk])
theorem zdf{op:BinOp}{cv ty:TypeId}{x y:Operand}{a b:ByteArray}(an:o.op= .binOp op cv x y ty)(hx:aI G s x= .au (.v (.string a)))(ax:aI G s y= .au (.v (.string b)))(h:wH op=true):
 cL P G o s (.au (.v (.bool (cC op a b)))):=by
 cases op<;>simp only[wH,Bool.false_eq_true]at h
 all_goals exact ov _ cv ty x y an hx ax (by simp[jU,cC])
def zp(G:a8)(s:aO)(o:Option Operand)(z:Option Int):Prop:=
 match o,z with
 |none,none=>True
 |some y,some z=>∃k,aI G s y= .au (.v (.int k z))
 |_,_=>False
theorem Rs(i:bF)(ls:List (fO i)){t:TypeId}{x:Operand}{lo hi:Option Operand}{oP lu:Option Int}(an:o.op= .slice t x lo hi none)(aH:jW P t=some (bZ i))(hx:aI G s x= .au (.li i ls))(aA:zp G s lo oP)(bh:zp G s hi lu)
 (hn:ju ls.length oP lu):l6 P G o s (.au (.li i (iy ls oP lu))):=by
 cases lo with
 |none=>
  cases oP with
  |some _=>exact aA.elim
  |none=>
  cases hi with
  |none=>
   cases lu with
   |some _=>exact bh.elim
   |none=>
   have:=CI i ls (l:=0) (h:=ls.length) an aH hx (.inl ⟨rfl,rfl⟩) (.inl ⟨rfl,rfl⟩) (Nat.zero_le _) (Nat.le_refl _)
   rw[List.take_length,List.drop_zero]at this;exact this
  |some y=>
   cases lu with
   |none=>exact bh.elim
   |some h=>
   obtain⟨k,ax⟩:=bh
   have hn:0≤h∧h≤(ls.length:Int):=hn
   obtain⟨n,rfl⟩: ∃n:Nat,h=(n:Int):=⟨h.toNat,by omega⟩
   have:=CI i ls (l:=0) (h:=n) an aH hx (.inl ⟨rfl,rfl⟩) (.inr ⟨y,k,rfl,ax⟩) (Nat.zero_le _) (by omega)
   rw[List.drop_zero]at this;exact this
 |some y=>
  cases oP with
  |none=>exact aA.elim
  |some a=>
  obtain⟨k,ax⟩:=aA
  cases hi with
  |none=>
   cases lu with
   |some _=>exact bh.elim
   |none=>
   have hn:0≤a∧a≤(ls.length:Int):=hn
   obtain⟨n,rfl⟩: ∃n:Nat,a=(n:Int):=⟨a.toNat,by omega⟩
   have:=CI i ls (l:=n) (h:=ls.length) an aH hx (.inr ⟨y,k,rfl,ax⟩) (.inl ⟨rfl,rfl⟩) (by omega) (Nat.le_refl _)
   rw[List.take_length]at this;exact this
  |some q9=>
   cases lu with
   |none=>exact bh.elim
   |some h=>
   obtain⟨gE,JQ⟩:=bh
   have hn:0≤a∧a≤h∧h≤(ls.length:Int):=hn
   obtain⟨n,rfl⟩: ∃n:Nat,a=(n:Int):=⟨a.toNat,by omega⟩
   obtain⟨m,rfl⟩: ∃n:Nat,h=(n:Int):=⟨h.toNat,by omega⟩
   exact CI i ls (l:=n) (h:=m) an aH hx (.inr ⟨y,k,rfl,ax⟩) (.inr ⟨q9,gE,rfl,JQ⟩) (by omega) (by omega)
theorem zdg(b:ByteArray){t:TypeId}{x:Operand}{lo hi:Option Operand}{oP lu:Option Int}(an:o.op= .slice t x lo hi none)(aH:P.underlying t=some .string)(hx:aI G s x= .au (.v (.string b)))(aA:zp G s lo oP)(bh:zp G s hi lu)
 (hn:ju b.size oP lu):cL P G o s (.au (.v (.string (m9 b oP lu)))):=by
 cases lo with
 |none=>
  cases oP with
  |some _=>exact aA.elim
  |none=>
  cases hi with
  |none=>
   cases lu with
   |some _=>exact bh.elim
   |none=>exact Co t x none none an aH hx (l:=0) (h:=b.size) (.inl ⟨rfl,rfl⟩) (.inl ⟨rfl,rfl⟩) (Nat.zero_le _) (Nat.le_refl _)
  |some y=>
   cases lu with
   |none=>exact bh.elim
   |some h=>
   obtain⟨k,ax⟩:=bh
   have hn:0≤h∧h≤(b.size:Int):=hn
   obtain⟨n,rfl⟩: ∃n:Nat,h=(n:Int):=⟨h.toNat,by omega⟩
   exact Co t x none _ an aH hx (l:=0) (h:=n) (.inl ⟨rfl,rfl⟩) (.inr ⟨y,k,rfl,ax⟩) (Nat.zero_le _) (by omega)
 |some y=>
  cases oP with
  |none=>exact aA.elim
  |some a=>
  obtain⟨k,ax⟩:=aA
  cases hi with
  |none=>
   cases lu with
   |some _=>exact bh.elim
   |none=>
   have hn:0≤a∧a≤(b.size:Int):=hn
   obtain⟨n,rfl⟩: ∃n:Nat,a=(n:Int):=⟨a.toNat,by omega⟩
   exact Co t x _ none an aH hx (l:=n) (h:=b.size) (.inr ⟨y,k,rfl,ax⟩) (.inl ⟨rfl,rfl⟩) (by omega) (Nat.le_refl _)
  |some q9=>
   cases lu with
   |none=>exact bh.elim
   |some h=>
   obtain⟨gE,JQ⟩:=bh
   have hn:0≤a∧a≤h∧h≤(b.size:Int):=hn
   obtain⟨n,rfl⟩: ∃n:Nat,a=(n:Int):=⟨a.toNat,by omega⟩
   obtain⟨m,rfl⟩: ∃n:Nat,h=(n:Int):=⟨h.toNat,by omega⟩
   exact Co t x _ _ an aH hx (l:=n) (h:=m) (.inr ⟨y,k,rfl,ax⟩) (.inr ⟨q9,gE,rfl,JQ⟩) (by omega) (by omega)
end
def CW(P:Program)(t:TypeId):Option aU:=
 match P.underlying t with
 |some (.int k)=>some (.int k)
 |some .bool=>some .bool
 |some .string=>some .str
 |_=>none
def oQ(P:Program):Nat→Nat→List Field→Option (List aU)
 |0,_,_=>none
 |_+1,_,[]=>some []
 |d+1,k,f::fs=>
  if f.name= "_" ||f.offset != k then none
  else match mB P f.type with
   |some gs=>match P.info? f.type with
    |some inf=>match oQ P d 0 gs,oQ P d (k+inf.size) fs with
     |some a,some b=>match Nat.beq a.length inf.size with
      |true=>some (a++b)
      |false=>none
     |_,_=>none
    |none=>none
   |none=>match CW P f.type with
    |some r=>match oQ P d (k+1) fs with
     |some l=>some (r::l)
     |none=>none
    |none=>none
def su:(r:aU)→r.den→Value
 | .int k,n=>.int k n
 | .bool,b=>.bool b
 | .str,x=>.string x
 |_,_=>undef
def aU.cmp:aU→Bool
 | .int _=>true
 | .bool=>true
 | .str=>true
 |_=>false
def zq(d:aF):Value:=su d.r d.v
def mS:List aF→List aF→Bool
 |d::ds,c::cs=>q5 d.r d.v (c.aG d.r)&&mS ds cs
 |_,_=>true
theorem zdh{P:Program}{t:TypeId}{r:aU}(h:CW P t=some r)(x y:r.den):qL P t (su r x)=true∧mA (su r x) (su r y)=some (q5 r x y):=by
 unfold CW at h
 split at h
 ·rename_i k hu;cases h;simp[su,qL,hu,mA,q5]
 ·rename_i hu;cases h;simp[su,qL,hu,mA,q5]
 ·rename_i hu;cases h;simp[su,qL,hu,mA,q5]
 ·cases h
theorem Rt: ∀{a c:List aF} (b d:List aF),a.length=c.length→mS (a++b) (c++d)=(mS a c&&mS b d)
 |[],[],_,_,_=>by simp[mS]
 |x::a,y::c,b,d,h=>by
  simp only[List.cons_append,mS,Rt (a:=a) (c:=c) b d (by simpa using h),Bool.and_assoc]
 |[],_::_,_,_,h=>by cases h
 |_::_,[],_,_,h=>by cases h
theorem CX{P:Program}: ∀(d k:Nat) (fs:List Field) (rs:List aU),oQ P d k fs=some rs→∀(aG cM:List aF),aG.map aF.r=rs→cM.map aF.r=rs→pP P d k fs (aG.map zq) (cM.map zq)=some (mS aG cM)
 |0,_,_,_,h,_,_,_,_=>by cases h
 |d+1,k,[],rs,h,aG,cM,a6,ad=>by
  simp only[oQ,Option.some.injEq]at h;subst h
  cases l5 a6
  cases l5 ad
  rfl
 |d+1,k,f::fs,rs,h,aG,cM,a6,ad=>by
  simp only[oQ]at h;simp only[pP]
  split at h
  ·cases h
  ·rename_i hc
   rw[if_neg hc]
   cases ai:mB P f.type with
   |some gs=>
    rw[ai]at h;simp only at h⊢
    cases hi:P.info? f.type with
    |none=>rw[hi]at h;cases h
    |some inf=>
     rw[hi]at h;simp only at h⊢
     split at h
     ·rename_i u v aa ae
      split at h
      ·rename_i ar
       simp only[Option.some.injEq]at h;subst h
       have ar:=Nat.eq_of_beq_eq_true ar
       have Ru:(aG.take inf.size).map aF.r=u:=by rw[List.map_take,a6,←ar,List.take_left]
       have zdi:(aG.drop inf.size).map aF.r=v:=by rw[List.map_drop,a6,←ar,List.drop_left]
       have tb:(cM.take inf.size).map aF.r=u:=by rw[List.map_take,ad,←ar,List.take_left]
       have zdj:(cM.drop inf.size).map aF.r=v:=by rw[List.map_drop,ad,←ar,List.drop_left]
       rw[←List.map_take,←List.map_take,←List.map_drop,←List.map_drop,CX d 0 gs u aa _ _ Ru tb,CX d _ fs v ae _ _ zdi zdj];simp only[Option.some.injEq];rw[←Rt _ _ (by have aa:=congrArg List.length Ru;have ae:=congrArg List.length tb;simp only[List.length_map]at aa ae;omega),List.take_append_drop,List.take_append_drop]
      ·cases h
     ·cases h
   |none=>
    rw[ai]at h;simp only at h⊢
    split at h
    ·rename_i r ag
     split at h
     ·rename_i l ar
      simp only[Option.some.injEq]at h;subst h;obtain⟨a,zij,rfl,Rv,EX⟩:=ln a6;obtain⟨b,zik,rfl,h6,oE⟩:=ln ad;obtain⟨zil,aT⟩:=a;obtain⟨zim,ph⟩:=b;simp only at Rv h6;subst Rv;subst h6;obtain⟨g1,g2⟩:=zdh ag aT ph;simp only[List.map_cons,zq,g1,g2,if_true,mS,cz];rw[CX d _ fs l ar _ _ EX oE]
     ·cases h
    ·cases h
theorem CY{P:Program}: ∀(d k:Nat) (fs:List Field) (rs:List aU),oQ P d k fs=some rs→∀r∈rs,r.cmp=true
 |0,_,_,_,h,_,_=>by cases h
 |d+1,k,[],rs,h,r,ag=>by
  simp only[oQ,Option.some.injEq]at h;subst h;cases ag
 |d+1,k,f::fs,rs,h,r,ag=>by
  simp only[oQ]at h
  split at h
  ·cases h
  ·cases ai:mB P f.type with
   |some gs=>
    rw[ai]at h;simp only at h
    cases hi:P.info? f.type with
    |none=>rw[hi]at h;cases h
    |some inf=>
     rw[hi]at h;simp only at h
     split at h
     ·rename_i u v aa ae
      split at h
      ·simp only[Option.some.injEq]at h
       subst h
       rcases List.mem_append.1 ag with q|q
       ·exact CY d 0 gs u aa r q
       ·exact CY d _ fs v ae r q
      ·cases h
     ·cases h
   |none=>
    rw[ai]at h;simp only at h
    split at h
    ·rename_i eP dV
     split at h
     ·rename_i l ar
      simp only[Option.some.injEq]at h;subst h
      rcases List.mem_cons.1 ag with rfl|q
      ·unfold CW at dV
       split at dV<;>first|(cases dV;rfl)|cases dV
      ·exact CY d _ fs l ar r q
     ·cases h
    ·cases h
theorem zdk{r:aU}(h:r.cmp=true)(x:r.den):fF r x= .v (su r x):=by
 cases r<;>first|rfl|cases h
theorem zr{G:a8}{e:Env}: ∀{rs:List aU} {l:List ab},hk rs l=true→(∀r∈rs,r.cmp=true)→ht (ab.bO G e l)=some ((fV e rs l).map zq)
 |[],[],_,_=>rfl
 |[],_::_,h,_=>by cases h
 |_::_,[],h,_=>by cases h
 |r::rs,x::xs,h,hc=>by
  simp only[hk,Bool.and_eq_true]at h
  have aa:x.den G e= .au (fF r (x.az e r)):=wu h.1 (by have:=hc r (by simp);cases r<;>first|rfl|cases this)
  simp only[ab.bO,fV,aa,zdk (hc r (by simp)),ht,zr h.2 fun r ag=>hc r (by simp[ag]),List.map_cons,zq]
theorem Rw{e:Env}: ∀{rs:List aU} {l m:List ab},hk rs l=true→hk rs m=true→kp e rs l m=mS (fV e rs l) (fV e rs m)
 |[],[],[],_,_=>rfl
 |[],_::_,_,h,_=>by cases h
 |[],[],_::_,_,h=>by cases h
 |_::_,[],_,h,_=>by cases h
 |_::_,_::_,[],_,h=>by cases h
 |[r],[x],[y],_,_=>by simp[kp,fV,mS,cz]
 |[r],x::iB::xs,_::_,h,_=>by simp[hk]at h
 |[r],[x],y::se::ys,_,h=>by simp[hk]at h
 |r::s::rs,x::xs,y::ys,h,h'=>by
  simp only[hk,Bool.and_eq_true]at h h'
  have:=Rw (e:=e) (rs:=s::rs) (l:=xs) (m:=ys) h.2 h'.2
  cases xs with
  |nil=>simp[hk]at h
  |cons iB xs=>
   cases ys with
   |nil=>simp[hk]at h'
   |cons se ys=>
    have av:mS (fV e (r::s::rs) (x::iB::xs)) (fV e (r::s::rs) (y::se::ys))=(q5 r (x.az e r) (y.az e r)&&mS (fV e (s::rs) (iB::xs)) (fV e (s::rs) (se::ys))):=by
     simp only[fV,mS,cz]
    rw[av,←this];simp only[kp]
    cases q5 r (x.az e r) (y.az e r)<;>rfl
section
variable {P:Program} {G:a8} {o:Oper} {N B:Nat} {e:Env} {S:aq}
theorem Rx(hf: ∀c∈S.g,c.ok e){n:Bool}{op:BinOp}(zt:op=bif n then .neq else .eql){cv ty:TypeId}{x y:Operand}(an:o.op= .binOp op cv x y ty){fs:List Field}{rs:List aU}(h:mB P cv=some fs)(ag:oQ P 64 0 fs=some rs){l m:List ab}(hx:S.aY N x= .ch l)(ax:S.aY N y= .ch m)
 (ar:hk rs l=true)(hm:hk rs m=true):cL P G o (S.den G N B e) (.au (.v (.bool (bif n then !kp e rs l m else kp e rs l m)))):=by
 have hc:=CY 64 0 fs rs ag
 have fS:aI G (S.den G N B e) x= .agg (ab.bO G e l):=by rw[bC hf,hx];rfl
 have mb:aI G (S.den G N B e) y= .agg (ab.bO G e m):=by rw[bC hf,ax];rfl
 have ad:=CX 64 0 fs rs ag _ _ (zh G e ar).1 (zh G e hm).1
 rw[←Rw ar hm]at ad
 cases n with
 |true=>
  subst zt;exact P0 cv ty x y an h fS mb (zr ar hc) (zr hm hc) ad
 |false=>
  subst zt;exact PZ cv ty x y an h fS mb (zr ar hc) (zr hm hc) ad
end
end Go.aK
