/- TD, part B: expressions, needs, states, trees: what they are and what they stand for. Conditions: none. -/
import Derived.Test.YtmkpmgfieagphaaGreatDoorJTDa
namespace Go.aM
open Go
inductive gF where
 |n6
 |iQ (c:bL)
 |o7 (k bk:IntKind)
 |nj
 |z1 (k:IntKind)
 |ux (k:IntKind)
 |cO
 |w3
 deriving DecidableEq
@[reducible] def gF.a:gF→aW
 | .n6=>.str
 | .iQ c=>.li c
 | .o7 k _=>.int k
 | .nj=>.bool
 | .z1 k=>.int k
 | .ux k=>.int k
 | .cO=>.li .u8
 | .w3=>.str
@[reducible] def gF.c:gF→aW
 | .n6=>.int .i64
 | .iQ _=>.int .i64
 | .o7 _ bk=>.int bk
 | .nj=>.bool
 | .z1 k=>.int k
 | .ux k=>.int k
 | .cO=>.str
 | .w3=>.li .u8
def gF.den:(f:gF)→f.a.den→f.c.den
 | .n6,x=>(ByteArray.size x:Int)
 | .iQ _,x=>(List.length x:Int)
 | .o7 _ bk,x=>bk.wrap x
 | .nj,x=>!x
 | .z1 k,x=>k.wrap (0-x)
 | .ux k,x=>iV k (if k.signed then -1 else k.max) x
 | .cO,x=>bytesOf x
 | .w3,x=>(ByteArray.data x).toList.map fun u=>(u.toNat:Int)
def bD(op:BinOp)(k:IntKind)(a b:Int):Int:=
 match op with
 | .add=>k.wrap (a+b)
 | .sub=>k.wrap (a-b)
 | .mul=>k.wrap (a*b)
 | .quo=>k.wrap (a.tdiv b)
 | .rem=>a.tmod b
 | .shl=>k.wrap (a*2^(min b.toNat k.bits))
 | .shr=>a.fdiv (2^(min b.toNat k.bits))
 | .and=>l3 k a b
 | .or=>mM k a b
 | .xor=>iV k a b
 |_=>0
def DC(op:BinOp)(b:Int):Prop:=
 match op with
 | .quo=>b≠0
 | .rem=>b≠0
 | .shl=>0≤b
 | .shr=>0≤b
 |_=>True
def z6(op:BinOp)(a b:Int):Bool:=
 match op with
 | .eql=>a==b
 | .neq=>a != b
 | .lss=>decide (a<b)
 | .leq=>decide (a≤b)
 | .gtr=>decide (a>b)
 |_=>decide (a≥b)
def cq(op:BinOp)(a b:ByteArray):Bool:=
 match op with
 | .eql=>dw a b
 | .neq=>!dw a b
 | .lss=>rk a b
 | .leq=>rk a b||dw a b
 | .gtr=>!(rk a b||dw a b)
 |_=>!rk a b
inductive cC where
 |ju (op:BinOp) (k bk:IntKind)
 |pe (op:BinOp) (k:IntKind)
 |mB (op:BinOp)
 |nN (n:Bool)
 |s3
 |uy (k:IntKind)
 |mx (k:IntKind)
 |kh (c:bL) (k:IntKind)
 |rI (k:IntKind)
 |ap (c:bL)
 |l5
 |l7
 |l6
 |kP
 |w4
 deriving DecidableEq
@[reducible] def cC.a:cC→aW
 | .ju _ k _=>.int k
 | .pe _ k=>.int k
 | .mB _=>.str
 | .nN _=>.bool
 | .s3=>.str
 | .uy k=>.int k
 | .mx k=>.int k
 | .kh c _=>.li c
 | .rI _=>.str
 | .ap c=>.li c
 | .l5=>.str
 | .l7=>.str
 | .l6=>.str
 | .kP=>.str
 | .w4=>.str
@[reducible] def cC.b:cC→aW
 | .ju _ _ bk=>.int bk
 | .pe _ k=>.int k
 | .mB _=>.str
 | .nN _=>.bool
 | .s3=>.str
 | .uy k=>.int k
 | .mx k=>.int k
 | .kh _ k=>.int k
 | .rI k=>.int k
 | .ap c=>.li c
 | .l5=>.int .i64
 | .l7=>.int .i64
 | .l6=>.int .i64
 | .kP=>.int .i64
 | .w4=>.int .u8
@[reducible] def cC.c:cC→aW
 | .ju _ k _=>.int k
 | .pe _ _=>.bool
 | .mB _=>.bool
 | .nN _=>.bool
 | .s3=>.str
 | .uy k=>.int k
 | .mx k=>.int k
 | .kh c _=>.st c
 | .rI _=>.int .u8
 | .ap c=>.li c
 | .l5=>.bool
 | .l7=>.int .i64
 | .l6=>.int .i32
 | .kP=>.int .i64
 | .w4=>.int .i64
def DD(b:ByteArray)(c:Int):Int:=
 match(List.range b.size).find? fun i=>b[i]! ==c.toNat.toUInt8 with
 |some i=>(i:Int)
 |none=> -1
def cC.den:(f:cC)→f.a.den→f.b.den→f.c.den
 | .ju op k _,x,y=>bD op k x y
 | .pe op _,x,y=>z6 op x y
 | .mB op,x,y=>cq op x y
 | .nN n,x,y=>bif n then !(x==y)else x==y
 | .s3,x,y=>ByteArray.append x y
 | .uy _,x,y=>if y<x then y else x
 | .mx _,x,y=>if y>x then y else x
 | .kh c _,x,y=>List.getD x (Int.toNat y) (az c)
 | .rI _,x,y=>ez x y
 | .ap _,x,y=>List.append x y
 | .l5,x,y=>decide (Int.toNat y<ByteArray.size x)
 | .l7,_,y=>(Int.toNat y:Int)
 | .l6,x,y=>((Utf8.decode x (Int.toNat y)).1:Int)
 | .w4,x,y=>DD x y
 | .kP,x,y=>((Int.toNat y+(Utf8.decode x (Int.toNat y)).2:Nat):Int)
def cC.u0(bytes:Nat):(f:cC)→f.a.den→f.b.den→Prop
 | .ju op _ _,_,y=>DC op y
 | .s3,x,y=>ByteArray.size x+ByteArray.size y≤9223372036854775807
 | .kh _ _,x,y=>0≤y∧y<(List.length x:Int)
 | .rI _,x,y=>0≤y∧y<(ByteArray.size x:Int)
 | .ap _,x,y=>List.length x+List.length y≤maxLen∧(List.length x+List.length y)*bytes≤140737488355328
 |_,_,_=>True
@[reducible] def fb:List aW→aW
 |[]=>.un
 |[r]=>r
 |r::s::l=>.zP r (fb (s::l))
def b9:(rs:List aW)→List aF→(fb rs).den
 |[],_=>()
 |[r],d::_=>d.aG r
 |[r],[]=>r.fu
 |r::s::l,d::ds=>(d.aG r,b9 (s::l) ds)
 |r::s::l,[]=>(r.fu,b9 (s::l) [])
def dz:(rs:List aW)→(fb rs).den→List aF
 |[],_=>[]
 |[r],x=>[⟨r,x⟩]
 |r::s::l,x=>⟨r,x.1⟩::dz (s::l) x.2
structure aS where
 ps:List aW
 rs:List aW
 pre:Option ((fb ps).den→Prop)
 m:(fb ps).den→(fb rs).den
def aS.d:aS:=⟨[],[],none,fun x=>x⟩
def e3{α:Type _}(d:α):List α→Nat→α
 |[],_=>d
 |x::r,n=>match Nat.beq n 0 with
  |true=>x
  |false=>e3 d r (Nat.sub n 1)
def gD(e:Env):List aW→List ab→List aF
 |r::rs,x::xs=>⟨r,x.get e r⟩::gD e rs xs
 |_,_=>[]
inductive bJ where
 |rJ (r:aW) (x:ab)
 |f1 (f:gF) (x:ab)
 |f2 (f:cC) (x y:ab)
 |eB (c:bL) (x:ab) (lo hi:Option ab)
 |u1 (x:ab) (lo hi:Option ab)
 |DE (r:aW) (g x y:ab)
 |z7 (n:Bool) (rs:List aW) (l m:List ab)
 |qx (c:bL) (rows:List ab)
 |up (c:bL) (l i x:ab)
 |nth (r:aW) (l:List ab) (i:ab)
 |DF (c:bL) (x:ab)
 |DG (k v:aW)
 |DH (k v:aW) (m x y:ab)
 |w5 (k v:aW) (m x:ab)
 |u2 (k v:aW) (m x:ab)
 |ca (j:Nat) (aG:List ab)
 |rK (rs:List aW) (p i:Nat)
def mC(e:Env):Option ab→Option Int
 |none=>none
 |some x=>some (ck (x.dyn e))
def iF{α:Type}(l:List α):Option Int→Option Int→List α
 |none,none=>l
 |some a,none=>l.drop a.toNat
 |none,some h=>l.take h.toNat
 |some a,some h=>(l.take h.toNat).drop a.toNat
def nK(b:ByteArray):Option Int→Option Int→ByteArray
 |none,none=>b.extract 0 b.size
 |some a,none=>b.extract a.toNat b.size
 |none,some h=>b.extract 0 h.toNat
 |some a,some h=>b.extract a.toNat h.toNat
def jH(n:Nat):Option Int→Option Int→Prop
 |none,none=>True
 |some a,none=>0≤a∧a≤(n:Int)
 |none,some h=>0≤h∧h≤(n:Int)
 |some a,some h=>0≤a∧a≤h∧h≤(n:Int)
def rL:(r:aW)→r.den→r.den→Bool
 | .int _,x,y=>(show Int from x)==y
 | .bool,x,y=>(show Bool from x)==y
 | .str,x,y=>dw x y
 |_,_,_=>false
def kJ(e:Env):List aW→List ab→List ab→Bool
 |[r],[x],[y]=>rL r (x.aA e r) (y.aA e r)
 |r::rs,x::xs,y::ys=>bif rL r (x.aA e r) (y.aA e r)then kJ e rs xs ys else false
 |_,_,_=>true
def mD(e:Env)(c:bL):List ab→List (fJ c)
 |[]=>[]
 |x::r=>x.get e (.st c)::mD e c r
def s4(e:Env)(r:aW):List ab→Nat→r.den
 |[],_=>r.fu
 |[x],_=>x.aA e r
 |x::l,n=>bif Nat.beq n 0 then x.aA e r else s4 e r l (n-1)
def jJ{V:Type}:(k:aW)→List (k.den × V)→k.den→Option V
 | .int _,l,x=>hY (K:=Int) l x
 | .str,l,x=>hY (K:=ByteArray) l x
 |_,_,_=>none
def sx{V:Type}:(k:aW)→List (k.den × V)→k.den→V→List (k.den × V)
 | .int _,l,x,v=>jb (K:=Int) l x v
 | .str,l,x,v=>jb (K:=ByteArray) l x v
 |_,l,_,_=>l
def bJ.den(M:List aS)(e:Env):bJ→aF
 | .rJ r x=>⟨r,x.get e r⟩
 | .f1 f x=>⟨f.c,f.den (x.aA e f.a)⟩
 | .f2 f x y=>⟨f.c,f.den (x.aA e f.a) (y.aA e f.b)⟩
 | .eB c x lo hi=>⟨.li c,iF (x.aA e (.li c)) (mC e lo) (mC e hi)⟩
 | .u1 x lo hi=>⟨.str,nK (x.aA e .str) (mC e lo) (mC e hi)⟩
 | .DE r g x y=>⟨r,bif g.aA e .bool then x.get e r else y.get e r⟩
 | .z7 n rs l m=>⟨.bool,bif n then !kJ e rs l m else kJ e rs l m⟩
 | .qx c rows=>⟨.li c,mD e c rows⟩
 | .up c l i x=>⟨.li c,List.set (l.aA e (.li c)) (ck (i.dyn e)).toNat (x.get e (.st c))⟩
 | .nth r l i=>⟨r,s4 e r l (ck (i.dyn e)).toNat⟩
 | .DF c x=>⟨.li c,List.replicate (Int.toNat (x.aA e (.int .i64))) (az c)⟩
 | .DG k v=>⟨.mp k v,([]:List (k.den × v.den))⟩
 | .DH k v m x y=>⟨.mp k v,sx k (m.aA e (.mp k v)) (x.aA e k) (y.get e v)⟩
 | .w5 k v m x=>⟨.bool,(jJ k (show List (k.den × v.den)from m.aA e (.mp k v)) (x.aA e k)).isSome⟩
 | .u2 k v m x=>⟨v,(jJ k (show List (k.den × v.den)from m.aA e (.mp k v)) (x.aA e k)).getD v.fu⟩
 | .ca j aG=>⟨fb (e3 aS.d M j).rs,(e3 aS.d M j).m (b9 _ (gD e (e3 aS.d M j).ps aG))⟩
 | .rK rs p i=>e3 aF.d (dz rs ((Env.at e p).aG (fb rs))) i
inductive fe where
 |f2 (bytes:Nat) (f:cC) (x y:ab)
 |eB (c:bL) (x:ab) (lo hi:Option ab)
 |u1 (x:ab) (lo hi:Option ab)
 |up (c:bL) (l i:ab)
 |nth (n:Nat) (i:ab)
 |mk (bytes:Nat) (x y:ab)
 |ca (j:Nat) (aG:List ab)
 |Sa (g:ab) (b:Bool) (n:fe)
def lp{α:Type}(p:Option (α→Prop))(x:α):Prop:=
 match p with
 |none=>True
 |some q=>q x
def fe.ok(M:List aS)(e:Env):fe→Prop
 | .f2 n f x y=>f.u0 n (x.aA e f.a) (y.aA e f.b)
 | .eB c x lo hi=>jH (List.length (x.aA e (.li c))) (mC e lo) (mC e hi)
 | .u1 x lo hi=>jH (ByteArray.size (x.aA e .str)) (mC e lo) (mC e hi)
 | .up c l i=>0≤ck (i.dyn e)∧ck (i.dyn e)<(List.length (l.aA e (.li c)):Int)
 | .nth n i=>0≤ck (i.dyn e)∧ck (i.dyn e)<(n:Int)
 | .mk n x y=>0≤x.aA e (.int .i64)∧x.aA e (.int .i64)≤y.aA e (.int .i64)∧y.aA e (.int .i64)≤(maxLen:Int)∧(n:Int)*y.aA e (.int .i64)≤281474976710656
 | .ca j aG=>lp (e3 aS.d M j).pre (b9 _ (gD e (e3 aS.d M j).ps aG))
 | .Sa g b n=>g.aA e .bool=b→n.ok M e
inductive s5 where
 |st
 |mp (k v:aW)
 deriving DecidableEq
@[reducible] def s5.rt:s5→aW
 | .st=>.int .i64
 | .mp k v=>.mp k v
def s5.den:(q:s5)→ByteArray→q.rt.den→wy
 | .st,s,p=>qo s (Int.toNat p)
 | .mp k v,_,l=>jT v.agg (gf (k8 k) (ix v) l)
inductive bC where
 |dn (t:TypeId) (l:List ab)
 |rw (t:TypeId) (c:bL) (x:ab)
 |it (q:s5) (x p:ab)
def bC.den(G:a8)(e:Env):bC→eh
 | .dn t l=>.box t (ab.bQ G e l)
 | .rw t c x=>.row false t (bZ c) (List.map (cb c) (x.aA e (.li c)))
 | .it q x p=>.bM (q.den (x.aA e .str) (p.aA e q.rt))
def cx(G:a8)(e:Env):List (Nat × bC)→Heap
 |[]=>[]
 |(i,o)::r=>(i,o.den G e)::cx G e r
def db:List (Nat × bC)→Nat→Option bC
 |[],_=>none
 |(i,o)::r,k=>match Nat.beq i k with
  |true=>some o
  |false=>db r k
def jv:List (Nat × bC)→Nat→bC→List (Nat × bC)
 |[],k,x=>[(k,x)]
 |(i,o)::r,k,x=>match Nat.beq i k with
  |true=>(i,x)::r
  |false=>(i,o)::jv r k x
inductive b6 where
 |d1 (i:Nat) (f:gF) (x:ab)
 |d2 (i:Nat) (f:cC) (x y:ab)
 |rg (i:Nat) (b:ab)
 |dT (g:ab) (b:Bool)
def b6.ok(e:Env):b6→Prop
 | .d1 i f x=>Env.at e i=⟨f.c,f.den (x.aA e f.a)⟩
 | .d2 i f x y=>Env.at e i=⟨f.c,f.den (x.aA e f.a) (y.aA e f.b)⟩
 | .rg i b=>0≤ck (Env.at e i)∧ck (Env.at e i)<ck (b.dyn e)
 | .dT g b=>g.aA e .bool=b
structure aq where
 l:ba ab
 h:List (Nat × bC)
 n:Nat
 k:Nat
 g:List b6
def aq.at(S:aq)(i:Nat):ab:=
 match S.l.get i with
 |some x=>x
 |none=>.top
def ki(G:a8)(e:Env)(l:ba ab):Nat→Nat→List aD
 |_,0=>[]
 |i,n+1=>(match l.get i with|some x=>x.den G e|none=>.top)::ki G e l (i+1) n
def aq.den(G:a8)(N B:Nat)(e:Env)(S:aq):aP:=⟨ki G e S.l 0 N,cx G e S.h,S.n,B⟩
inductive ey where
 |slot (i:Nat) (p:List Nat)
 |box (id off:Nat) (p:List Nat)
 |row (id:Nat)
 |kK (p:ey)
def ab.kK:ab→ab
 | .eb _ _=>.cs (.bool true)
 | .cs (.pointer none)=>.cs (.bool false)
 | .fg (.aV .bool i) _ _=>.aV .bool i
 |_=>.top
def ab.sub:ab→List Nat→ab
 |x,[]=>x
 | .ch l,i::p=>(e3 .top l i).sub p
 | .tp l,i::p=>(e3 .top l i).sub p
 |_,_::_=>.top
def ey.dh(S:aq):ey→ab
 | .slot i p=>(S.at i).sub p
 | .box id off p=>match db S.h id with
  |some (.dn _ l)=>(e3 .top l off).sub p
  |_=>.top
 | .row id=>match db S.h id with
  |some (.rw _ _ x)=>x
  |some (.it _ _ p)=>p
  |_=>.top
 | .kK p=>(p.dh S).kK
inductive b0 where
 |cj
 |ext (n:Nat)
 |ret
 |lf (n:Nat)
def b0.bT(n:Nat):b0→Bool
 | .lf m=>Nat.beq m n
 |_=>false
def b0.cZ(n:Nat):b0→Bool
 | .ext m=>Nat.beq m n
 |_=>false
structure hD where
 i:Nat
 r:aW
 x:ab
 p:ey
inductive aB where
 |cH (x:b0) (S:aq)
 |lt (i:Nat) (x:bJ) (t:aB)
 |eG (n:fe) (t:aB)
 |it (g:ab) (a b:aB)
 |dC (n:Nat) (a:aB) (ps:List (Nat × aW × ey)) (k:aB)
 |ej (m xid:Nat) (dp:bJ) (b1:Nat) (ca:List hD) (a k:aB)
 |e0 (m xid:Nat) (ca:List hD) (a k:aB)
 |bad (n:Nat)
def aB.fp:aB→(b0→Bool)→Bool
 | .cH x _,f=>f x
 | .lt _ _ t,f=>t.fp f
 | .eG _ t,f=>t.fp f
 | .it _ a b,f=>a.fp f&&b.fp f
 | .dC n a _ k,f=>a.fp (fun x=>x.bT n||f x)&&k.fp f
 | .ej m xid _ _ _ a k,f=>a.fp (fun x=>x.bT m||(x.cZ xid||f x))&&k.fp f
 | .e0 m xid _ a k,f=>a.fp (fun x=>x.bT m||(x.cZ xid||f x))&&k.fp f
 | .bad _,_=>false
def aB.jw(t:aB)(n:Nat):Bool:=t.fp (b0.bT n)
def rM:List hD→List aW
 |[]=>[]
 |a::l=>a.r::rM l
def dE(e:Env):List hD→List aF
 |[]=>[]
 |a::l=>⟨a.r,a.x.get e a.r⟩::dE e l
def fw(S:aq)(e:Env):List hD→List aF
 |[]=>[]
 |a::l=>⟨a.r,(a.p.dh S).get e a.r⟩::fw S e l
def rN(e:Env):List hD→List aF→Env
 |a::l,d::ds=>rN (ba.put e a.i d) l ds
 |_,_=>e
abbrev bY(ca:List hD):Type:=(fb (rM ca)).den
def bm(e:Env)(ca:List hD)(v:bY ca):Env:=rN e ca (dz (rM ca) v)
def fM(e:Env)(f:aW→ey→aF):List (Nat × aW × ey)→Env
 |[]=>e
 |(i,r,p)::l=>fM (ba.put e i (f r p)) f l
def dU:Nat:=18446744073709551616
def ee{X:Type}(m xid:Nat)(ca:List hD)(K:b0→aq→Env→X)(x:b0)(S:aq)(e:Env):Step X (bY ca):=
 match x.bT m with
 |true=>.br (b9 _ (fw S e ca))
 |false=>match x.cZ xid with
  |true=>.cI (b9 _ (fw S e ca))
  |false=>.ret (K x S e)
def aB.fold(M:List aS):aB→{X:Type}→Env→(b0→aq→Env→X)→X→X
  | .cH x S,_,e,K,_=>K x S e
  | .lt i x t,_,e,K,d=>t.fold M (ba.put e i (x.den M e)) K d
  | .eG _ t,_,e,K,d=>t.fold M e K d
  | .it g a b,_,e,K,d=>bif g.aA e .bool then a.fold M e K d else b.fold M e K d
  | .dC n a ps k,_,e,K,d=>bif a.jw n
    then k.fold M (fM e (fun r p=>⟨r,a.fold M e (fun _ S ay=>(p.dh S).get ay r) r.fu⟩) ps) K d
    else bif a.fold M e (fun x _ _=>x.bT n) false
      then k.fold M (fM e (fun r p=>⟨r,a.fold M e (fun x S ay=>bif x.bT n then(p.dh S).get ay r else r.fu) r.fu⟩) ps) K d
      else a.fold M e K d
  | .ej m xid dp b1 ca a k,X,e,K,d=>Sum.elim (fun r=>r) (fun v=>k.fold M (bm e ca v) K d) (bp (fun i (v:bY ca)=>bif a.jw m
        then(.br (a.fold M (bm (ba.put e b1 ⟨.int .i64,(i:Int)⟩) ca v) (fun _ S ay=>b9 _ (fw S ay ca)) v):Step X (bY ca))
        else a.fold M (bm (ba.put e b1 ⟨.int .i64,(i:Int)⟩) ca v) (ee m xid ca K) (.cI v)) 0 (ck (dp.den M e)).toNat (b9 _ (dE e ca)))
  | .e0 m xid ca a k,X,e,K,d=>Sum.elim (fun r=>r) (fun v=>k.fold M (bm e ca v) K d) (c0 (fun v=>(a.fold M (bm e ca v) (ee m xid ca K) (.cI v):Step X (bY ca))) dU (b9 _ (dE e ca)))
  | .bad _,_,_,_,d=>d
def aB.safe(M:List aS):aB→Env→Prop
  | .cH _ _,_=>True
  | .lt i x t,e=>t.safe M (ba.put e i (x.den M e))
  | .eG n t,e=>n.ok M e∧t.safe M e
  | .it g a b,e=>(g.aA e .bool=true→a.safe M e)∧(g.aA e .bool=false→b.safe M e)
  | .dC n a ps k,e=>a.safe M e∧(a.fold M e (fun x _ _=>x.bT n) false=true→k.safe M (fM e (fun r p=>⟨r,bif a.jw n
      then a.fold M e (fun _ S ay=>(p.dh S).get ay r) r.fu
      else a.fold M e (fun x S ay=>bif x.bT n then(p.dh S).get ay r else r.fu) r.fu⟩) ps))
  | .ej m xid dp b1 ca a k,e=>(∃I:Nat→bY ca→Prop,I 0 (b9 _ (dE e ca))∧∀(i:Nat) (v:bY ca),i<(ck (dp.den M e)).toNat→I i v→
      a.safe M (bm (ba.put e b1 ⟨.int .i64,(i:Int)⟩) ca v)∧∀bh,a.fold M (bm (ba.put e b1 ⟨.int .i64,(i:Int)⟩) ca v) (ee m xid ca fun _ _ _=>()) (.cI v)= .br bh→I (i+1) bh)∧
      Sum.elim (fun _=>True) (fun v=>k.safe M (bm e ca v)) (bp (fun i (v:bY ca)=>a.fold M (bm (ba.put e b1 ⟨.int .i64,(i:Int)⟩) ca v) (ee m xid ca fun _ _ _=>()) (.cI v)) 0 (ck (dp.den M e)).toNat (b9 _ (dE e ca)))
  | .e0 m xid ca a k,e=>(∃I:bY ca→Prop,I (b9 _ (dE e ca))∧∀(v:bY ca),I v→
      a.safe M (bm e ca v)∧∀bh,a.fold M (bm e ca v) (ee m xid ca fun _ _ _=>()) (.cI v)= .br bh→I bh)∧
      kg (fun v=>(a.fold M (bm e ca v) (ee m xid ca fun _ _ _=>()) (.cI v):Step Unit (bY ca))) dU (b9 _ (dE e ca))∧
      Sum.elim (fun _=>True) (fun v=>k.safe M (bm e ca v)) (c0 (fun v=>(a.fold M (bm e ca v) (ee m xid ca fun _ _ _=>()) (.cI v):Step Unit (bY ca))) dU (b9 _ (dE e ca)))
  | .bad _,_=>False
def aB.clean:aB→Bool
 | .cH _ _=>true
 | .lt _ _ t=>t.clean
 | .eG _ _=>false
 | .it _ a b=>a.clean&&b.clean
 | .dC _ a _ k=>a.clean&&k.clean
 | .ej _ _ _ _ _ a k=>a.clean&&k.clean
 | .e0 _ _ _ _ _=>false
 | .bad _=>false
theorem rO(M:List aS): ∀{t:aB} {e:Env},t.clean=true→t.safe M e
 | .cH _ _,_,_=>trivial
 | .lt _ _ t,_,h=>rO M (t:=t) h
 | .eG _ _,_,h=>by cases h
 | .it _ a b,_,h=>by
  simp only[aB.clean,Bool.and_eq_true]at h;exact⟨fun _=>rO M h.1,fun _=>rO M h.2⟩
 | .dC _ a _ k,_,h=>by
  simp only[aB.clean,Bool.and_eq_true]at h;exact⟨rO M h.1,fun _=>rO M h.2⟩
 | .ej _ _ _ _ _ a k,_,h=>by
  simp only[aB.clean,Bool.and_eq_true]at h;refine⟨⟨fun _ _=>True,trivial,fun _ _ _ _=>⟨rO M h.1,fun _ _=>trivial⟩⟩,?_⟩
  generalize bp _ _ _ _=L
  cases L with
  |inl r=>trivial
  |inr v=>exact rO M h.2
 | .e0 _ _ _ _ _,_,h=>by cases h
 | .bad _,_,h=>by cases h
end Go.aM
namespace Go.aM
open Go
def iR{R A X:Type}(f:R→X):Step R A→Step X A
 | .ret r=>.ret (f r)
 | .cI a=>.cI a
 | .br a=>.br a
theorem w6{R A X:Type}(f:R→X){b:Nat→A→Step R A}{c:Nat→A→Step X A}(h: ∀i a,c i a=iR f (b i a)): ∀(m k:Nat) (a:A),bp c k m a=Sum.map f id (bp b k m a)
 |0,_,_=>rfl
 |m+1,k,a=>by
  simp only[bp,h]
  cases b k a with
  |ret r=>rfl
  |cI a=>rfl
  |br a=>exact w6 f h m (k+1) a
theorem w7{R A X:Type}(f:R→X){b:A→Step R A}{c:A→Step X A}(h: ∀a,c a=iR f (b a)): ∀(m:Nat) (a:A),c0 c m a=Sum.map f id (c0 b m a)
 |0,_=>rfl
 |m+1,a=>by
  simp only[c0,h]
  cases b a with
  |ret r=>rfl
  |cI a=>rfl
  |br a=>exact w7 f h m a
theorem KC{R A X:Type}(f:R→X){b:A→Step R A}{c:A→Step X A}(h: ∀a,c a=iR f (b a)): ∀(m:Nat) (a:A),kg c m a↔kg b m a
 |0,_=>Iff.rfl
 |m+1,a=>by
  simp only[kg,h]
  cases b a with
  |ret r=>exact Iff.rfl
  |cI a=>exact Iff.rfl
  |br a=>exact KC f h m a
theorem w8{X Y:Type}(g:X→Y)(m xid:Nat)(ca:List hD)(K:b0→aq→Env→X)(x:b0)(S:aq)(e:Env):iR g (ee m xid ca K x S e)=ee m xid ca (fun x S e=>g (K x S e)) x S e:=by
 unfold ee
 split
 ·rfl
 ·split<;>rfl
section
variable {X:Type} {m xid:Nat} {ca:List hD} {K:b0→aq→Env→X} {x:b0} {S:aq} {e:Env}
theorem n7(h:x.bT m=true):ee m xid ca K x S e= .br (b9 _ (fw S e ca)):=by unfold ee;rw[h]
theorem n8(h:x.bT m=false)(h':x.cZ xid=true):ee m xid ca K x S e= .cI (b9 _ (fw S e ca)):=by unfold ee;rw[h,h']
theorem kj(h:x.bT m=false)(h':x.cZ xid=false):ee m xid ca K x S e= .ret (K x S e):=by unfold ee;rw[h,h']
end
section
variable {M:List aS}
theorem fold_map: ∀(t:aB) {X Y:Type} (g:X→Y) (e:Env) (K:b0→aq→Env→X) (d:X),g (t.fold M e K d)=t.fold M e (fun x S ay=>g (K x S ay)) (g d)
  | .cH _ _,_,_,_,_,_,_=>rfl
  | .lt _ _ t,_,_,g,_,K,d=>fold_map t g _ K d
  | .eG _ t,_,_,g,_,K,d=>fold_map t g _ K d
  | .it c a b,_,_,g,e,K,d=>by
    simp only[aB.fold]
    cases c.aA e .bool with
    |true=>exact fold_map a g e K d
    |false=>exact fold_map b g e K d
  | .dC n a ps k,_,_,g,e,K,d=>by
    simp only[aB.fold]
    cases a.jw n with
    |true=>exact fold_map k g _ K d
    |false=>cases a.fold M e (fun x _ _=>x.bT n) false with
      |true=>exact fold_map k g _ K d
      |false=>exact fold_map a g e K d
  | .ej m xid dp b1 ca a k,X,Y,g,e,K,d=>by
    simp only[aB.fold]
    rw[w6 g (c:=fun i (v:bY ca)=>bif a.jw m
        then(.br (a.fold M (bm (ba.put e b1 ⟨.int .i64,(i:Int)⟩) ca v) (fun _ S ay=>b9 _ (fw S ay ca)) v):Step Y (bY ca))
        else a.fold M (bm (ba.put e b1 ⟨.int .i64,(i:Int)⟩) ca v) (ee m xid ca fun x S e=>g (K x S e)) (.cI v))
      (b:=fun i (v:bY ca)=>bif a.jw m
        then(.br (a.fold M (bm (ba.put e b1 ⟨.int .i64,(i:Int)⟩) ca v) (fun _ S ay=>b9 _ (fw S ay ca)) v):Step X (bY ca))
        else a.fold M (bm (ba.put e b1 ⟨.int .i64,(i:Int)⟩) ca v) (ee m xid ca K) (.cI v))
      (fun i v=>by
        cases a.jw m with
        |true=>rfl
        |false=>
          simp only[cond_false];rw[fold_map a (iR g)];simp only[w8]
          rfl)]
    generalize bp _ _ _ _=L
    cases L with
    |inl r=>rfl
    |inr v=>exact fold_map k g _ K d
  | .e0 m xid ca a k,X,Y,g,e,K,d=>by
    simp only[aB.fold]
    rw[w7 g (c:=fun(v:bY ca)=>a.fold M (bm e ca v) (ee m xid ca fun x S e=>g (K x S e)) (.cI v))
      (b:=fun(v:bY ca)=>a.fold M (bm e ca v) (ee m xid ca K) (.cI v))
      (fun v=>by
        rw[fold_map a (iR g)];simp only[w8]
        rfl)]
    generalize c0 _ _ _=L
    cases L with
    |inl r=>rfl
    |inr v=>exact fold_map k g _ K d
  | .bad _,_,_,_,_,_,_=>rfl
abbrev nk:=b0 × aq × Env
def run(M:List aS)(t:aB)(e:Env):Option nk:=t.fold M e (fun x S ay=>some (x,S,ay)) none
theorem kk{t:aB}{e ay:Env}{x:b0}{S:aq}(h:run M t e=some (x,S,ay)){X:Type}(K:b0→aq→Env→X)(d:X):t.fold M e K d=K x S ay:=by
 have:=fold_map (M:=M) t (fun(o:Option nk)=>match o with|some (x,S,ay)=>K x S ay|none=>d) e (fun x S ay=>some (x,S,ay)) none
 simp only at this
 rw[←this]
 unfold run at h
 rw[h]
theorem z8{t:aB}{e:Env}(h:run M t e=none){X:Type}(K:b0→aq→Env→X)(d:X):t.fold M e K d=d:=by
 have:=fold_map (M:=M) t (fun(o:Option nk)=>match o with|some (x,S,ay)=>K x S ay|none=>d) e (fun x S ay=>some (x,S,ay)) none
 simp only at this
 rw[←this]
 unfold run at h
 rw[h]
def c6(M:List aS)(m xid:Nat)(ca:List hD)(a:aB)(e:Env)(v:bY ca):Step (Option nk) (bY ca):=
 match run M a e with
 |some (x,S,ay)=>ee m xid ca (fun x S e=>some (x,S,e)) x S ay
 |none=>.cI v
theorem w9(m xid:Nat)(ca:List hD)(a:aB)(e:Env)(v:bY ca):a.fold M e (ee m xid ca fun x S e=>some (x,S,e)) (.cI v)=c6 M m xid ca a e v:=by
 unfold c6
 split
 ·rename_i x S ay h
  exact kk h _ _
 ·rename_i h
  exact z8 h _ _
theorem Sb{m xid b1:Nat}{dp:bJ}{ca:List hD}{a k:aB}{e:Env}{X:Type}(K:b0→aq→Env→X)(d:X)(h:a.jw m=true→∀e,∃x S ay,run M a e=some (x,S,ay)∧x.bT m=true):
 (aB.ej m xid dp b1 ca a k).fold M e K d=Sum.elim (fun r=>r) (fun v=>k.fold M (bm e ca v) K d) (bp (fun i (v:bY ca)=>a.fold M (bm (ba.put e b1 ⟨.int .i64,(i:Int)⟩) ca v) (ee m xid ca K) (.cI v)) 0 (ck (dp.den M e)).toNat (b9 _ (dE e ca))):=by
 simp only[aB.fold]
 cases ag:a.jw m with
 |false=>rfl
 |true=>
  have:(fun(i:Nat) (v:bY ca)=>(.br (a.fold M (bm (ba.put e b1 ⟨.int .i64,(i:Int)⟩) ca v) (fun _ S ay=>b9 _ (fw S ay ca)) v):Step X (bY ca)))=fun(i:Nat) (v:bY ca)=>a.fold M (bm (ba.put e b1 ⟨.int .i64,(i:Int)⟩) ca v) (ee m xid ca K) (.cI v):=by
   funext i v
   obtain⟨x,S,ay,aa,ae⟩:=h ag (bm (ba.put e b1 ⟨.int .i64,(i:Int)⟩) ca v);simp only[kk aa,ee,ae]
  simp only[cond_true];rw[this]
theorem jh: ∀{t:aB} {f:b0→Bool} {e:Env},t.fp f=true→∃x S ay,run M t e=some (x,S,ay)∧f x=true
 | .cH x S,_,e,h=>⟨x,S,e,rfl,h⟩
 | .lt _ _ t,_,_,h=>jh (t:=t) h
 | .eG _ t,_,_,h=>jh (t:=t) h
 | .it c a b,f,e,h=>by
  simp only[aB.fp,Bool.and_eq_true]at h;simp only[run,aB.fold]
  cases c.aA e .bool with
  |true=>exact jh (t:=a) h.1
  |false=>exact jh (t:=b) h.2
 | .dC n a ps k,f,e,h=>by
  simp only[aB.fp,Bool.and_eq_true]at h;obtain⟨x,S,ay,aa,ae⟩:=jh (t:=a) (e:=e) h.1;simp only[run,aB.fold]
  cases a.jw n with
  |true=>exact jh (t:=k) h.2
  |false=>
   rw[kk aa]
   cases hx:x.bT n with
   |true=>exact jh (t:=k) h.2
   |false=>
    rw[hx,Bool.false_or]at ae;exact⟨x,S,ay,aa,ae⟩
 | .ej m xid dp b1 ca a k,f,e,h=>by
  simp only[aB.fp,Bool.and_eq_true]at h
  have key: ∀(n i:Nat) (v:bY ca),(∃bh,bp (fun i (v:bY ca)=>a.fold M (bm (ba.put e b1 ⟨.int .i64,(i:Int)⟩) ca v) (ee m xid ca fun x S e=>some (x,S,e)) (.cI v)) i n v= .inr bh)∨
   ∃x S ay,bp (fun i (v:bY ca)=>a.fold M (bm (ba.put e b1 ⟨.int .i64,(i:Int)⟩) ca v) (ee m xid ca fun x S e=>some (x,S,e)) (.cI v)) i n v= .inl (some (x,S,ay))∧f x=true:=by
   intro n
   induction n with
   |zero=>exact fun i v=>.inl ⟨v,rfl⟩
   |succ n a1=>
    intro i v;obtain⟨x,S,ay,aa,ae⟩:=jh (t:=a) (e:=bm (ba.put e b1 ⟨.int .i64,(i:Int)⟩) ca v) h.1;simp only[bp,kk aa]
    cases hx:x.bT m with
    |true=>
     rw[n7 hx];exact a1 (i+1) _
    |false=>
     cases ax:x.cZ xid with
     |true=>
      rw[n8 hx ax];exact .inl ⟨_,rfl⟩
     |false=>
      rw[kj hx ax];rw[hx,ax,Bool.false_or,Bool.false_or]at ae;exact .inr ⟨x,S,ay,rfl,ae⟩
  unfold run;rw[Sb _ _ fun ag e=>jh (t:=a) (e:=e) ag]
  rcases key (ck (dp.den M e)).toNat 0 (b9 _ (dE e ca))with⟨bh,aw⟩|⟨x,S,ay,aw,hf⟩
  ·rw[aw];exact jh (t:=k) h.2
  ·rw[aw];exact⟨x,S,ay,rfl,hf⟩
 | .e0 m xid ca a k,f,e,h=>by
  simp only[aB.fp,Bool.and_eq_true]at h
  have key: ∀(n:Nat) (v:bY ca),(∃bh,c0 (fun(v:bY ca)=>(a.fold M (bm e ca v) (ee m xid ca fun x S e=>some (x,S,e)) (.cI v):Step (Option nk) (bY ca))) n v= .inr bh)∨
   ∃x S ay,c0 (fun(v:bY ca)=>(a.fold M (bm e ca v) (ee m xid ca fun x S e=>some (x,S,e)) (.cI v):Step (Option nk) (bY ca))) n v= .inl (some (x,S,ay))∧f x=true:=by
   intro n
   induction n with
   |zero=>exact fun v=>.inl ⟨v,rfl⟩
   |succ n a1=>
    intro v;simp only[c0];obtain⟨x,S,ay,aa,ae⟩:=jh (t:=a) (e:=bm e ca v) h.1;rw[kk aa]
    cases hx:x.bT m with
    |true=>
     rw[n7 hx];exact a1 _
    |false=>
     cases ax:x.cZ xid with
     |true=>
      rw[n8 hx ax];exact .inl ⟨_,rfl⟩
     |false=>
      rw[kj hx ax];rw[hx,ax,Bool.false_or,Bool.false_or]at ae;exact .inr ⟨x,S,ay,rfl,ae⟩
  simp only[run,aB.fold]
  rcases key dU (b9 _ (dE e ca))with⟨bh,aw⟩|⟨x,S,ay,aw,hf⟩
  ·rw[aw];exact jh (t:=k) h.2
  ·rw[aw];exact⟨x,S,ay,rfl,hf⟩
 | .bad _,_,_,h=>by cases h
theorem qy{n:Nat}{a k:aB}{ps:List (Nat × aW × ey)}{e aC:Env}{x:b0}{aT:aq}(h:run M a e=some (x,aT,aC))(hx:x.bT n=true){X:Type}(K:b0→aq→Env→X)(d:X):
 (aB.dC n a ps k).fold M e K d=k.fold M (fM e (fun r p=>⟨r,(p.dh aT).get aC r⟩) ps) K d:=by
 simp only[aB.fold]
 cases a.jw n with
 |true=>simp only[kk h,cond_true]
 |false=>simp only[kk h,hx,cond_true,cond_false]
theorem nn{n:Nat}{a k:aB}{ps:List (Nat × aW × ey)}{e aC:Env}{x:b0}{aT:aq}(h:run M a e=some (x,aT,aC))(hx:x.bT n=false){X:Type}(K:b0→aq→Env→X)(d:X):
 (aB.dC n a ps k).fold M e K d=K x aT aC:=by
 simp only[aB.fold]
 cases ag:a.jw n with
 |true=>
  obtain⟨iI,dg,ay,aa,ae⟩:=jh (M:=M) (t:=a) (e:=e) ag;rw[aa]at h;cases h;rw[hx]at ae;cases ae
 |false=>simp only[kk h,hx,cond_false]
theorem s6{n:Nat}{a k:aB}{ps:List (Nat × aW × ey)}{e:Env}(h:run M a e=none){X:Type}(K:b0→aq→Env→X)(d:X):
 (aB.dC n a ps k).fold M e K d=d:=by
 simp only[aB.fold]
 cases ag:a.jw n with
 |true=>
  obtain⟨iI,dg,ay,aa,ae⟩:=jh (M:=M) (t:=a) (e:=e) ag;rw[aa]at h;cases h
 |false=>simp only[z8 h,cond_false]
theorem Sc{n:Nat}{a k:aB}{ps:List (Nat × aW × ey)}{e aC:Env}{x:b0}{aT:aq}(ai:(aB.dC n a ps k).safe M e)(h:run M a e=some (x,aT,aC))(hx:x.bT n=true):
 k.safe M (fM e (fun r p=>⟨r,(p.dh aT).get aC r⟩) ps):=by
 have aa:=ai.2 (by rw[kk h];exact hx)
 have ae:(fun(r:aW) (p:ey)=>(⟨r,bif a.jw n
  then a.fold M e (fun _ S ay=>(p.dh S).get ay r) r.fu
  else a.fold M e (fun x S ay=>bif x.bT n then(p.dh S).get ay r else r.fu) r.fu⟩:aF))=fun r p=>⟨r,(p.dh aT).get aC r⟩:=by
  funext r p
  simp only[kk h,hx]
  cases a.jw n<;>rfl
 rw[ae]at aa
 exact aa
theorem xa{m xid b1:Nat}{dp:bJ}{ca:List hD}{a k:aB}{e:Env}{X:Type}(K:b0→aq→Env→X)(d:X):
 (aB.ej m xid dp b1 ca a k).fold M e K d=Sum.elim (fun r=>r) (fun v=>k.fold M (bm e ca v) K d) (bp (fun i (v:bY ca)=>a.fold M (bm (ba.put e b1 ⟨.int .i64,(i:Int)⟩) ca v) (ee m xid ca K) (.cI v)) 0 (ck (dp.den M e)).toNat (b9 _ (dE e ca))):=Sb K d fun ag _=>jh ag
end
end Go.aM
namespace Go.aM
open Go
def aB.rel:aB→(b0→b0)→aB
 | .cH x S,f=>.cH (f x) S
 | .lt i x t,f=>.lt i x (t.rel f)
 | .eG n t,f=>.eG n (t.rel f)
 | .it c a b,f=>.it c (a.rel f) (b.rel f)
 | .dC n a ps k,f=>.dC n (a.rel fun x=>bif x.bT n then x else f x) ps (k.rel f)
 | .ej m xid dp b1 ca a k,f=>.ej m xid dp b1 ca (a.rel fun x=>bif x.bT m||x.cZ xid then x else f x) (k.rel f)
 | .e0 m xid ca a k,f=>.e0 m xid ca (a.rel fun x=>bif x.bT m||x.cZ xid then x else f x) (k.rel f)
 | .bad n,_=>.bad n
def aB.iz:aB→(b0→b0)→Prop
 | .cH _ _,_=>True
 | .lt _ _ t,f=>t.iz f
 | .eG _ t,f=>t.iz f
 | .it _ a b,f=>a.iz f∧b.iz f
 | .dC n a _ k,f=>(∀x,x.bT n=false→(f x).bT n=false)∧(a.iz fun x=>bif x.bT n then x else f x)∧k.iz f
 | .ej m xid _ _ _ a k,f=>(∀x,x.bT m=false→x.cZ xid=false→(f x).bT m=false∧(f x).cZ xid=false)∧(a.iz fun x=>bif x.bT m||x.cZ xid then x else f x)∧k.iz f
 | .e0 m xid _ a k,f=>(∀x,x.bT m=false→x.cZ xid=false→(f x).bT m=false∧(f x).cZ xid=false)∧(a.iz fun x=>bif x.bT m||x.cZ xid then x else f x)∧k.iz f
 | .bad _,_=>True
section
variable {M:List aS}
theorem DI{X:Type}{m xid:Nat}{ca:List hD}{K:b0→aq→Env→X}{f:b0→b0}(h: ∀x,x.bT m=false→x.cZ xid=false→(f x).bT m=false∧(f x).cZ xid=false)(x:b0)(S:aq)(e:Env):
 ee m xid ca K (bif x.bT m||x.cZ xid then x else f x) S e=ee m xid ca (fun x S e=>K (f x) S e) x S e:=by
 cases hx:x.bT m with
 |true=>rw[Bool.true_or,cond_true,n7 hx,n7 hx]
 |false=>
  cases ax:x.cZ xid with
  |true=>rw[Bool.false_or,cond_true,n8 hx ax,n8 hx ax]
  |false=>
   obtain⟨aa,ae⟩:=h x hx ax;rw[Bool.false_or,cond_false,kj hx ax,kj aa ae]
theorem KD: ∀{t:aB} {f g:b0→Bool},(∀x,f x=g x)→t.fp f=t.fp g:=fun {t f g} h=>by
 have:f=g:=funext h
 rw[this]
theorem pf: ∀{t:aB} {f:b0→b0} {g:b0→Bool},t.iz f→(t.rel f).fp g=t.fp fun x=>g (f x)
 | .cH _ _,_,_,_=>rfl
 | .lt _ _ t,_,_,h=>pf (t:=t) h
 | .eG _ t,_,_,h=>pf (t:=t) h
 | .it _ a b,f,g,h=>by simp only[aB.rel,aB.fp,pf (t:=a) h.1,pf (t:=b) h.2]
 | .dC n a ps k,f,g,h=>by
  simp only[aB.rel,aB.fp,pf (t:=a) h.2.1,pf (t:=k) h.2.2]
  congr 1
  refine KD fun x=>?_
  cases hx:x.bT n with
  |true=>simp[hx]
  |false=>simp[h.1 x hx]
 | .ej m xid dp b1 ca a k,f,g,h=>by
  simp only[aB.rel,aB.fp,pf (t:=a) h.2.1,pf (t:=k) h.2.2]
  congr 1
  refine KD fun x=>?_
  cases hx:x.bT m with
  |true=>simp[hx]
  |false=>
   cases ax:x.cZ xid with
   |true=>simp[ax]
   |false=>simp[(h.1 x hx ax).1,(h.1 x hx ax).2]
 | .e0 m xid ca a k,f,g,h=>by
  simp only[aB.rel,aB.fp,pf (t:=a) h.2.1,pf (t:=k) h.2.2]
  congr 1
  refine KD fun x=>?_
  cases hx:x.bT m with
  |true=>simp[hx]
  |false=>
   cases ax:x.cZ xid with
   |true=>simp[ax]
   |false=>simp[(h.1 x hx ax).1,(h.1 x hx ax).2]
 | .bad _,_,_,_=>rfl
theorem mE: ∀{t:aB} {f:b0→b0},t.iz f→∀{X:Type} (e:Env) (K:b0→aq→Env→X) (d:X),(t.rel f).fold M e K d=t.fold M e (fun x S ay=>K (f x) S ay) d
 | .cH _ _,_,_,_,_,_,_=>rfl
 | .lt _ _ t,_,h,_,_,K,d=>mE (t:=t) h _ K d
 | .eG _ t,_,h,_,_,K,d=>mE (t:=t) h _ K d
 | .it c a b,f,h,_,e,K,d=>by
  simp only[aB.rel,aB.fold,mE (t:=a) h.1,mE (t:=b) h.2]
 | .dC n a ps k,f,h,_,e,K,d=>by
  have af:run M (a.rel fun x=>bif x.bT n then x else f x) e=(run M a e).map fun l=>(bif l.1.bT n then l.1 else f l.1,l.2):=by
   unfold run;rw[mE (t:=a) h.2.1];rw[fold_map a (fun o:Option nk=>o.map fun l=>(bif l.1.bT n then l.1 else f l.1,l.2))]
   rfl
  show(aB.dC n (a.rel fun x=>bif x.bT n then x else f x) ps (k.rel f)).fold M e K d=_
  cases cp:run M a e with
  |none=>rw[s6 (by rw[af,cp];rfl),s6 cp]
  |some l=>
   obtain⟨x,aT,aC⟩:=l
   have aa:run M (a.rel fun x=>bif x.bT n then x else f x) e=some (bif x.bT n then x else f x,aT,aC):=by rw[af,cp];rfl
   cases hx:x.bT n with
   |true=>
    rw[hx,cond_true]at aa;rw[qy aa hx,qy cp hx];exact mE (t:=k) h.2.2 _ K d
   |false=>
    rw[hx,cond_false]at aa;rw[nn aa (h.1 x hx),nn cp hx]
 | .ej m xid dp b1 ca a k,f,h,X,e,K,d=>by
  show(aB.ej m xid dp b1 ca (a.rel fun x=>bif x.bT m||x.cZ xid then x else f x) (k.rel f)).fold M e K d=_
  rw[xa,xa]
  have:(fun(i:Nat) (v:bY ca)=>(a.rel fun x=>bif x.bT m||x.cZ xid then x else f x).fold M (bm (ba.put e b1 ⟨.int .i64,(i:Int)⟩) ca v) (ee m xid ca K) (.cI v))=fun(i:Nat) (v:bY ca)=>a.fold M (bm (ba.put e b1 ⟨.int .i64,(i:Int)⟩) ca v) (ee m xid ca fun x S ay=>K (f x) S ay) (.cI v):=by
   funext i v
   rw[mE (t:=a) h.2.1];simp only[DI h.1]
  rw[this];generalize bp _ _ _ _=L
  cases L with
  |inl r=>rfl
  |inr v=>exact mE (t:=k) h.2.2 _ K d
 | .e0 m xid ca a k,f,h,X,e,K,d=>by
  simp only[aB.rel,aB.fold]
  have:(fun(v:bY ca)=>(a.rel fun x=>bif x.bT m||x.cZ xid then x else f x).fold M (bm e ca v) (ee m xid ca K) (.cI v))=fun(v:bY ca)=>a.fold M (bm e ca v) (ee m xid ca fun x S ay=>K (f x) S ay) (.cI v):=by
   funext v
   rw[mE (t:=a) h.2.1];simp only[DI h.1]
  rw[this];generalize c0 _ _ _=L
  cases L with
  |inl r=>rfl
  |inr v=>exact mE (t:=k) h.2.2 _ K d
 | .bad _,_,_,_,_,_,_=>rfl
theorem wh{t:aB}{f:b0→b0}(h:t.iz f)(e:Env):run M (t.rel f) e=(run M t e).map fun l=>(f l.1,l.2):=by
 unfold run
 rw[mE h,fold_map t (fun o:Option nk=>o.map fun l=>(f l.1,l.2))]
 rfl
theorem kY: ∀{t:aB} {f:b0→b0},t.iz f→∀{e:Env},(t.rel f).safe M e↔t.safe M e
 | .cH _ _,_,_,_=>Iff.rfl
 | .lt _ _ t,_,h,_=>kY (t:=t) h
 | .eG _ t,_,h,_=>by simp only[aB.rel,aB.safe,kY (t:=t) h]
 | .it c a b,f,h,e=>by simp only[aB.rel,aB.safe,kY (t:=a) h.1,kY (t:=b) h.2]
 | .dC n a ps k,f,h,e=>by
  have ag: ∀x,(bif b0.bT n x then x else f x).bT n=x.bT n:=fun x=>by
   cases hx:x.bT n with
   |true=>exact hx
   |false=>exact h.1 x hx
  simp only[aB.rel,aB.safe,kY (t:=a) h.2.1,kY (t:=k) h.2.2,aB.jw,pf h.2.1,mE h.2.1,ag]
 | .ej m xid dp b1 ca a k,f,h,e=>by
  simp only[aB.rel,aB.safe,kY (t:=a) h.2.1,kY (t:=k) h.2.2,mE h.2.1,DI h.1]
 | .e0 m xid ca a k,f,h,e=>by
  simp only[aB.rel,aB.safe,kY (t:=a) h.2.1,kY (t:=k) h.2.2,mE h.2.1,DI h.1]
 | .bad _,_,_,_=>Iff.rfl
end
def aB.lvl:aB→Nat
 | .lt _ _ t=>t.lvl
 | .eG _ t=>t.lvl
 | .it _ a b=>Nat.max a.lvl b.lvl
 | .dC n a _ k=>Nat.max n (Nat.max a.lvl k.lvl)
 | .ej m _ _ _ _ a k=>Nat.max m (Nat.max a.lvl k.lvl)
 | .e0 m _ _ a k=>Nat.max m (Nat.max a.lvl k.lvl)
 |_=>0
def fF(n:Nat):b0→b0
 | .cj=>.lf n
 |x=>x
def pg(i:Nat):b0→b0
 | .ext m=>match Nat.beq m i with
  |true=>.cj
  |false=>.ext m
 |x=>x
theorem zdA(i n:Nat)(x:b0)(h:x.bT n=false):(pg i x).bT n=false:=by
 unfold pg
 split
 ·split
  ·rfl
  ·exact h
 ·exact h
theorem zdB(i n:Nat)(x:b0)(h:x.cZ n=false):(pg i x).cZ n=false:=by
 unfold pg
 split
 ·split
  ·rfl
  ·exact h
 ·exact h
theorem zdC(i n:Nat)(hn:i≠n)(x:b0)(h:x.bT n=false):(fF i x).bT n=false:=by
 unfold fF
 split
 ·show Nat.beq i n=false
  rw[qw];exact decide_eq_false hn
 ·exact h
theorem zdD(i n:Nat)(x:b0)(h:x.cZ n=false):(fF i x).cZ n=false:=by
 unfold fF
 split
 ·rfl
 ·exact h
theorem np: ∀{t:aB} {f:b0→b0} (N:Nat),t.lvl<N→(∀n,n<N→∀x,x.bT n=false→(f x).bT n=false)→(∀n x,x.cZ n=false→(f x).cZ n=false)→t.iz f
 | .cH _ _,_,_,_,_,_=>trivial
 | .lt _ _ t,_,N,ar,aa,ae=>np (t:=t) N ar aa ae
 | .eG _ t,_,N,ar,aa,ae=>np (t:=t) N ar aa ae
 | .it _ a b,f,N,ar,aa,ae=>by
  have ar:Nat.max a.lvl b.lvl<N:=ar
  have g1:a.lvl≤Nat.max a.lvl b.lvl:=Nat.le_max_left _ _
  have g2:b.lvl≤Nat.max a.lvl b.lvl:=Nat.le_max_right _ _
  exact⟨np (t:=a) N (by omega) aa ae,np (t:=b) N (by omega) aa ae⟩
 | .dC n a _ k,f,N,ar,aa,ae=>by
  have ar:Nat.max n (Nat.max a.lvl k.lvl)<N:=ar
  have g0:n≤Nat.max n (Nat.max a.lvl k.lvl):=Nat.le_max_left _ _
  have g3:Nat.max a.lvl k.lvl≤Nat.max n (Nat.max a.lvl k.lvl):=Nat.le_max_right _ _
  have g1:a.lvl≤Nat.max a.lvl k.lvl:=Nat.le_max_left _ _
  have g2:k.lvl≤Nat.max a.lvl k.lvl:=Nat.le_max_right _ _
  refine⟨aa n (by omega),np (t:=a) N (by omega) (fun p ak x hx=>?_) (fun p x hx=>?_),np (t:=k) N (by omega) aa ae⟩
  ·cases x.bT n with
   |true=>exact hx
   |false=>exact aa p ak x hx
  ·cases x.bT n with
   |true=>exact hx
   |false=>exact ae p x hx
 | .ej m xid _ _ _ a k,f,N,ar,aa,ae=>by
  have ar:Nat.max m (Nat.max a.lvl k.lvl)<N:=ar
  have g0:m≤Nat.max m (Nat.max a.lvl k.lvl):=Nat.le_max_left _ _
  have g3:Nat.max a.lvl k.lvl≤Nat.max m (Nat.max a.lvl k.lvl):=Nat.le_max_right _ _
  have g1:a.lvl≤Nat.max a.lvl k.lvl:=Nat.le_max_left _ _
  have g2:k.lvl≤Nat.max a.lvl k.lvl:=Nat.le_max_right _ _
  refine⟨fun x hx ax=>⟨aa m (by omega) x hx,ae xid x ax⟩,np (t:=a) N (by omega) (fun p ak x hx=>?_) (fun p x hx=>?_),np (t:=k) N (by omega) aa ae⟩
  ·cases x.bT m||x.cZ xid with
   |true=>exact hx
   |false=>exact aa p ak x hx
  ·cases x.bT m||x.cZ xid with
   |true=>exact hx
   |false=>exact ae p x hx
 | .e0 m xid _ a k,f,N,ar,aa,ae=>by
  have ar:Nat.max m (Nat.max a.lvl k.lvl)<N:=ar
  have g0:m≤Nat.max m (Nat.max a.lvl k.lvl):=Nat.le_max_left _ _
  have g3:Nat.max a.lvl k.lvl≤Nat.max m (Nat.max a.lvl k.lvl):=Nat.le_max_right _ _
  have g1:a.lvl≤Nat.max a.lvl k.lvl:=Nat.le_max_left _ _
  have g2:k.lvl≤Nat.max a.lvl k.lvl:=Nat.le_max_right _ _
  refine⟨fun x hx ax=>⟨aa m (by omega) x hx,ae xid x ax⟩,np (t:=a) N (by omega) (fun p ak x hx=>?_) (fun p x hx=>?_),np (t:=k) N (by omega) aa ae⟩
  ·cases x.bT m||x.cZ xid with
   |true=>exact hx
   |false=>exact aa p ak x hx
  ·cases x.bT m||x.cZ xid with
   |true=>exact hx
   |false=>exact ae p x hx
 | .bad _,_,_,_,_,_=>trivial
theorem zdE(t:aB)(i:Nat):t.iz (pg i):=np (t.lvl+1) (Nat.lt_succ_self _) (fun n _ x=>zdA i n x) (fun n x=>zdB i n x)
theorem KE{t:aB}{n:Nat}(h:t.lvl<n):t.iz (fF n):=np n h (fun m hm x=>zdC n m (by omega) x) (fun m x=>zdD n m x)
def ph(o:Option (b0→Bool))(x:b0):Bool:=
 match o with
 |none=>true
 |some f=>f x
def aB.eK(f:aq→aB):aB→Option (b0→Bool)→aB
 | .cH .cj S,none=>f S
 | .cH .cj S,some o=>match(f S).fp o with
  |true=>f S
  |false=>.bad 9
 | .cH x S,_=>.cH x S
 | .lt i x t,o=>.lt i x (t.eK f o)
 | .eG n t,o=>.eG n (t.eK f o)
 | .it c a b,o=>.it c (a.eK f o) (b.eK f o)
 | .dC n a ps k,o=>.dC n (a.eK f (some fun x=>!(x.bT n)&&ph o x)) ps (k.eK f o)
 | .ej m xid dp b1 ca a k,o=>.ej m xid dp b1 ca (a.eK f (some fun x=>!(x.bT m)&&(!(x.cZ xid)&&ph o x))) (k.eK f o)
 | .e0 m xid ca a k,o=>.e0 m xid ca (a.eK f (some fun x=>!(x.bT m)&&(!(x.cZ xid)&&ph o x))) (k.eK f o)
 | .bad n,_=>.bad n
end Go.aM
namespace Go.aM
open Go
theorem BD{R A:Type}{b c:Nat→A→Step R A}(I:Nat→A→Prop)(n:Nat)(h: ∀i v,i<n→I i v→c i v=b i v∧∀bh,b i v= .br bh→I (i+1) bh): ∀(m k:Nat) (a:A),k+m=n→I k a→bp c k m a=bp b k m a
 |0,_,_,_,_=>rfl
 |m+1,k,a,hn,hi=>by
  obtain⟨aa,ae⟩:=h k a (by omega) hi
  simp only[bp,aa]
  cases ad:b k a with
  |ret r=>rfl
  |cI a=>rfl
  |br v=>exact BD I n h m (k+1) v (by omega) (ae v ad)
theorem KF{R A:Type}{b c:A→Step R A}(I:A→Prop)(h: ∀v,I v→c v=b v∧∀bh,b v= .br bh→I bh): ∀(m:Nat) (a:A),I a→c0 c m a=c0 b m a∧(kg c m a↔kg b m a)
 |0,_,_=>⟨rfl,Iff.rfl⟩
 |m+1,a,hi=>by
  obtain⟨aa,ae⟩:=h a hi;simp only[c0,kg,aa]
  cases ad:b a with
  |ret r=>exact⟨rfl,Iff.rfl⟩
  |cI a=>exact⟨rfl,Iff.rfl⟩
  |br v=>exact KF I h m v (ae v ad)
def iA(M:List aS)(f:aq→aB)(o:Option nk):Option nk:=
 match o with
 |some (.cj,S,e)=>run M (f S) e
 |o=>o
section
variable {M:List aS} {f:aq→aB}
theorem Aa{x:b0}{S:aq}{e:Env}(h:x≠ .cj):iA M f (some (x,S,e))=some (x,S,e):=by
 unfold iA
 split
 ·rename_i hx;cases hx;exact absurd rfl h
 ·rfl
theorem iS(m xid:Nat)(ca:List hD)(a:aB)(e:Env)(v:bY ca):a.fold M e (ee m xid ca fun _ _ _=>()) (.cI v)=iR (fun _=>()) (c6 M m xid ca a e v):=by
 unfold c6
 split
 ·rename_i x S ay h
  rw[kk h,w8]
 ·rename_i h
  rw[z8 h];rfl
theorem s7{R A X:Type}{f:R→X}{s:Step R A}{v:A}(h:iR f s= .br v):s= .br v:=by
 cases s<;>simp_all[iR]
theorem Sd{m xid:Nat}{ca:List hD}{a bc:aB}{e:Env}{v:bY ca}(h:run M bc e=iA M f (run M a e))(ar: ∀S ay,run M a e=some (.cj,S,ay)→∃x aT aC,run M (f S) ay=some (x,aT,aC)∧x.bT m=false∧x.cZ xid=false):
 c6 M m xid ca bc e v=iR (iA M f) (c6 M m xid ca a e v):=by
 unfold c6
 rw[h]
 cases af:run M a e with
 |none=>rfl
 |some l=>
  obtain⟨x,S,ay⟩:=l
  cases x with
  |cj=>
   obtain⟨x,aT,aC,aa,ae,au⟩:=ar S ay af;simp only[iA,aa];rw[kj ae au,kj (x:=.cj) rfl rfl];simp only[iR,iA,aa]
  |ext n=>
   simp only[iA];rw[w8]
   cases hx:b0.cZ xid (.ext n)with
   |true=>rw[n8 rfl hx,n8 rfl hx]
   |false=>rw[kj rfl hx,kj rfl hx];rfl
  |ret=>
   simp only[iA];rw[w8,kj rfl rfl,kj rfl rfl];rfl
  |lf n=>
   simp only[iA];rw[w8]
   cases hx:b0.bT m (.lf n)with
   |true=>rw[n7 hx,n7 hx]
   |false=>rw[kj hx rfl,kj hx rfl];rfl
theorem nq: ∀{t:aB} {p q:b0→Bool},t.fp p=true→(∀x,p x=true→q x=true)→t.fp q=true
 | .cH x _,_,_,h,aJ=>aJ x h
 | .lt _ _ t,_,_,h,aJ=>nq (t:=t) h aJ
 | .eG _ t,_,_,h,aJ=>nq (t:=t) h aJ
 | .it _ a b,_,_,h,aJ=>by
  simp only[aB.fp,Bool.and_eq_true]at h⊢;exact⟨nq h.1 aJ,nq h.2 aJ⟩
 | .dC n a _ k,_,_,h,aJ=>by
  simp only[aB.fp,Bool.and_eq_true]at h⊢;refine⟨nq h.1 fun x hx=>?_,nq h.2 aJ⟩
  simp only[Bool.or_eq_true]at hx⊢;exact hx.imp id (aJ x)
 | .ej m xid _ _ _ a k,_,_,h,aJ=>by
  simp only[aB.fp,Bool.and_eq_true]at h⊢;refine⟨nq h.1 fun x hx=>?_,nq h.2 aJ⟩
  simp only[Bool.or_eq_true]at hx⊢;exact hx.imp id (Or.imp id (aJ x))
 | .e0 m xid _ a k,_,_,h,aJ=>by
  simp only[aB.fp,Bool.and_eq_true]at h⊢;refine⟨nq h.1 fun x hx=>?_,nq h.2 aJ⟩
  simp only[Bool.or_eq_true]at hx⊢;exact hx.imp id (Or.imp id (aJ x))
 | .bad _,_,_,h,_=>by cases h
theorem jg: ∀(t:aB) (o:Option (b0→Bool)) {e:Env},(t.eK f o).safe M e→
    t.safe M e∧run M (t.eK f o) e=iA M f (run M t e)∧∀S ay,run M t e=some (.cj,S,ay)→(f S).safe M ay∧∀p,o=some p→(f S).fp p=true
  | .cH x S,o,e,h=>by
    cases x with
    |cj=>
      cases o with
      |none=>exact⟨trivial,rfl,fun dg ay af=>by cases af;exact⟨h,fun _ ak=>by cases ak⟩⟩
      |some p=>
        simp only[aB.eK]at h
        split at h
        · rename_i ar
          have ah:(aB.cH .cj S).eK f (some p)=f S:=by simp only[aB.eK,ar]
          rw[ah];exact⟨trivial,rfl,fun dg ay af=>by cases af;exact⟨h,fun _ ak=>by cases ak;exact ar⟩⟩
        · exact h.elim
    |_=>exact⟨trivial,rfl,fun dg ay af=>by cases af⟩
  | .lt i x t,o,_,h=>jg t o (e:=ba.put _ i _) h
  | .eG n t,o,e,h=>by
    obtain⟨aa,ae,au⟩:=jg t o h.2;exact⟨⟨h.1,aa⟩,ae,au⟩
  | .it c a b,o,e,h=>by
    have aY:=fun hc=>jg a o (h.1 hc)
    have ad:=fun hc=>jg b o (h.2 hc)
    refine⟨⟨fun hc=>(aY hc).1,fun hc=>(ad hc).1⟩,?_⟩
    simp only[run,aB.eK,aB.fold]
    cases hc:c.aA e .bool with
    |true=>exact(aY hc).2
    |false=>exact(ad hc).2
  | .dC n a ps k,o,e,h=>by
    obtain⟨b7,a2,a3⟩:=jg a _ h.1
    have ai:(aB.dC n a ps k).safe M e∧run M ((aB.dC n a ps k).eK f o) e=iA M f (run M (aB.dC n a ps k) e)∧∀S ay,run M (aB.dC n a ps k) e=some (.cj,S,ay)→(f S).safe M ay∧∀p,o=some p→(f S).fp p=true:=by
      show _∧run M (.dC n (a.eK f (some fun x=>!(x.bT n)&&ph o x)) ps (k.eK f o)) e=_∧_
      cases af:run M a e with
      |none=>
        rw[af]at a2
        have a2:run M _ e=none:=a2
        refine⟨⟨b7,fun ag=>by rw[z8 af]at ag;cases ag⟩,?_,fun S ay ag=>by unfold run at ag;rw[s6 af]at ag;cases ag⟩
        unfold run;rw[s6 a2,s6 af];rfl
      |some l=>
        obtain⟨x,aT,aC⟩:=l
        cases hx:x.bT n with
        |true=>
          have b5:x≠ .cj:=fun e=>by rw[e]at hx;cases hx
          rw[af,Aa b5]at a2
          have aj:=Sc h a2 hx
          obtain⟨ft,gG,kZ⟩:=jg k o aj;refine⟨⟨b7,fun _=>?_⟩,?_,fun S ay ag=>?_⟩
          · have:(fun(r:aW) (p:ey)=>(⟨r,bif a.jw n
      then a.fold M e (fun _ S ay=>(p.dh S).get ay r) r.fu
      else a.fold M e (fun x S ay=>bif x.bT n then(p.dh S).get ay r else r.fu) r.fu⟩:aF))=fun r p=>⟨r,(p.dh aT).get aC r⟩:=by
              funext r p
              simp only[kk af,hx]
              cases a.jw n<;>rfl
            rw[this];exact ft
          · unfold run
            rw[qy a2 hx,qy af hx];exact gG
          · unfold run at ag
            rw[qy af hx]at ag;exact kZ S ay ag
        |false=>
          have Se:(aB.dC n a ps k).safe M e:=⟨b7,fun ag=>by rw[kk af,hx]at ag;cases ag⟩
          by_cases b5:x= .cj
          · subst b5
            obtain⟨f1,f2⟩:=a3 aT aC af
            have f2:=f2 _ rfl
            obtain⟨y,dO,bf,g1,g2⟩:=jh (M:=M) (e:=aC) f2;simp only[Bool.and_eq_true,Bool.not_eq_true']at g2;rw[af]at a2
            have a2:run M _ e=run M (f aT) aC:=a2
            rw[g1]at a2;refine⟨Se,?_,fun S ay ag=>?_⟩
            · have aa:run M (aB.dC n a ps k) e=some (.cj,aT,aC):=by unfold run;rw[nn af hx]
              rw[aa];show _=run M (f aT) aC;rw[g1];unfold run;rw[nn a2 g2.1]
            · unfold run at ag
              rw[nn af hx]at ag;cases ag;refine⟨f1,fun p ak=>?_⟩
              subst ak;exact nq f2 fun x hx=>by simp only[Bool.and_eq_true]at hx;exact hx.2
          · rw[af,Aa b5]at a2
            refine⟨Se,?_,fun S ay ag=>?_⟩
            · unfold run
              rw[nn a2 hx,nn af hx,Aa b5]
            · unfold run at ag
              rw[nn af hx]at ag;cases ag;exact absurd rfl b5
    exact ai
  | .ej m xid dp b1 ca a k,o,e,h=>by
    obtain⟨⟨I,i0,bU⟩,aj⟩:=h
    have key: ∀(i:Nat) (v:bY ca),i<(ck (dp.den M e)).toNat→I i v→a.safe M (bm (ba.put e b1 ⟨.int .i64,(i:Int)⟩) ca v)∧
        c6 M m xid ca (a.eK f (some fun x=>!(x.bT m)&&(!(x.cZ xid)&&ph o x))) (bm (ba.put e b1 ⟨.int .i64,(i:Int)⟩) ca v) v=iR (iA M f) (c6 M m xid ca a (bm (ba.put e b1 ⟨.int .i64,(i:Int)⟩) ca v) v)∧
        (∀bh,c6 M m xid ca a (bm (ba.put e b1 ⟨.int .i64,(i:Int)⟩) ca v) v= .br bh→I (i+1) bh)∧
        ∀S ay,c6 M m xid ca a (bm (ba.put e b1 ⟨.int .i64,(i:Int)⟩) ca v) v= .ret (some (.cj,S,ay))→(f S).safe M ay∧∀p,o=some p→(f S).fp p=true:=by
      intro i v hi aw;obtain⟨s1,s2⟩:=bU i v hi aw;obtain⟨b7,a2,a3⟩:=jg a _ s1
      have ah:=Sd (m:=m) (xid:=xid) (ca:=ca) (v:=v) a2 fun S ay af=>by
        obtain⟨y,dO,bf,g1,g2⟩:=jh (M:=M) (e:=ay) ((a3 S ay af).2 _ rfl);simp only[Bool.and_eq_true,Bool.not_eq_true']at g2;exact⟨y,dO,bf,g1,g2.1,g2.2.1⟩
      refine⟨b7,ah,fun bh iO=>s2 bh ?_,fun S ay af=>?_⟩
      · rw[iS,ah,iO]
        rfl
      · unfold c6 at af
        cases pj:run M a (bm (ba.put e b1 ⟨.int .i64,(i:Int)⟩) ca v)with
        |none=>rw[pj]at af;cases af
        |some l=>
          obtain⟨x,dg,zW⟩:=l;rw[pj]at af;simp only at af
          cases hx:x.bT m with
          |true=>rw[n7 hx]at af;cases af
          |false=>
            cases ax:x.cZ xid with
            |true=>rw[n8 hx ax]at af;cases af
            |false=>
              rw[kj hx ax]at af;cases af;obtain⟨f1,f2⟩:=a3 S ay pj;refine⟨f1,fun p ak=>?_⟩
              subst ak;exact nq (f2 _ rfl) fun x hx=>by simp only[Bool.and_eq_true]at hx;exact hx.2.2
    have xb:bp (fun i (v:bY ca)=>(a.eK f (some fun x=>!(x.bT m)&&(!(x.cZ xid)&&ph o x))).fold M (bm (ba.put e b1 ⟨.int .i64,(i:Int)⟩) ca v) (ee m xid ca fun _ _ _=>()) (.cI v)) 0 (ck (dp.den M e)).toNat (b9 _ (dE e ca))=
        bp (fun i (v:bY ca)=>a.fold M (bm (ba.put e b1 ⟨.int .i64,(i:Int)⟩) ca v) (ee m xid ca fun _ _ _=>()) (.cI v)) 0 (ck (dp.den M e)).toNat (b9 _ (dE e ca)):=
      BD I _ (fun i v hi aw=>by
        obtain⟨_,g2,g3,_⟩:=key i v hi aw;refine⟨?_,fun bh iO=>g3 bh ?_⟩
        · rw[iS,iS,g2]
          cases c6 M m xid ca a (bm (ba.put e b1 ⟨.int .i64,(i:Int)⟩) ca v) v<;>rfl
        · rw[iS]at iO
          exact s7 iO) _ 0 _ (by omega) i0
    rw[xb]at aj
    have fS:bp (fun i (v:bY ca)=>(a.eK f (some fun x=>!(x.bT m)&&(!(x.cZ xid)&&ph o x))).fold M (bm (ba.put e b1 ⟨.int .i64,(i:Int)⟩) ca v) (ee m xid ca fun x S e=>some (x,S,e)) (.cI v)) 0 (ck (dp.den M e)).toNat (b9 _ (dE e ca))=
        bp (fun i (v:bY ca)=>iR (iA M f) (c6 M m xid ca a (bm (ba.put e b1 ⟨.int .i64,(i:Int)⟩) ca v) v)) 0 (ck (dp.den M e)).toNat (b9 _ (dE e ca)):=
      BD I _ (fun i v hi aw=>by
        obtain⟨_,g2,g3,_⟩:=key i v hi aw;refine⟨?_,fun bh iO=>g3 bh (s7 iO)⟩
        rw[w9,g2]) _ 0 _ (by omega) i0
    have fL: ∀(n i:Nat) (v:bY ca),i+n=(ck (dp.den M e)).toNat→I i v→∀S ay,bp (fun i (v:bY ca)=>c6 M m xid ca a (bm (ba.put e b1 ⟨.int .i64,(i:Int)⟩) ca v) v) i n v= .inl (some (.cj,S,ay))→(f S).safe M ay∧∀p,o=some p→(f S).fp p=true:=by
      intro n
      induction n with
      |zero=>intro i v _ _ S ay h;cases h
      |succ n a1=>
        intro i v kS aw S ay h;obtain⟨_,_,g3,g4⟩:=key i v (by omega) aw
        simp only[bp]at h
        cases af:c6 M m xid ca a (bm (ba.put e b1 ⟨.int .i64,(i:Int)⟩) ca v) v with
        |ret r=>rw[af]at h;cases h;exact g4 S ay af
        |cI bh=>rw[af]at h;cases h
        |br bh=>rw[af]at h;exact a1 (i+1) bh (by omega) (g3 bh af) S ay h
    have cp:run M (.ej m xid dp b1 ca a k) e=Sum.elim (fun r=>r) (fun v=>run M k (bm e ca v)) (bp (fun i (v:bY ca)=>c6 M m xid ca a (bm (ba.put e b1 ⟨.int .i64,(i:Int)⟩) ca v) v) 0 (ck (dp.den M e)).toNat (b9 _ (dE e ca))):=by
      unfold run;rw[xa];simp only[w9]
    have KG:run M ((aB.ej m xid dp b1 ca a k).eK f o) e=Sum.elim (fun r=>r) (fun v=>run M (k.eK f o) (bm e ca v)) (Sum.map (iA M f) id (bp (fun i (v:bY ca)=>c6 M m xid ca a (bm (ba.put e b1 ⟨.int .i64,(i:Int)⟩) ca v) v) 0 (ck (dp.den M e)).toNat (b9 _ (dE e ca)))):=by
      show aB.fold M (.ej m xid dp b1 ca (a.eK f (some fun x=>!(x.bT m)&&(!(x.cZ xid)&&ph o x))) (k.eK f o)) e _ none=_;rw[xa,fS,w6 (iA M f) (fun _ _=>rfl)];rfl
    have eA: ∀v,bp (fun i (v:bY ca)=>c6 M m xid ca a (bm (ba.put e b1 ⟨.int .i64,(i:Int)⟩) ca v) v) 0 (ck (dp.den M e)).toNat (b9 _ (dE e ca))= .inr v→(k.eK f o).safe M (bm e ca v):=fun v aw=>by
      simp only[iS]at aj;rw[w6 (fun _=>()) (fun _ _=>rfl),aw]at aj;exact aj
    refine⟨⟨⟨I,i0,fun i v hi aw=>?_⟩,?_⟩,?_,fun S ay af=>?_⟩
    · obtain⟨g1,_,g3,_⟩:=key i v hi aw
      exact⟨g1,fun bh iO=>g3 bh (s7 (by rw[iS]at iO;exact iO))⟩
    · simp only[iS]
      rw[w6 (fun _=>()) (fun _ _=>rfl)]
      cases aw:bp (fun i (v:bY ca)=>c6 M m xid ca a (bm (ba.put e b1 ⟨.int .i64,(i:Int)⟩) ca v) v) 0 (ck (dp.den M e)).toNat (b9 _ (dE e ca))with
      |inl r=>trivial
      |inr v=>exact(jg k o (eA v aw)).1
    · rw[cp,KG]
      cases aw:bp (fun i (v:bY ca)=>c6 M m xid ca a (bm (ba.put e b1 ⟨.int .i64,(i:Int)⟩) ca v) v) 0 (ck (dp.den M e)).toNat (b9 _ (dE e ca))with
      |inl r=>rfl
      |inr v=>exact(jg k o (eA v aw)).2.1
    · rw[cp]at af
      cases aw:bp (fun i (v:bY ca)=>c6 M m xid ca a (bm (ba.put e b1 ⟨.int .i64,(i:Int)⟩) ca v) v) 0 (ck (dp.den M e)).toNat (b9 _ (dE e ca))with
      |inl r=>
        rw[aw]at af
        have af:r=some (.cj,S,ay):=af
        subst af;exact fL _ 0 _ (by omega) i0 S ay aw
      |inr v=>
        rw[aw]at af;exact(jg k o (eA v aw)).2.2 S ay af
  | .e0 m xid ca a k,o,e,h=>by
    obtain⟨⟨I,i0,bU⟩,he,aj⟩:=h
    have key: ∀(v:bY ca),I v→a.safe M (bm e ca v)∧
        c6 M m xid ca (a.eK f (some fun x=>!(x.bT m)&&(!(x.cZ xid)&&ph o x))) (bm e ca v) v=iR (iA M f) (c6 M m xid ca a (bm e ca v) v)∧
        (∀bh,c6 M m xid ca a (bm e ca v) v= .br bh→I bh)∧
        ∀S ay,c6 M m xid ca a (bm e ca v) v= .ret (some (.cj,S,ay))→(f S).safe M ay∧∀p,o=some p→(f S).fp p=true:=by
      intro v aw;obtain⟨s1,s2⟩:=bU v aw;obtain⟨b7,a2,a3⟩:=jg a _ s1
      have ah:=Sd (m:=m) (xid:=xid) (ca:=ca) (v:=v) a2 fun S ay af=>by
        obtain⟨y,dO,bf,g1,g2⟩:=jh (M:=M) (e:=ay) ((a3 S ay af).2 _ rfl);simp only[Bool.and_eq_true,Bool.not_eq_true']at g2;exact⟨y,dO,bf,g1,g2.1,g2.2.1⟩
      refine⟨b7,ah,fun bh iO=>s2 bh ?_,fun S ay af=>?_⟩
      · rw[iS,ah,iO]
        rfl
      · unfold c6 at af
        cases pj:run M a (bm e ca v)with
        |none=>rw[pj]at af;cases af
        |some l=>
          obtain⟨x,dg,zW⟩:=l;rw[pj]at af;simp only at af
          cases hx:x.bT m with
          |true=>rw[n7 hx]at af;cases af
          |false=>
            cases ax:x.cZ xid with
            |true=>rw[n8 hx ax]at af;cases af
            |false=>
              rw[kj hx ax]at af;cases af;obtain⟨f1,f2⟩:=a3 S ay pj;refine⟨f1,fun p ak=>?_⟩
              subst ak;exact nq (f2 _ rfl) fun x hx=>by simp only[Bool.and_eq_true]at hx;exact hx.2.2
    have xb:=KF (b:=fun(v:bY ca)=>(a.fold M (bm e ca v) (ee m xid ca fun _ _ _=>()) (.cI v):Step Unit (bY ca))) (c:=fun(v:bY ca)=>((a.eK f (some fun x=>!(x.bT m)&&(!(x.cZ xid)&&ph o x))).fold M (bm e ca v) (ee m xid ca fun _ _ _=>()) (.cI v):Step Unit (bY ca))) I (fun v aw=>by
        obtain⟨_,g2,g3,_⟩:=key v aw;refine⟨?_,fun bh iO=>g3 bh ?_⟩
        · rw[iS,iS,g2]
          cases c6 M m xid ca a (bm e ca v) v<;>rfl
        · rw[iS]at iO
          exact s7 iO) dU _ i0
    rw[xb.1]at aj
    have he:=xb.2.1 he
    have fS:=(KF (b:=fun(v:bY ca)=>iR (iA M f) (c6 M m xid ca a (bm e ca v) v)) (c:=fun(v:bY ca)=>(a.eK f (some fun x=>!(x.bT m)&&(!(x.cZ xid)&&ph o x))).fold M (bm e ca v) (ee m xid ca fun x S e=>some (x,S,e)) (.cI v)) I (fun v aw=>by
        obtain⟨_,g2,g3,_⟩:=key v aw;refine⟨?_,fun bh iO=>g3 bh (s7 iO)⟩
        rw[w9,g2]) dU _ i0).1
    have fL: ∀(n:Nat) (v:bY ca),I v→∀S ay,c0 (fun(v:bY ca)=>c6 M m xid ca a (bm e ca v) v) n v= .inl (some (.cj,S,ay))→(f S).safe M ay∧∀p,o=some p→(f S).fp p=true:=by
      intro n
      induction n with
      |zero=>intro v _ S ay h;cases h
      |succ n a1=>
        intro v aw S ay h;obtain⟨_,_,g3,g4⟩:=key v aw;simp only[c0]at h
        cases af:c6 M m xid ca a (bm e ca v) v with
        |ret r=>rw[af]at h;cases h;exact g4 S ay af
        |cI bh=>rw[af]at h;cases h
        |br bh=>rw[af]at h;exact a1 bh (g3 bh af) S ay h
    have cp:run M (.e0 m xid ca a k) e=Sum.elim (fun r=>r) (fun v=>run M k (bm e ca v)) (c0 (fun(v:bY ca)=>c6 M m xid ca a (bm e ca v) v) dU (b9 _ (dE e ca))):=by
      simp only[run,aB.fold,w9]
    have KG:run M ((aB.e0 m xid ca a k).eK f o) e=Sum.elim (fun r=>r) (fun v=>run M (k.eK f o) (bm e ca v)) (Sum.map (iA M f) id (c0 (fun(v:bY ca)=>c6 M m xid ca a (bm e ca v) v) dU (b9 _ (dE e ca)))):=by
      rw[←w7 (iA M f) (c:=fun(v:bY ca)=>iR (iA M f) (c6 M m xid ca a (bm e ca v) v)) (fun _=>rfl),←fS];rfl
    have eA: ∀v,c0 (fun(v:bY ca)=>c6 M m xid ca a (bm e ca v) v) dU (b9 _ (dE e ca))= .inr v→(k.eK f o).safe M (bm e ca v):=fun v aw=>by
      simp only[iS]at aj;rw[w7 (fun _=>()) (fun _=>rfl),aw]at aj;exact aj
    refine⟨⟨⟨I,i0,fun v aw=>?_⟩,he,?_⟩,?_,fun S ay af=>?_⟩
    · obtain⟨g1,_,g3,_⟩:=key v aw
      exact⟨g1,fun bh iO=>g3 bh (s7 (by rw[iS]at iO;exact iO))⟩
    · simp only[iS]
      rw[w7 (fun _=>()) (fun _=>rfl)]
      cases aw:c0 (fun(v:bY ca)=>c6 M m xid ca a (bm e ca v) v) dU (b9 _ (dE e ca))with
      |inl r=>trivial
      |inr v=>exact(jg k o (eA v aw)).1
    · rw[cp,KG]
      cases aw:c0 (fun(v:bY ca)=>c6 M m xid ca a (bm e ca v) v) dU (b9 _ (dE e ca))with
      |inl r=>rfl
      |inr v=>exact(jg k o (eA v aw)).2.1
    · rw[cp]at af
      cases aw:c0 (fun(v:bY ca)=>c6 M m xid ca a (bm e ca v) v) dU (b9 _ (dE e ca))with
      |inl r=>
        rw[aw]at af
        have af:r=some (.cj,S,ay):=af
        subst af;exact fL _ _ i0 S ay aw
      |inr v=>
        rw[aw]at af;exact(jg k o (eA v aw)).2.2 S ay af
  | .bad _,_,_,h=>h.elim
end
end Go.aM
namespace Go.aM
open Go
theorem n9(G:a8)(e:Env)(l:ba ab): ∀(n i j:Nat),(ki G e l i n)[j]? =if j<n then some (match l.get (i+j)with|some x=>x.den G e|none=>.top)else none
 |0,_,_=>by simp[ki]
 |n+1,i,0=>by simp only[ki,List.getElem?_cons_zero,Nat.add_zero,Nat.zero_lt_succ,if_true]<;>rfl
 |n+1,i,j+1=>by
  simp only[ki,List.getElem?_cons_succ,n9 G e l n (i+1) j]
  rw[show i+1+j=i+(j+1)by omega]
  simp
theorem DJ(G:a8)(e:Env)(l:ba ab): ∀(n i:Nat),(ki G e l i n).length=n
 |0,_=>rfl
 |n+1,i=>by simp[ki,DJ G e l n (i+1)]
theorem u3(G:a8)(N B:Nat)(e:Env)(S:aq)(j:Nat):(S.den G N B e).cQ[j]? =if j<N then some ((S.at j).den G e)else none:=by
 simp only[aq.den,n9,Nat.zero_add]
 by_cases h:j<N
 ·simp only[h,if_true,Option.some.injEq]
  unfold aq.at
  cases S.l.get j<;>rfl
 ·simp[h]
def Ab:ab→ab→Bool
 | .aV r i,.aV q j=>Nat.beq i j&&hR r q
 | .fd c i k r,.fd d j m q=>(Nat.beq i j&&Nat.beq k m)&&(decide (c=d)&&hR r q)
 |_,_=>false
theorem KH{x y:ab}(h:Ab x y=true):x=y:=by
 unfold Ab at h
 split at h
 ·simp only[Bool.and_eq_true]at h
  rw[Nat.eq_of_beq_eq_true h.1,hp h.2]
 ·simp only[Bool.and_eq_true,decide_eq_true_eq]at h
  rw[Nat.eq_of_beq_eq_true h.1.1,Nat.eq_of_beq_eq_true h.1.2,h.2.1,hp h.2.2]
 ·cases h
def lg(g:ab):List b6→Option Bool
 |[]=>none
 | .dT h b::r=>match Ab h g with
  |true=>some b
  |false=>lg g r
 |_::r=>lg g r
theorem qz{e:Env}{g:ab}{b:Bool}: ∀{l:List b6},lg g l=some b→(∀c∈l,c.ok e)→g.aA e .bool=b
 | .dT h b'::r,aj,hc=>by
  simp only[lg]at aj
  split at aj
  ·rename_i ai
   cases aj;rw[←KH ai];exact hc (.dT h b) (by simp)
  ·exact qz aj fun c hm=>hc c (by simp[hm])
 | .d1 _ _ _::r,aj,hc=>qz (l:=r) aj fun c hm=>hc c (by simp[hm])
 | .d2 _ _ _ _::r,aj,hc=>qz (l:=r) aj fun c hm=>hc c (by simp[hm])
 | .rg _ _::r,aj,hc=>qz (l:=r) aj fun c hm=>hc c (by simp[hm])
def ab.res(l:List b6):ab→ab
 | .fE g b v=>match lg g l with
  |some c=>match decide (c=b)with
   |true=>v.res l
   |false=>.tp []
  |none=>.fE g b (v.res l)
 | .fg g id off=>match lg g l,id with
  |some true,some id=>.eb id off
  |some false,_=>.cs (.pointer none)
  |_,_=>.fg g id off
 |x=>x
theorem Sf{l:List b6}{g v:ab}{b:Bool}:(ab.fE g b v).res l=match lg g l with
 |some c=>match decide (c=b)with
  |true=>v.res l
  |false=>.tp []
 |none=>.fE g b (v.res l):=by rw[ab.res]
theorem Sg{l:List b6}{g:ab}{id:Option Nat}{off:Nat}:(ab.fg g id off).res l=match lg g l,id with
 |some true,some id=>.eb id off
 |some false,_=>.cs (.pointer none)
 |_,_=>.fg g id off:=by
 cases aj:lg g l with
 |none=>simp only[ab.res,aj]
 |some b=>cases b<;>cases id<;>simp only[ab.res,aj]
theorem KI{G:a8}{e:Env}{l:List b6}(hc: ∀c∈l,c.ok e): ∀{x:ab},(x.res l).den G e=x.den G e
 | .fE g b v=>by
  have a1:=KI (G:=G) hc (x:=v)
  rw[Sf]
  split
  ·rename_i c aj
   have:=qz aj hc
   split
   ·rename_i hd
    have hd:=of_decide_eq_true hd
    subst hd;rw[a1];simp only[ab.den,this]
    cases c<;>rfl
   ·rename_i hd
    have hd:=of_decide_eq_false hd
    simp only[ab.den,this]
    cases c<;>cases b<;>first|rfl|exact absurd rfl hd
  ·simp only[ab.den,a1]
 | .aV _ _=>rfl
 | .fd _ _ _ _=>rfl
 | .cs _=>rfl
 | .ip _ _ _=>rfl
 | .ch _=>rfl
 | .tp _=>rfl
 | .eb _ _=>rfl
 | .gM _ _ _=>rfl
 | .aO _=>rfl
 | .fn _ _ _=>rfl
 | .gW _=>rfl
 | .lN _ _=>rfl
 | .gT _ _ _ _=>rfl
 | .cO _ _=>rfl
 | .fg g id off=>by
  rw[Sg]
  cases aj:lg g l with
  |none=>rfl
  |some c=>
   have:=qz aj hc
   cases c with
   |true=>cases id with
    |none=>rfl
    |some id=>simp only[ab.den,this]
   |false=>simp only[ab.den,this]
 | .ep _ _ _ _=>rfl
 | .top=>rfl
theorem KJ{l:List b6}{k:Nat}: ∀{x:ab},x.lt k=true→(x.res l).lt k=true
 | .fE g b v,h=>by
  simp only[ab.lt,Bool.and_eq_true]at h;rw[Sf]
  split
  ·split
   ·exact KJ h.2
   ·rfl
  ·simp only[ab.lt,h.1,KJ h.2,Bool.and_self]
 | .aV _ _,h=>h
 | .fd _ _ _ _,h=>h
 | .cs _,h=>h
 | .ip _ _ _,h=>h
 | .ch _,h=>h
 | .tp _,h=>h
 | .eb _ _,h=>h
 | .gM _ _ _,h=>h
 | .aO _,h=>h
 | .fn _ _ _,h=>h
 | .gW _,h=>h
 | .lN _ _,h=>h
 | .gT _ _ _ _,h=>h
 | .cO _ _,h=>h
 | .fg g id off,h=>by
  rw[Sg]
  cases lg g l with
  |none=>exact h
  |some c=>cases c with
   |true=>cases id with
    |none=>exact h
    |some id=>rfl
   |false=>rfl
 | .ep _ _ _ _,h=>h
 | .top,h=>h
def aq.aZ(N:Nat)(S:aq):Operand→ab
 | .tmp t=>match Nat.blt t N with
  |true=>(S.at t).res S.g
  |false=>.top
 | .const v=>match v.oneCell' with
  |true=>.cs v
  |false=>.top
 | .global g=>.lN g 0
 | .func f=>.fn (.func f) [] []
section
variable {G:a8} {N B:Nat} {e:Env} {S:aq}
theorem bE(hf: ∀c∈S.g,c.ok e)(x:Operand):aL G (S.den G N B e) x=(S.aZ N x).den G e:=by
 cases x with
 |tmp t=>
  simp only[aL,aq.aZ,List.getD_eq_getElem?_getD,u3]
  cases h:Nat.blt t N with
  |true=>
   have:t<N:=e7 h
   simp[this,KI hf]
  |false=>
   have: ¬t<N:=fun h'=>by rw[jV h']at h;cases h
   simp[this,ab.den]
 |const v=>
  simp only[aL,aq.aZ]
  cases v.oneCell'<;>simp[ab.den]
 |global g=>
  simp only[aL,aq.aZ,ab.den]
  cases G g with
  |none=>rfl
  |some l=>simp
 |func f=>simp[aL,aq.aZ,ab.den,ab.bQ]
def aq.put(S:aq)(dst:Option Nat)(v:ab):aq:=
 match dst with
 |some d=>{S with l:=S.l.put d v}
 |none=>S
theorem KK(d:Nat)(v:ab)(l:ba ab):ki G e (l.put d v) 0 N=(ki G e l 0 N).set d (v.den G e):=by
 apply List.ext_getElem?
 intro j
 rw[n9,List.getElem?_set,n9,DJ,Nat.zero_add,ba.h0]
 by_cases hd:d=j
 ·subst hd
  by_cases ag:d<N<;>simp[ag]
 ·simp[hd]
theorem fa(dst:Option Nat)(v:ab):(S.put dst v).den G N B e=(S.den G N B e).put dst (v.den G e):=by
 cases dst with
 |none=>rfl
 |some d=>simp only[aq.put,aq.den,aP.put,KK]
theorem ef: ∀(h:List (Nat × bC)) (id:Nat),aE (cx G e h) id=(db h id).map (bC.den G e)
 |[],_=>rfl
 |(i,o)::r,id=>by
  simp only[cx,aE,db,qw]
  by_cases h:i=id
  ·simp[h]
  ·simp only[h,if_false,decide_false]
   exact ef r id
theorem s8: ∀(h:List (Nat × bC)) (id:Nat) (o:bC),cx G e (jv h id o)=eO (cx G e h) id (o.den G e)
 |[],_,_=>rfl
 |(i,p)::r,id,o=>by
  simp only[jv,cx,eO,qw]
  by_cases h:i=id
  ·simp[h,cx]
  ·simp only[h,decide_false,if_false,cx,s8 r id o]
end
def bC.lt(k:Nat):bC→Bool
 | .dn _ l=>ab.cK k l
 | .rw _ _ x=>x.lt k
 | .it _ x p=>x.lt k&&p.lt k
def eH(k:Nat):List (Nat × bC)→Bool
 |[]=>true
 |(_,o)::r=>o.lt k&&eH k r
def b6.lt(k:Nat):b6→Bool
 | .d1 i _ x=>Nat.blt i k&&x.lt k
 | .d2 i _ x y=>Nat.blt i k&&(x.lt k&&y.lt k)
 | .rg i b=>Nat.blt i k&&b.lt k
 | .dT g _=>g.lt k
def fh(k:Nat):List b6→Bool
 |[]=>true
 |c::r=>c.lt k&&fh k r
structure aq.cr (S:aq):Prop where
 l: ∀i x,S.l.get i=some x→x.lt S.k=true
 h:eH S.k S.h=true
 g:fh S.k S.g=true
mutual
theorem gE{k m:Nat}(h:k≤m): ∀{x:ab},x.lt k=true→x.lt m=true:=fun {x} hx=>by
 cases x with
 |aV r i=>exact jV (Nat.lt_of_lt_of_le (e7 hx) h)
 |fd c i j r=>exact jV (Nat.lt_of_lt_of_le (e7 (i:=i) hx) h)
 |ip c i j=>exact jV (Nat.lt_of_lt_of_le (e7 (i:=i) hx) h)
 |ch l=>exact u4 (l:=l) h hx
 |tp l=>exact u4 (l:=l) h hx
 |gM id x off=>exact gE (x:=x) h hx
 |gT id off x n=>exact gE (x:=x) h hx
 |fg g id off=>exact gE (x:=g) h hx
 |ep t a rs l=>exact u4 h (l:=l) hx
 |fn f a b=>
  simp only[ab.lt,Bool.and_eq_true]at hx⊢;exact⟨u4 h hx.1,u4 h hx.2⟩
 |fE g b x=>
  simp only[ab.lt,Bool.and_eq_true]at hx⊢;exact⟨gE h hx.1,gE h hx.2⟩
 |_=>rfl
theorem u4{k m:Nat}(h:k≤m): ∀{l:List ab},ab.cK k l=true→ab.cK m l=true:=fun {l} ar=>by
 match l with
 |[]=>rfl
 |x::r=>
  simp only[ab.cK,Bool.and_eq_true]at ar⊢;exact⟨gE h ar.1,u4 h ar.2⟩
end
theorem s9{k m:Nat}(h:k≤m): ∀{l:List (Nat × bC)},eH k l=true→eH m l=true
 |[],_=>rfl
 |(_,o)::r,ar=>by
  simp only[eH,Bool.and_eq_true]at ar⊢;refine⟨?_,s9 h ar.2⟩
  cases o with
  |dn t l=>exact u4 h (l:=l) ar.1
  |rw t c x=>exact gE h (x:=x) ar.1
  |it q x p=>
   have aa:=ar.1
   simp only[bC.lt,Bool.and_eq_true]at aa⊢;exact⟨gE h aa.1,gE h aa.2⟩
theorem oa{k m:Nat}(h:k≤m): ∀{l:List b6},fh k l=true→fh m l=true
 |[],_=>rfl
 |c::r,ar=>by
  simp only[fh,Bool.and_eq_true]at ar⊢;refine⟨?_,oa h ar.2⟩
  cases c with
  |d1 i f x=>
   have:=ar.1
   simp only[b6.lt,Bool.and_eq_true]at this⊢;exact⟨jV (Nat.lt_of_lt_of_le (e7 this.1) h),gE h this.2⟩
  |d2 i f x y=>
   have:=ar.1
   simp only[b6.lt,Bool.and_eq_true]at this⊢;exact⟨jV (Nat.lt_of_lt_of_le (e7 this.1) h),gE h this.2.1,gE h this.2.2⟩
  |rg i b=>
   have:=ar.1
   simp only[b6.lt,Bool.and_eq_true]at this⊢;exact⟨jV (Nat.lt_of_lt_of_le (e7 this.1) h),gE h this.2⟩
  |dT g b=>exact gE h (x:=g) ar.1
section
variable {G:a8} {N B:Nat} {e ay:Env} {S:aq} {k:Nat}
theorem xc(h:bX k e ay): ∀{l:List (Nat × bC)},eH k l=true→cx G ay l=cx G e l
 |[],_=>rfl
 |(_,o)::r,ar=>by
  simp only[eH,Bool.and_eq_true]at ar;simp only[cx,xc h ar.2]
  congr 2
  cases o with
  |dn t l=>simp only[bC.den,w1 h (l:=l) ar.1]
  |rw t c x=>simp only[bC.den,eF h (x:=x) ar.1]
  |it q x p=>
   have aa:=ar.1
   simp only[bC.lt,Bool.and_eq_true]at aa;simp only[bC.den,eF h (x:=x) aa.1,eF h (x:=p) aa.2]
theorem lh(h:bX S.k e ay)(ad:S.cr):S.den G N B ay=S.den G N B e:=by
 simp only[aq.den,aP.mk.injEq,and_true,true_and]
 refine⟨?_,xc h ad.h⟩
 apply List.ext_getElem?
 intro j
 rw[n9,n9]
 by_cases ag:j<N
 ·simp only[ag,if_true,Option.some.injEq]
  cases ah:S.l.get (0+j)with
  |none=>rfl
  |some x=>exact sZ h (ad.l _ x ah)
 ·simp[ag]
theorem ik(h:bX k e ay): ∀{l:List b6},fh k l=true→(∀c∈l,c.ok e)→∀c∈l,c.ok ay
 |[],_,_,_,hc=>by cases hc
 |d::r,ar,hf,c,hc=>by
  simp only[fh,Bool.and_eq_true]at ar
  rcases List.mem_cons.1 hc with rfl|hc
  ·have aH:=hf c (by simp)
   cases c with
   |d1 i f x=>
    have aa:=ar.1
    simp only[b6.lt,Bool.and_eq_true]at aa;simp only[b6.ok]at aH⊢;rw[h i (e7 aa.1),eF h aa.2];exact aH
   |d2 i f x y=>
    have aa:=ar.1
    simp only[b6.lt,Bool.and_eq_true]at aa;simp only[b6.ok]at aH⊢;rw[h i (e7 aa.1),eF h aa.2.1,eF h aa.2.2];exact aH
   |rg i b=>
    have aa:=ar.1
    simp only[b6.lt,Bool.and_eq_true]at aa;simp only[b6.ok]at aH⊢;rw[h i (e7 aa.1),rH h aa.2];exact aH
   |dT g b=>
    simp only[b6.ok]at aH⊢;rw[eF h (x:=g) ar.1];exact aH
  ·exact ik h ar.2 (fun c hc=>hf c (by simp[hc])) c hc
theorem DK(ad:S.cr)(x:Operand):(S.aZ N x).lt S.k=true:=by
 cases x with
 |tmp t=>
  simp only[aq.aZ]
  split
  ·refine KJ ?_
   unfold aq.at
   split
   ·rename_i x hx;exact ad.l _ x hx
   ·rfl
  ·rfl
 |const v=>simp only[aq.aZ];split<;>rfl
 |global g=>rfl
 |func f=>rfl
end
def bJ.lt(k:Nat):bJ→Bool
 | .rJ _ x=>x.lt k
 | .f1 _ x=>x.lt k
 | .f2 _ x y=>x.lt k&&y.lt k
 | .eB _ x lo hi=>x.lt k&&(ab.cK k lo.toList&&ab.cK k hi.toList)
 | .u1 x lo hi=>x.lt k&&(ab.cK k lo.toList&&ab.cK k hi.toList)
 | .DE _ g x y=>g.lt k&&(x.lt k&&y.lt k)
 | .z7 _ _ l m=>ab.cK k l&&ab.cK k m
 | .qx _ l=>ab.cK k l
 | .up _ l i x=>l.lt k&&(i.lt k&&x.lt k)
 | .nth _ l i=>ab.cK k l&&i.lt k
 | .DF _ x=>x.lt k
 | .DG _ _=>true
 | .DH _ _ m x y=>m.lt k&&(x.lt k&&y.lt k)
 | .w5 _ _ m x=>m.lt k&&x.lt k
 | .u2 _ _ m x=>m.lt k&&x.lt k
 | .ca _ l=>ab.cK k l
 | .rK _ p _=>Nat.blt p k
section
variable {e ay:Env} {k:Nat}
theorem xd(h:bX k e ay): ∀{rs:List aW} {l:List ab},ab.cK k l=true→gD ay rs l=gD e rs l
 |[],_,_=>by simp[gD]
 |_::_,[],_=>by simp[gD]
 |r::rs,x::xs,hx=>by
  simp only[ab.cK,Bool.and_eq_true]at hx;simp only[gD,uY h hx.1,xd h hx.2]
theorem DL(h:bX k e ay){o:Option ab}(an:ab.cK k o.toList=true):mC ay o=mC e o:=by
 cases o with
 |none=>rfl
 |some x=>
  simp only[Option.toList,ab.cK,Bool.and_true]at an;simp only[mC,rH h an]
theorem Sh(h:bX k e ay): ∀{rs:List aW} {l m:List ab},ab.cK k l=true→ab.cK k m=true→kJ ay rs l m=kJ e rs l m
 |[r],[x],[y],ar,hm=>by
  simp only[ab.cK,Bool.and_eq_true]at ar hm;simp only[kJ,eF h ar.1,eF h hm.1]
 |r::s::rs,x::xs,y::ys,ar,hm=>by
  simp only[ab.cK,Bool.and_eq_true]at ar hm
  have:=Sh h (rs:=s::rs) ar.2 hm.2
  cases xs<;>cases ys<;>simp only[kJ,eF h ar.1,eF h hm.1,this]
 |[r],x::iI::xs,y::ys,ar,hm=>by
  simp only[ab.cK,Bool.and_eq_true]at ar hm;simp only[kJ,eF h ar.1,eF h hm.1]
 |[r],[x],y::sU::ys,ar,hm=>by
  simp only[ab.cK,Bool.and_eq_true]at ar hm;simp only[kJ,eF h ar.1,eF h hm.1]
 |[],_,_,_,_=>by simp[kJ]
 |_::_,[],_,_,_=>by simp[kJ]
 |_::_,_::_,[],_,_=>by simp[kJ]
theorem Si(h:bX k e ay){c:bL}: ∀{l:List ab},ab.cK k l=true→mD ay c l=mD e c l
 |[],_=>rfl
 |x::r,ar=>by
  simp only[ab.cK,Bool.and_eq_true]at ar;simp only[mD,uY h ar.1,Si h ar.2]
theorem Sj(h:bX k e ay){r:aW}: ∀{l:List ab} {n:Nat},ab.cK k l=true→s4 ay r l n=s4 e r l n
 |[],_,_=>rfl
 |[x],_,ar=>by
  simp only[ab.cK,Bool.and_eq_true]at ar;simp only[s4,eF h ar.1]
 |x::y::l,n,ar=>by
  simp only[ab.cK,Bool.and_eq_true]at ar
  have:=Sj h (l:=y::l) (n:=n-1) (r:=r) (by simp only[ab.cK,Bool.and_eq_true];exact ar.2)
  simp only[s4,eF h ar.1,this]
theorem zdF(M:List aS)(h:bX k e ay){x:bJ}(hx:x.lt k=true):x.den M ay=x.den M e:=by
 cases x with
 |rJ r x=>simp only[bJ.den,uY h (x:=x) hx]
 |f1 f x=>simp only[bJ.den,eF h (x:=x) hx]
 |f2 f x y=>
  simp only[bJ.lt,Bool.and_eq_true]at hx;simp only[bJ.den,eF h hx.1,eF h hx.2]
 |eB c x lo hi=>
  simp only[bJ.lt,Bool.and_eq_true]at hx;simp only[bJ.den,eF h hx.1,DL h hx.2.1,DL h hx.2.2]
 |u1 x lo hi=>
  simp only[bJ.lt,Bool.and_eq_true]at hx;simp only[bJ.den,eF h hx.1,DL h hx.2.1,DL h hx.2.2]
 |DE r g x y=>
  simp only[bJ.lt,Bool.and_eq_true]at hx;simp only[bJ.den,eF h hx.1,uY h hx.2.1,uY h hx.2.2]
 |z7 n rs l m=>
  simp only[bJ.lt,Bool.and_eq_true]at hx;simp only[bJ.den,Sh h hx.1 hx.2]
 |qx c l=>simp only[bJ.den,Si h (l:=l) hx]
 |DF c x=>simp only[bJ.den,eF h (x:=x) hx]
 |DG r s=>rfl
 |DH r s m x y=>
  simp only[bJ.lt,Bool.and_eq_true]at hx;simp only[bJ.den,eF h hx.1,eF h hx.2.1,uY h hx.2.2]
 |w5 r s m x=>
  simp only[bJ.lt,Bool.and_eq_true]at hx;simp only[bJ.den,eF h hx.1,eF h hx.2]
 |u2 r s m x=>
  simp only[bJ.lt,Bool.and_eq_true]at hx;simp only[bJ.den,eF h hx.1,eF h hx.2]
 |up c l i x=>
  simp only[bJ.lt,Bool.and_eq_true]at hx;simp only[bJ.den,eF h hx.1,rH h hx.2.1,uY h hx.2.2]
 |nth r l i=>
  simp only[bJ.lt,Bool.and_eq_true]at hx;simp only[bJ.den,Sj h hx.1,rH h hx.2]
 |ca j l=>simp only[bJ.den,xd h (l:=l) hx]
 |rK rs p i=>simp only[bJ.den,h p (e7 hx)]
end
end Go.aM
namespace Go.aM
open Go
section
variable {P:Program} {G:a8} {o:Oper} {s:aP}
theorem cN.sub{v bh:aD}(h:cN P G o s v)(ai:Sub v bh):cN P G o s bh:=fun E a w β ro af=>by
 obtain⟨c,aa,ae⟩:=h E a w β ro af
 exact⟨c,aa,ai _ _ _ _ _ _ ae⟩
def KL(op:BinOp)(k bk:IntKind):Bool:=
 match op with
 | .add=>decide (k=bk)
 | .sub=>decide (k=bk)
 | .mul=>decide (k=bk)
 | .quo=>decide (k=bk)
 | .rem=>decide (k=bk)
 | .and=>decide (k=bk)
 | .or=>decide (k=bk)
 | .xor=>decide (k=bk)
 | .shl=>true
 | .shr=>true
 |_=>false
def xe:BinOp→Bool
 | .eql=>true
 | .neq=>true
 | .lss=>true
 | .leq=>true
 | .gtr=>true
 | .geq=>true
 |_=>false
theorem zdG{op:BinOp}{cw ty:TypeId}{x y:Operand}{k bk:IntKind}{a b:Int}(an:o.op= .binOp op cw x y ty)(hx:aL G s x= .av (.v (.int k a)))(ax:aL G s y= .av (.v (.int bk b)))(h:KL op k bk=true)(hn:DC op b):
 cN P G o s (.av (.v (.int k (bD op k a b)))):=by
 cases op<;>simp only[KL,Bool.false_eq_true,decide_eq_true_eq]at h
 case add=>subst h;exact oZ _ cw ty x y an hx ax (by simp[ka,bD])
 case sub=>subst h;exact oZ _ cw ty x y an hx ax (by simp[ka,bD])
 case mul=>subst h;exact oZ _ cw ty x y an hx ax (by simp[ka,bD])
 case quo=>subst h;exact oZ _ cw ty x y an hx ax (by have: ¬b=0:=hn;simp[ka,bD,this])
 case rem=>subst h;exact oZ _ cw ty x y an hx ax (by have: ¬b=0:=hn;simp[ka,bD,this])
 case and=>subst h;exact wX cw ty x y an hx ax fun w=>by simp[binOp,Op.intBits,bD,aM.l3]
 case or=>subst h;exact wX cw ty x y an hx ax fun w=>by simp[binOp,Op.intBits,bD,aM.mM]
 case xor=>subst h;exact wX cw ty x y an hx ax fun w=>by simp[binOp,Op.intBits,bD,aM.iV]
 case shl=>exact oZ _ cw ty x y an hx ax (by have hn:0≤b:=hn;have: ¬b<0:=(by omega);simp[ka,bD,this])
 case shr=>exact oZ _ cw ty x y an hx ax (by have hn:0≤b:=hn;have: ¬b<0:=(by omega);simp[ka,bD,this])
theorem zdH{op:BinOp}{cw ty:TypeId}{x y:Operand}{k:IntKind}{a b:Int}(an:o.op= .binOp op cw x y ty)(hx:aL G s x= .av (.v (.int k a)))(ax:aL G s y= .av (.v (.int k b)))(h:xe op=true):
 cN P G o s (.av (.v (.bool (z6 op a b)))):=by
 cases op<;>simp only[xe,Bool.false_eq_true]at h
 all_goals exact oZ _ cw ty x y an hx ax (by simp[ka,CY,z6])
theorem zdI{op:BinOp}{cw ty:TypeId}{x y:Operand}{a b:ByteArray}(an:o.op= .binOp op cw x y ty)(hx:aL G s x= .av (.v (.string a)))(ax:aL G s y= .av (.v (.string b)))(h:xe op=true):
 cN P G o s (.av (.v (.bool (cq op a b)))):=by
 cases op<;>simp only[xe,Bool.false_eq_true]at h
 all_goals exact oZ _ cw ty x y an hx ax (by simp[ka,cq])
def Ac(G:a8)(s:aP)(o:Option Operand)(z:Option Int):Prop:=
 match o,z with
 |none,none=>True
 |some y,some z=>∃k,aL G s y= .av (.v (.int k z))
 |_,_=>False
theorem Sk(i:bL)(ls:List (fJ i)){t:TypeId}{x:Operand}{lo hi:Option Operand}{pk lO:Option Int}(an:o.op= .slice t x lo hi none)(aI:kc P t=some (bZ i))(hx:aL G s x= .av (.li i ls))(aC:Ac G s lo pk)(bf:Ac G s hi lO)
 (hn:jH ls.length pk lO):mA P G o s (.av (.li i (iF ls pk lO))):=by
 cases lo with
 |none=>
  cases pk with
  |some _=>exact aC.elim
  |none=>
  cases hi with
  |none=>
   cases lO with
   |some _=>exact bf.elim
   |none=>
   have:=Dy i ls (l:=0) (h:=ls.length) an aI hx (.inl ⟨rfl,rfl⟩) (.inl ⟨rfl,rfl⟩) (Nat.zero_le _) (Nat.le_refl _)
   rw[List.take_length,List.drop_zero]at this;exact this
  |some y=>
   cases lO with
   |none=>exact bf.elim
   |some h=>
   obtain⟨k,ax⟩:=bf
   have hn:0≤h∧h≤(ls.length:Int):=hn
   obtain⟨n,rfl⟩: ∃n:Nat,h=(n:Int):=⟨h.toNat,by omega⟩
   have:=Dy i ls (l:=0) (h:=n) an aI hx (.inl ⟨rfl,rfl⟩) (.inr ⟨y,k,rfl,ax⟩) (Nat.zero_le _) (by omega)
   rw[List.drop_zero]at this;exact this
 |some y=>
  cases pk with
  |none=>exact aC.elim
  |some a=>
  obtain⟨k,ax⟩:=aC
  cases hi with
  |none=>
   cases lO with
   |some _=>exact bf.elim
   |none=>
   have hn:0≤a∧a≤(ls.length:Int):=hn
   obtain⟨n,rfl⟩: ∃n:Nat,a=(n:Int):=⟨a.toNat,by omega⟩
   have:=Dy i ls (l:=n) (h:=ls.length) an aI hx (.inr ⟨y,k,rfl,ax⟩) (.inl ⟨rfl,rfl⟩) (by omega) (Nat.le_refl _)
   rw[List.take_length]at this;exact this
  |some rP=>
   cases lO with
   |none=>exact bf.elim
   |some h=>
   obtain⟨gG,KM⟩:=bf
   have hn:0≤a∧a≤h∧h≤(ls.length:Int):=hn
   obtain⟨n,rfl⟩: ∃n:Nat,a=(n:Int):=⟨a.toNat,by omega⟩
   obtain⟨m,rfl⟩: ∃n:Nat,h=(n:Int):=⟨h.toNat,by omega⟩
   exact Dy i ls (l:=n) (h:=m) an aI hx (.inr ⟨y,k,rfl,ax⟩) (.inr ⟨rP,gG,rfl,KM⟩) (by omega) (by omega)
theorem zdJ(b:ByteArray){t:TypeId}{x:Operand}{lo hi:Option Operand}{pk lO:Option Int}(an:o.op= .slice t x lo hi none)(aI:P.underlying t=some .string)(hx:aL G s x= .av (.v (.string b)))(aC:Ac G s lo pk)(bf:Ac G s hi lO)
 (hn:jH b.size pk lO):cN P G o s (.av (.v (.string (nK b pk lO)))):=by
 cases lo with
 |none=>
  cases pk with
  |some _=>exact aC.elim
  |none=>
  cases hi with
  |none=>
   cases lO with
   |some _=>exact bf.elim
   |none=>exact Dd t x none none an aI hx (l:=0) (h:=b.size) (.inl ⟨rfl,rfl⟩) (.inl ⟨rfl,rfl⟩) (Nat.zero_le _) (Nat.le_refl _)
  |some y=>
   cases lO with
   |none=>exact bf.elim
   |some h=>
   obtain⟨k,ax⟩:=bf
   have hn:0≤h∧h≤(b.size:Int):=hn
   obtain⟨n,rfl⟩: ∃n:Nat,h=(n:Int):=⟨h.toNat,by omega⟩
   exact Dd t x none _ an aI hx (l:=0) (h:=n) (.inl ⟨rfl,rfl⟩) (.inr ⟨y,k,rfl,ax⟩) (Nat.zero_le _) (by omega)
 |some y=>
  cases pk with
  |none=>exact aC.elim
  |some a=>
  obtain⟨k,ax⟩:=aC
  cases hi with
  |none=>
   cases lO with
   |some _=>exact bf.elim
   |none=>
   have hn:0≤a∧a≤(b.size:Int):=hn
   obtain⟨n,rfl⟩: ∃n:Nat,a=(n:Int):=⟨a.toNat,by omega⟩
   exact Dd t x _ none an aI hx (l:=n) (h:=b.size) (.inr ⟨y,k,rfl,ax⟩) (.inl ⟨rfl,rfl⟩) (by omega) (Nat.le_refl _)
  |some rP=>
   cases lO with
   |none=>exact bf.elim
   |some h=>
   obtain⟨gG,KM⟩:=bf
   have hn:0≤a∧a≤h∧h≤(b.size:Int):=hn
   obtain⟨n,rfl⟩: ∃n:Nat,a=(n:Int):=⟨a.toNat,by omega⟩
   obtain⟨m,rfl⟩: ∃n:Nat,h=(n:Int):=⟨h.toNat,by omega⟩
   exact Dd t x _ _ an aI hx (l:=n) (h:=m) (.inr ⟨y,k,rfl,ax⟩) (.inr ⟨rP,gG,rfl,KM⟩) (by omega) (by omega)
end
def DM(P:Program)(t:TypeId):Option aW:=
 match P.underlying t with
 |some (.int k)=>some (.int k)
 |some .bool=>some .bool
 |some .string=>some .str
 |_=>none
def pn(P:Program):Nat→Nat→List Field→Option (List aW)
 |0,_,_=>none
 |_+1,_,[]=>some []
 |d+1,k,f::fs=>
  if f.name= "_" ||f.offset != k then none
  else match m6 P f.type with
   |some gs=>match P.info? f.type with
    |some inf=>match pn P d 0 gs,pn P d (k+inf.size) fs with
     |some a,some b=>match Nat.beq a.length inf.size with
      |true=>some (a++b)
      |false=>none
     |_,_=>none
    |none=>none
   |none=>match DM P f.type with
    |some r=>match pn P d (k+1) fs with
     |some l=>some (r::l)
     |none=>none
    |none=>none
def ta:(r:aW)→r.den→Value
 | .int k,n=>.int k n
 | .bool,b=>.bool b
 | .str,x=>.string x
 |_,_=>undef
def aW.cmp:aW→Bool
 | .int _=>true
 | .bool=>true
 | .str=>true
 |_=>false
def Ad(d:aF):Value:=ta d.r d.v
def nr:List aF→List aF→Bool
 |d::ds,c::cs=>rL d.r d.v (c.aG d.r)&&nr ds cs
 |_,_=>true
theorem zdK{P:Program}{t:TypeId}{r:aW}(h:DM P t=some r)(x y:r.den):rm P t (ta r x)=true∧m5 (ta r x) (ta r y)=some (rL r x y):=by
 unfold DM at h
 split at h
 ·rename_i k hu;cases h;simp[ta,rm,hu,m5,rL]
 ·rename_i hu;cases h;simp[ta,rm,hu,m5,rL]
 ·rename_i hu;cases h;simp[ta,rm,hu,m5,rL]
 ·cases h
theorem Sl: ∀{a c:List aF} (b d:List aF),a.length=c.length→nr (a++b) (c++d)=(nr a c&&nr b d)
 |[],[],_,_,_=>by simp[nr]
 |x::a,y::c,b,d,h=>by
  simp only[List.cons_append,nr,Sl (a:=a) (c:=c) b d (by simpa using h),Bool.and_assoc]
 |[],_::_,_,_,h=>by cases h
 |_::_,[],_,_,h=>by cases h
theorem DN{P:Program}: ∀(d k:Nat) (fs:List Field) (rs:List aW),pn P d k fs=some rs→∀(aG cO:List aF),aG.map aF.r=rs→cO.map aF.r=rs→qi P d k fs (aG.map Ad) (cO.map Ad)=some (nr aG cO)
 |0,_,_,_,h,_,_,_,_=>by cases h
 |d+1,k,[],rs,h,aG,cO,aY,ad=>by
  simp only[pn,Option.some.injEq]at h;subst h
  cases mz aY
  cases mz ad
  rfl
 |d+1,k,f::fs,rs,h,aG,cO,aY,ad=>by
  simp only[pn]at h;simp only[qi]
  split at h
  ·cases h
  ·rename_i hc
   rw[if_neg hc]
   cases ai:m6 P f.type with
   |some gs=>
    rw[ai]at h;simp only at h⊢
    cases hi:P.info? f.type with
    |none=>rw[hi]at h;cases h
    |some inf=>
     rw[hi]at h;simp only at h⊢
     split at h
     ·rename_i u v aa ae
      split at h
      ·rename_i ar
       simp only[Option.some.injEq]at h;subst h
       have ar:=Nat.eq_of_beq_eq_true ar
       have Sm:(aG.take inf.size).map aF.r=u:=by rw[List.map_take,aY,←ar,List.take_left]
       have zdL:(aG.drop inf.size).map aF.r=v:=by rw[List.map_drop,aY,←ar,List.drop_left]
       have tb:(cO.take inf.size).map aF.r=u:=by rw[List.map_take,ad,←ar,List.take_left]
       have zdM:(cO.drop inf.size).map aF.r=v:=by rw[List.map_drop,ad,←ar,List.drop_left]
       rw[←List.map_take,←List.map_take,←List.map_drop,←List.map_drop,DN d 0 gs u aa _ _ Sm tb,DN d _ fs v ae _ _ zdL zdM];simp only[Option.some.injEq];rw[←Sl _ _ (by have aa:=congrArg List.length Sm;have ae:=congrArg List.length tb;simp only[List.length_map]at aa ae;omega),List.take_append_drop,List.take_append_drop]
      ·cases h
     ·cases h
   |none=>
    rw[ai]at h;simp only at h⊢
    split at h
    ·rename_i r af
     split at h
     ·rename_i l ar
      simp only[Option.some.injEq]at h;subst h;obtain⟨a,ziD,rfl,Bx,vH⟩:=lK aY;obtain⟨b,ziE,rfl,ih,o8⟩:=lK ad;obtain⟨ziF,aV⟩:=a;obtain⟨ziG,tO⟩:=b;simp only at Bx ih;subst Bx;subst ih;obtain⟨g1,g2⟩:=zdK af aV tO;simp only[List.map_cons,Ad,g1,g2,if_true,nr,cA];rw[DN d _ fs l ar _ _ vH o8]
     ·cases h
    ·cases h
theorem DO{P:Program}: ∀(d k:Nat) (fs:List Field) (rs:List aW),pn P d k fs=some rs→∀r∈rs,r.cmp=true
 |0,_,_,_,h,_,_=>by cases h
 |d+1,k,[],rs,h,r,af=>by
  simp only[pn,Option.some.injEq]at h;subst h;cases af
 |d+1,k,f::fs,rs,h,r,af=>by
  simp only[pn]at h
  split at h
  ·cases h
  ·cases ai:m6 P f.type with
   |some gs=>
    rw[ai]at h;simp only at h
    cases hi:P.info? f.type with
    |none=>rw[hi]at h;cases h
    |some inf=>
     rw[hi]at h;simp only at h
     split at h
     ·rename_i u v aa ae
      split at h
      ·simp only[Option.some.injEq]at h
       subst h
       rcases List.mem_append.1 af with q|q
       ·exact DO d 0 gs u aa r q
       ·exact DO d _ fs v ae r q
      ·cases h
     ·cases h
   |none=>
    rw[ai]at h;simp only at h
    split at h
    ·rename_i eR dW
     split at h
     ·rename_i l ar
      simp only[Option.some.injEq]at h;subst h
      rcases List.mem_cons.1 af with rfl|q
      ·unfold DM at dW
       split at dW<;>first|(cases dW;rfl)|cases dW
      ·exact DO d _ fs l ar r q
     ·cases h
    ·cases h
theorem zdN{r:aW}(h:r.cmp=true)(x:r.den):fC r x= .v (ta r x):=by
 cases r<;>first|rfl|cases h
theorem Ae{G:a8}{e:Env}: ∀{rs:List aW} {l:List ab},hq rs l=true→(∀r∈rs,r.cmp=true)→hB (ab.bQ G e l)=some ((fR e rs l).map Ad)
 |[],[],_,_=>rfl
 |[],_::_,h,_=>by cases h
 |_::_,[],h,_=>by cases h
 |r::rs,x::xs,h,hc=>by
  simp only[hq,Bool.and_eq_true]at h
  have aa:x.den G e= .av (fC r (x.aA e r)):=w2 h.1 (by have:=hc r (by simp);cases r<;>first|rfl|cases this)
  simp only[ab.bQ,fR,aa,zdN (hc r (by simp)),hB,Ae h.2 fun r af=>hc r (by simp[af]),List.map_cons,Ad]
theorem Sn{e:Env}: ∀{rs:List aW} {l m:List ab},hq rs l=true→hq rs m=true→kJ e rs l m=nr (fR e rs l) (fR e rs m)
 |[],[],[],_,_=>rfl
 |[],_::_,_,h,_=>by cases h
 |[],[],_::_,_,h=>by cases h
 |_::_,[],_,h,_=>by cases h
 |_::_,_::_,[],_,h=>by cases h
 |[r],[x],[y],_,_=>by simp[kJ,fR,nr,cA]
 |[r],x::iI::xs,_::_,h,_=>by simp[hq]at h
 |[r],[x],y::sU::ys,_,h=>by simp[hq]at h
 |r::s::rs,x::xs,y::ys,h,h'=>by
  simp only[hq,Bool.and_eq_true]at h h'
  have:=Sn (e:=e) (rs:=s::rs) (l:=xs) (m:=ys) h.2 h'.2
  cases xs with
  |nil=>simp[hq]at h
  |cons iI xs=>
   cases ys with
   |nil=>simp[hq]at h'
   |cons sU ys=>
    have au:nr (fR e (r::s::rs) (x::iI::xs)) (fR e (r::s::rs) (y::sU::ys))=(rL r (x.aA e r) (y.aA e r)&&nr (fR e (s::rs) (iI::xs)) (fR e (s::rs) (sU::ys))):=by
     simp only[fR,nr,cA]
    rw[au,←this];simp only[kJ]
    cases rL r (x.aA e r) (y.aA e r)<;>rfl
section
variable {P:Program} {G:a8} {o:Oper} {N B:Nat} {e:Env} {S:aq}
theorem So(hf: ∀c∈S.g,c.ok e){n:Bool}{op:BinOp}(Af:op=bif n then .neq else .eql){cw ty:TypeId}{x y:Operand}(an:o.op= .binOp op cw x y ty){fs:List Field}{rs:List aW}(h:m6 P cw=some fs)(af:pn P 64 0 fs=some rs){l m:List ab}(hx:S.aZ N x= .ch l)(ax:S.aZ N y= .ch m)
 (ar:hq rs l=true)(hm:hq rs m=true):cN P G o (S.den G N B e) (.av (.v (.bool (bif n then !kJ e rs l m else kJ e rs l m)))):=by
 have hc:=DO 64 0 fs rs af
 have fN:aL G (S.den G N B e) x= .agg (ab.bQ G e l):=by rw[bE hf,hx];rfl
 have mF:aL G (S.den G N B e) y= .agg (ab.bQ G e m):=by rw[bE hf,ax];rfl
 have ad:=DN 64 0 fs rs af _ _ (zY G e ar).1 (zY G e hm).1
 rw[←Sn ar hm]at ad
 cases n with
 |true=>
  subst Af;exact QR cw ty x y an h fN mF (Ae ar hc) (Ae hm hc) ad
 |false=>
  subst Af;exact QQ cw ty x y an h fN mF (Ae ar hc) (Ae hm hc) ad
end
end Go.aM
