/- TD, part B: expressions, needs, states, trees: what they are and what they stand for. Conditions: none. -/
import Derived.Test.YtmkpmgfieagphaaGreatDoorHTDa
namespace Go.aN
open Go
inductive gL where
 |oe
 |iX (c:bR)
 |pe (k bs:IntKind)
 |nq
 |Bd (k:IntKind)
 |uT (k:IntKind)
 |cM
 |xK
 deriving DecidableEq
@[reducible] def gL.a:gL→aW
 | .oe=>.str
 | .iX c=>.li c
 | .pe k _=>.int k
 | .nq=>.bool
 | .Bd k=>.int k
 | .uT k=>.int k
 | .cM=>.li .u8
 | .xK=>.str
@[reducible] def gL.c:gL→aW
 | .oe=>.int .i64
 | .iX _=>.int .i64
 | .pe _ bs=>.int bs
 | .nq=>.bool
 | .Bd k=>.int k
 | .uT k=>.int k
 | .cM=>.str
 | .xK=>.li .u8
def gL.den:(f:gL)→f.a.den→f.c.den
 | .oe,x=>(ByteArray.size x:Int)
 | .iX _,x=>(List.length x:Int)
 | .pe _ bs,x=>bs.wrap x
 | .nq,x=>!x
 | .Bd k,x=>k.wrap (0-x)
 | .uT k,x=>jH k (if k.signed then -1 else k.max) x
 | .cM,x=>bytesOf x
 | .xK,x=>(ByteArray.data x).toList.map fun u=>(u.toNat:Int)
def bn(op:BinOp)(k:IntKind)(a b:Int):Int:=
 match op with
 | .add=>k.wrap (a+b)
 | .sub=>k.wrap (a-b)
 | .mul=>k.wrap (a*b)
 | .quo=>k.wrap (a.tdiv b)
 | .rem=>a.tmod b
 | .shl=>k.wrap (a*2^(min b.toNat k.bits))
 | .shr=>a.fdiv (2^(min b.toNat k.bits))
 | .and=>lD k a b
 | .or=>kU k a b
 | .xor=>jH k a b
 |_=>0
def EP(op:BinOp)(b:Int):Prop:=
 match op with
 | .quo=>b≠0
 | .rem=>b≠0
 | .shl=>0≤b
 | .shr=>0≤b
 |_=>True
def Be(op:BinOp)(a b:Int):Bool:=
 match op with
 | .eql=>a==b
 | .neq=>a != b
 | .lss=>decide (a<b)
 | .leq=>decide (a≤b)
 | .gtr=>decide (a>b)
 |_=>decide (a≥b)
def cf(op:BinOp)(a b:ByteArray):Bool:=
 match op with
 | .eql=>et a b
 | .neq=>!et a b
 | .lss=>rz a b
 | .leq=>rz a b||et a b
 | .gtr=>!(rz a b||et a b)
 |_=>!rz a b
inductive cI where
 |jy (op:BinOp) (k bs:IntKind)
 |po (op:BinOp) (k:IntKind)
 |mH (op:BinOp)
 |mn (n:Bool)
 |td
 |uU (k:IntKind)
 |mx (k:IntKind)
 |kj (c:bR) (k:IntKind)
 |rQ (k:IntKind)
 |ap (c:bR)
 |ma
 |mc
 |mb
 |kX
 |xL
 deriving DecidableEq
@[reducible] def cI.a:cI→aW
 | .jy _ k _=>.int k
 | .po _ k=>.int k
 | .mH _=>.str
 | .mn _=>.bool
 | .td=>.str
 | .uU k=>.int k
 | .mx k=>.int k
 | .kj c _=>.li c
 | .rQ _=>.str
 | .ap c=>.li c
 | .ma=>.str
 | .mc=>.str
 | .mb=>.str
 | .kX=>.str
 | .xL=>.str
@[reducible] def cI.b:cI→aW
 | .jy _ _ bs=>.int bs
 | .po _ k=>.int k
 | .mH _=>.str
 | .mn _=>.bool
 | .td=>.str
 | .uU k=>.int k
 | .mx k=>.int k
 | .kj _ k=>.int k
 | .rQ k=>.int k
 | .ap c=>.li c
 | .ma=>.int .i64
 | .mc=>.int .i64
 | .mb=>.int .i64
 | .kX=>.int .i64
 | .xL=>.int .u8
@[reducible] def cI.c:cI→aW
 | .jy _ k _=>.int k
 | .po _ _=>.bool
 | .mH _=>.bool
 | .mn _=>.bool
 | .td=>.str
 | .uU k=>.int k
 | .mx k=>.int k
 | .kj c _=>.st c
 | .rQ _=>.int .u8
 | .ap c=>.li c
 | .ma=>.bool
 | .mc=>.int .i64
 | .mb=>.int .i32
 | .kX=>.int .i64
 | .xL=>.int .i64
def ER(b:ByteArray)(c:Int):Int:=
 match(List.range b.size).find? fun i=>b[i]! ==c.toNat.toUInt8 with
 |some i=>(i:Int)
 |none=> -1
def cI.den:(f:cI)→f.a.den→f.b.den→f.c.den
 | .jy op k _,x,y=>bn op k x y
 | .po op _,x,y=>Be op x y
 | .mH op,x,y=>cf op x y
 | .mn n,x,y=>bif n then !(x==y)else x==y
 | .td,x,y=>ByteArray.append x y
 | .uU _,x,y=>if y<x then y else x
 | .mx _,x,y=>if y>x then y else x
 | .kj c _,x,y=>List.getD x (Int.toNat y) (aw c)
 | .rQ _,x,y=>dP x y
 | .ap _,x,y=>List.append x y
 | .ma,x,y=>decide (Int.toNat y<ByteArray.size x)
 | .mc,_,y=>(Int.toNat y:Int)
 | .mb,x,y=>((Utf8.decode x (Int.toNat y)).1:Int)
 | .xL,x,y=>ER x y
 | .kX,x,y=>((Int.toNat y+(Utf8.decode x (Int.toNat y)).2:Nat):Int)
def cI.vn(bytes:Nat):(f:cI)→f.a.den→f.b.den→Prop
 | .jy op _ _,_,y=>EP op y
 | .td,x,y=>ByteArray.size x+ByteArray.size y≤9223372036854775807
 | .kj _ _,x,y=>0≤y∧y<(List.length x:Int)
 | .rQ _,x,y=>0≤y∧y<(ByteArray.size x:Int)
 | .ap _,x,y=>List.length x+List.length y≤maxLen∧(List.length x+List.length y)*bytes≤140737488355328
 |_,_,_=>True
@[reducible] def fg:List aW→aW
 |[]=>.un
 |[r]=>r
 |r::s::l=>.A3 r (fg (s::l))
def ch:(rs:List aW)→List aF→(fg rs).den
 |[],_=>()
 |[r],d::_=>d.aG r
 |[r],[]=>r.fC
 |r::s::l,d::ds=>(d.aG r,ch (s::l) ds)
 |r::s::l,[]=>(r.fC,ch (s::l) [])
def dE:(rs:List aW)→(fg rs).den→List aF
 |[],_=>[]
 |[r],x=>[⟨r,x⟩]
 |r::s::l,x=>⟨r,x.1⟩::dE (s::l) x.2
structure aS where
 ps:List aW
 rs:List aW
 pre:Option ((fg ps).den→Prop)
 m:(fg ps).den→(fg rs).den
def aS.d:aS:=⟨[],[],none,fun x=>x⟩
def e6{α:Type _}(d:α):List α→Nat→α
 |[],_=>d
 |x::r,n=>match Nat.beq n 0 with
  |true=>x
  |false=>e6 d r (Nat.sub n 1)
def gH(e:Env):List aW→List ab→List aF
 |r::rs,x::xs=>⟨r,x.get e r⟩::gH e rs xs
 |_,_=>[]
inductive bT where
 |rR (r:aW) (x:ab)
 |f1 (f:gL) (x:ab)
 |f2 (f:cI) (x y:ab)
 |eG (c:bR) (x:ab) (lo hi:Option ab)
 |vo (x:ab) (lo hi:Option ab)
 |ES (r:aW) (g x y:ab)
 |Bf (n:Bool) (rs:List aW) (l m:List ab)
 |qA (c:bR) (rows:List ab)
 |up (c:bR) (l i x:ab)
 |nth (r:aW) (l:List ab) (i:ab)
 |ET (c:bR) (x:ab)
 |EU (k v:aW)
 |EV (k v:aW) (m x y:ab)
 |xM (k v:aW) (m x:ab)
 |vp (k v:aW) (m x:ab)
 |ca (j:Nat) (aG:List ab)
 |rS (rs:List aW) (p i:Nat)
def mI(e:Env):Option ab→Option Int
 |none=>none
 |some x=>some (cu (x.dyn e))
def ih{α:Type}(l:List α):Option Int→Option Int→List α
 |none,none=>l
 |some a,none=>l.drop a.toNat
 |none,some h=>l.take h.toNat
 |some a,some h=>(l.take h.toNat).drop a.toNat
def kF(b:ByteArray):Option Int→Option Int→ByteArray
 |none,none=>b.extract 0 b.size
 |some a,none=>b.extract a.toNat b.size
 |none,some h=>b.extract 0 h.toNat
 |some a,some h=>b.extract a.toNat h.toNat
def iC(n:Nat):Option Int→Option Int→Prop
 |none,none=>True
 |some a,none=>0≤a∧a≤(n:Int)
 |none,some h=>0≤h∧h≤(n:Int)
 |some a,some h=>0≤a∧a≤h∧h≤(n:Int)
def rT:(r:aW)→r.den→r.den→Bool
 | .int _,x,y=>(show Int from x)==y
 | .bool,x,y=>(show Bool from x)==y
 | .str,x,y=>et x y
 |_,_,_=>false
def kN(e:Env):List aW→List ab→List ab→Bool
 |[r],[x],[y]=>rT r (x.aA e r) (y.aA e r)
 |r::rs,x::xs,y::ys=>bif rT r (x.aA e r) (y.aA e r)then kN e rs xs ys else false
 |_,_,_=>true
def mJ(e:Env)(c:bR):List ab→List (fS c)
 |[]=>[]
 |x::r=>x.get e (.st c)::mJ e c r
def te(e:Env)(r:aW):List ab→Nat→r.den
 |[],_=>r.fC
 |[x],_=>x.aA e r
 |x::l,n=>bif Nat.beq n 0 then x.aA e r else te e r l (n-1)
def jK{V:Type}:(k:aW)→List (k.den × V)→k.den→Option V
 | .int _,l,x=>h2 (K:=Int) l x
 | .str,l,x=>h2 (K:=ByteArray) l x
 |_,_,_=>none
def sF{V:Type}:(k:aW)→List (k.den × V)→k.den→V→List (k.den × V)
 | .int _,l,x,v=>jd (K:=Int) l x v
 | .str,l,x,v=>jd (K:=ByteArray) l x v
 |_,l,_,_=>l
def bT.den(M:List aS)(e:Env):bT→aF
 | .rR r x=>⟨r,x.get e r⟩
 | .f1 f x=>⟨f.c,f.den (x.aA e f.a)⟩
 | .f2 f x y=>⟨f.c,f.den (x.aA e f.a) (y.aA e f.b)⟩
 | .eG c x lo hi=>⟨.li c,ih (x.aA e (.li c)) (mI e lo) (mI e hi)⟩
 | .vo x lo hi=>⟨.str,kF (x.aA e .str) (mI e lo) (mI e hi)⟩
 | .ES r g x y=>⟨r,bif g.aA e .bool then x.get e r else y.get e r⟩
 | .Bf n rs l m=>⟨.bool,bif n then !kN e rs l m else kN e rs l m⟩
 | .qA c rows=>⟨.li c,mJ e c rows⟩
 | .up c l i x=>⟨.li c,List.set (l.aA e (.li c)) (cu (i.dyn e)).toNat (x.get e (.st c))⟩
 | .nth r l i=>⟨r,te e r l (cu (i.dyn e)).toNat⟩
 | .ET c x=>⟨.li c,List.replicate (Int.toNat (x.aA e (.int .i64))) (aw c)⟩
 | .EU k v=>⟨.mp k v,([]:List (k.den × v.den))⟩
 | .EV k v m x y=>⟨.mp k v,sF k (m.aA e (.mp k v)) (x.aA e k) (y.get e v)⟩
 | .xM k v m x=>⟨.bool,(jK k (show List (k.den × v.den)from m.aA e (.mp k v)) (x.aA e k)).isSome⟩
 | .vp k v m x=>⟨v,(jK k (show List (k.den × v.den)from m.aA e (.mp k v)) (x.aA e k)).getD v.fC⟩
 | .ca j aG=>⟨fg (e6 aS.d M j).rs,(e6 aS.d M j).m (ch _ (gH e (e6 aS.d M j).ps aG))⟩
 | .rS rs p i=>e6 aF.d (dE rs ((Env.at e p).aG (fg rs))) i
inductive fi where
 |f2 (bytes:Nat) (f:cI) (x y:ab)
 |eG (c:bR) (x:ab) (lo hi:Option ab)
 |vo (x:ab) (lo hi:Option ab)
 |up (c:bR) (l i:ab)
 |nth (n:Nat) (i:ab)
 |mk (bytes:Nat) (x y:ab)
 |ca (j:Nat) (aG:List ab)
 |T7 (g:ab) (b:Bool) (n:fi)
def lz{α:Type}(p:Option (α→Prop))(x:α):Prop:=
 match p with
 |none=>True
 |some q=>q x
def fi.ok(M:List aS)(e:Env):fi→Prop
 | .f2 n f x y=>f.vn n (x.aA e f.a) (y.aA e f.b)
 | .eG c x lo hi=>iC (List.length (x.aA e (.li c))) (mI e lo) (mI e hi)
 | .vo x lo hi=>iC (ByteArray.size (x.aA e .str)) (mI e lo) (mI e hi)
 | .up c l i=>0≤cu (i.dyn e)∧cu (i.dyn e)<(List.length (l.aA e (.li c)):Int)
 | .nth n i=>0≤cu (i.dyn e)∧cu (i.dyn e)<(n:Int)
 | .mk n x y=>0≤x.aA e (.int .i64)∧x.aA e (.int .i64)≤y.aA e (.int .i64)∧y.aA e (.int .i64)≤(maxLen:Int)∧(n:Int)*y.aA e (.int .i64)≤281474976710656
 | .ca j aG=>lz (e6 aS.d M j).pre (ch _ (gH e (e6 aS.d M j).ps aG))
 | .T7 g b n=>g.aA e .bool=b→n.ok M e
inductive tf where
 |st
 |mp (k v:aW)
 deriving DecidableEq
@[reducible] def tf.rt:tf→aW
 | .st=>.int .i64
 | .mp k v=>.mp k v
def tf.den:(q:tf)→ByteArray→q.rt.den→xe
 | .st,s,p=>qt s (Int.toNat p)
 | .mp k v,_,l=>jV v.agg (gj (lg k) (iG v) l)
inductive bO where
 |dv (t:TypeId) (l:List ab)
 |rw (t:TypeId) (c:bR) (x:ab)
 |it (q:tf) (x p:ab)
def bO.den(G:bc)(e:Env):bO→ew
 | .dv t l=>.box t (ab.bX G e l)
 | .rw t c x=>.row false t (b4 c) (List.map (ck c) (x.aA e (.li c)))
 | .it q x p=>.bU (q.den (x.aA e .str) (p.aA e q.rt))
def cF(G:bc)(e:Env):List (Nat × bO)→Heap
 |[]=>[]
 |(i,o)::r=>(i,o.den G e)::cF G e r
def dm:List (Nat × bO)→Nat→Option bO
 |[],_=>none
 |(i,o)::r,k=>match Nat.beq i k with
  |true=>some o
  |false=>dm r k
def jz:List (Nat × bO)→Nat→bO→List (Nat × bO)
 |[],k,x=>[(k,x)]
 |(i,o)::r,k,x=>match Nat.beq i k with
  |true=>(i,x)::r
  |false=>(i,o)::jz r k x
inductive cc where
 |d1 (i:Nat) (f:gL) (x:ab)
 |d2 (i:Nat) (f:cI) (x y:ab)
 |rg (i:Nat) (b:ab)
 |eb (g:ab) (b:Bool)
def cc.ok(e:Env):cc→Prop
 | .d1 i f x=>Env.at e i=⟨f.c,f.den (x.aA e f.a)⟩
 | .d2 i f x y=>Env.at e i=⟨f.c,f.den (x.aA e f.a) (y.aA e f.b)⟩
 | .rg i b=>0≤cu (Env.at e i)∧cu (Env.at e i)<cu (b.dyn e)
 | .eb g b=>g.aA e .bool=b
structure ar where
 l:bd ab
 h:List (Nat × bO)
 n:Nat
 k:Nat
 g:List cc
def ar.at(S:ar)(i:Nat):ab:=
 match S.l.get i with
 |some x=>x
 |none=>.top
def kk(G:bc)(e:Env)(l:bd ab):Nat→Nat→List aD
 |_,0=>[]
 |i,n+1=>(match l.get i with|some x=>x.den G e|none=>.top)::kk G e l (i+1) n
def ar.den(G:bc)(N B:Nat)(e:Env)(S:ar):aQ:=⟨kk G e S.l 0 N,cF G e S.h,S.n,B⟩
inductive eF where
 |slot (i:Nat) (p:List Nat)
 |box (id off:Nat) (p:List Nat)
 |row (id:Nat)
 |kO (p:eF)
def ab.kO:ab→ab
 | .ej _ _=>.cs (.bool true)
 | .cs (.pointer none)=>.cs (.bool false)
 | .fp (.aV .bool i) _ _=>.aV .bool i
 |_=>.top
def ab.sub:ab→List Nat→ab
 |x,[]=>x
 | .cr l,i::p=>(e6 .top l i).sub p
 | .tp l,i::p=>(e6 .top l i).sub p
 |_,_::_=>.top
def eF.dr(S:ar):eF→ab
 | .slot i p=>(S.at i).sub p
 | .box id off p=>match dm S.h id with
  |some (.dv _ l)=>(e6 .top l off).sub p
  |_=>.top
 | .row id=>match dm S.h id with
  |some (.rw _ _ x)=>x
  |some (.it _ _ p)=>p
  |_=>.top
 | .kO p=>(p.dr S).kO
inductive b5 where
 |ct
 |ext (n:Nat)
 |ret
 |lp (n:Nat)
def b5.bZ(n:Nat):b5→Bool
 | .lp m=>Nat.beq m n
 |_=>false
def b5.c9(n:Nat):b5→Bool
 | .ext m=>Nat.beq m n
 |_=>false
structure hJ where
 i:Nat
 r:aW
 x:ab
 p:eF
inductive aC where
 |cQ (x:b5) (S:ar)
 |lt (i:Nat) (x:bT) (t:aC)
 |eL (n:fi) (t:aC)
 |it (g:ab) (a b:aC)
 |dH (n:Nat) (a:aC) (ps:List (Nat × aW × eF)) (k:aC)
 |eA (m xid:Nat) (dw:bT) (b6:Nat) (ca:List hJ) (a k:aC)
 |e3 (m xid:Nat) (ca:List hJ) (a k:aC)
 |bad (n:Nat)
def aC.fx:aC→(b5→Bool)→Bool
 | .cQ x _,f=>f x
 | .lt _ _ t,f=>t.fx f
 | .eL _ t,f=>t.fx f
 | .it _ a b,f=>a.fx f&&b.fx f
 | .dH n a _ k,f=>a.fx (fun x=>x.bZ n||f x)&&k.fx f
 | .eA m xid _ _ _ a k,f=>a.fx (fun x=>x.bZ m||(x.c9 xid||f x))&&k.fx f
 | .e3 m xid _ a k,f=>a.fx (fun x=>x.bZ m||(x.c9 xid||f x))&&k.fx f
 | .bad _,_=>false
def aC.jA(t:aC)(n:Nat):Bool:=t.fx (b5.bZ n)
def rU:List hJ→List aW
 |[]=>[]
 |a::l=>a.r::rU l
def dL(e:Env):List hJ→List aF
 |[]=>[]
 |a::l=>⟨a.r,a.x.get e a.r⟩::dL e l
def fE(S:ar)(e:Env):List hJ→List aF
 |[]=>[]
 |a::l=>⟨a.r,(a.p.dr S).get e a.r⟩::fE S e l
def rV(e:Env):List hJ→List aF→Env
 |a::l,d::ds=>rV (bd.put e a.i d) l ds
 |_,_=>e
abbrev b3(ca:List hJ):Type:=(fg (rU ca)).den
def bu(e:Env)(ca:List hJ)(v:b3 ca):Env:=rV e ca (dE (rU ca) v)
def fU(e:Env)(f:aW→eF→aF):List (Nat × aW × eF)→Env
 |[]=>e
 |(i,r,p)::l=>fU (bd.put e i (f r p)) f l
def dk:Nat:=18446744073709551616
def ep{X:Type}(m xid:Nat)(ca:List hJ)(K:b5→ar→Env→X)(x:b5)(S:ar)(e:Env):Step X (b3 ca):=
 match x.bZ m with
 |true=>.bh (ch _ (fE S e ca))
 |false=>match x.c9 xid with
  |true=>.cz (ch _ (fE S e ca))
  |false=>.ret (K x S e)
def aC.fold(M:List aS):aC→{X:Type}→Env→(b5→ar→Env→X)→X→X
  | .cQ x S,_,e,K,_=>K x S e
  | .lt i x t,_,e,K,d=>t.fold M (bd.put e i (x.den M e)) K d
  | .eL _ t,_,e,K,d=>t.fold M e K d
  | .it g a b,_,e,K,d=>bif g.aA e .bool then a.fold M e K d else b.fold M e K d
  | .dH n a ps k,_,e,K,d=>bif a.jA n
    then k.fold M (fU e (fun r p=>⟨r,a.fold M e (fun _ S az=>(p.dr S).get az r) r.fC⟩) ps) K d
    else bif a.fold M e (fun x _ _=>x.bZ n) false
      then k.fold M (fU e (fun r p=>⟨r,a.fold M e (fun x S az=>bif x.bZ n then(p.dr S).get az r else r.fC) r.fC⟩) ps) K d
      else a.fold M e K d
  | .eA m xid dw b6 ca a k,X,e,K,d=>Sum.elim (fun r=>r) (fun v=>k.fold M (bu e ca v) K d) (bm (fun i (v:b3 ca)=>bif a.jA m
        then(.bh (a.fold M (bu (bd.put e b6 ⟨.int .i64,(i:Int)⟩) ca v) (fun _ S az=>ch _ (fE S az ca)) v):Step X (b3 ca))
        else a.fold M (bu (bd.put e b6 ⟨.int .i64,(i:Int)⟩) ca v) (ep m xid ca K) (.cz v)) 0 (cu (dw.den M e)).toNat (ch _ (dL e ca)))
  | .e3 m xid ca a k,X,e,K,d=>Sum.elim (fun r=>r) (fun v=>k.fold M (bu e ca v) K d) (cJ (fun v=>(a.fold M (bu e ca v) (ep m xid ca K) (.cz v):Step X (b3 ca))) dk (ch _ (dL e ca)))
  | .bad _,_,_,_,d=>d
def aC.safe(M:List aS):aC→Env→Prop
  | .cQ _ _,_=>True
  | .lt i x t,e=>t.safe M (bd.put e i (x.den M e))
  | .eL n t,e=>n.ok M e∧t.safe M e
  | .it g a b,e=>(g.aA e .bool=true→a.safe M e)∧(g.aA e .bool=false→b.safe M e)
  | .dH n a ps k,e=>a.safe M e∧(a.fold M e (fun x _ _=>x.bZ n) false=true→k.safe M (fU e (fun r p=>⟨r,bif a.jA n
      then a.fold M e (fun _ S az=>(p.dr S).get az r) r.fC
      else a.fold M e (fun x S az=>bif x.bZ n then(p.dr S).get az r else r.fC) r.fC⟩) ps))
  | .eA m xid dw b6 ca a k,e=>(∃I:Nat→b3 ca→Prop,I 0 (ch _ (dL e ca))∧∀(i:Nat) (v:b3 ca),i<(cu (dw.den M e)).toNat→I i v→
      a.safe M (bu (bd.put e b6 ⟨.int .i64,(i:Int)⟩) ca v)∧∀bo,a.fold M (bu (bd.put e b6 ⟨.int .i64,(i:Int)⟩) ca v) (ep m xid ca fun _ _ _=>()) (.cz v)= .bh bo→I (i+1) bo)∧
      Sum.elim (fun _=>True) (fun v=>k.safe M (bu e ca v)) (bm (fun i (v:b3 ca)=>a.fold M (bu (bd.put e b6 ⟨.int .i64,(i:Int)⟩) ca v) (ep m xid ca fun _ _ _=>()) (.cz v)) 0 (cu (dw.den M e)).toNat (ch _ (dL e ca)))
  | .e3 m xid ca a k,e=>(∃I:b3 ca→Prop,I (ch _ (dL e ca))∧∀(v:b3 ca),I v→
      a.safe M (bu e ca v)∧∀bo,a.fold M (bu e ca v) (ep m xid ca fun _ _ _=>()) (.cz v)= .bh bo→I bo)∧
      ki (fun v=>(a.fold M (bu e ca v) (ep m xid ca fun _ _ _=>()) (.cz v):Step Unit (b3 ca))) dk (ch _ (dL e ca))∧
      Sum.elim (fun _=>True) (fun v=>k.safe M (bu e ca v)) (cJ (fun v=>(a.fold M (bu e ca v) (ep m xid ca fun _ _ _=>()) (.cz v):Step Unit (b3 ca))) dk (ch _ (dL e ca)))
  | .bad _,_=>False
def aC.clean:aC→Bool
 | .cQ _ _=>true
 | .lt _ _ t=>t.clean
 | .eL _ _=>false
 | .it _ a b=>a.clean&&b.clean
 | .dH _ a _ k=>a.clean&&k.clean
 | .eA _ _ _ _ _ a k=>a.clean&&k.clean
 | .e3 _ _ _ _ _=>false
 | .bad _=>false
theorem rW(M:List aS): ∀{t:aC} {e:Env},t.clean=true→t.safe M e
 | .cQ _ _,_,_=>trivial
 | .lt _ _ t,_,h=>rW M (t:=t) h
 | .eL _ _,_,h=>by cases h
 | .it _ a b,_,h=>by
  simp only[aC.clean,Bool.and_eq_true]at h;exact⟨fun _=>rW M h.1,fun _=>rW M h.2⟩
 | .dH _ a _ k,_,h=>by
  simp only[aC.clean,Bool.and_eq_true]at h;exact⟨rW M h.1,fun _=>rW M h.2⟩
 | .eA _ _ _ _ _ a k,_,h=>by
  simp only[aC.clean,Bool.and_eq_true]at h;refine⟨⟨fun _ _=>True,trivial,fun _ _ _ _=>⟨rW M h.1,fun _ _=>trivial⟩⟩,?_⟩
  generalize bm _ _ _ _=L
  cases L with
  |inl r=>trivial
  |inr v=>exact rW M h.2
 | .e3 _ _ _ _ _,_,h=>by cases h
 | .bad _,_,h=>by cases h
end Go.aN
namespace Go.aN
open Go
def ig{R A X:Type}(f:R→X):Step R A→Step X A
 | .ret r=>.ret (f r)
 | .cz a=>.cz a
 | .bh a=>.bh a
theorem ue{R A X:Type}(f:R→X){b:Nat→A→Step R A}{c:Nat→A→Step X A}(h: ∀i a,c i a=ig f (b i a)): ∀(m k:Nat) (a:A),bm c k m a=Sum.map f id (bm b k m a)
 |0,_,_=>rfl
 |m+1,k,a=>by
  simp only[bm,h]
  cases b k a with
  |ret r=>rfl
  |cz a=>rfl
  |bh a=>exact ue f h m (k+1) a
theorem xN{R A X:Type}(f:R→X){b:A→Step R A}{c:A→Step X A}(h: ∀a,c a=ig f (b a)): ∀(m:Nat) (a:A),cJ c m a=Sum.map f id (cJ b m a)
 |0,_=>rfl
 |m+1,a=>by
  simp only[cJ,h]
  cases b a with
  |ret r=>rfl
  |cz a=>rfl
  |bh a=>exact xN f h m a
theorem Mx{R A X:Type}(f:R→X){b:A→Step R A}{c:A→Step X A}(h: ∀a,c a=ig f (b a)): ∀(m:Nat) (a:A),ki c m a↔ki b m a
 |0,_=>Iff.rfl
 |m+1,a=>by
  simp only[ki,h]
  cases b a with
  |ret r=>exact Iff.rfl
  |cz a=>exact Iff.rfl
  |bh a=>exact Mx f h m a
theorem xO{X Y:Type}(g:X→Y)(m xid:Nat)(ca:List hJ)(K:b5→ar→Env→X)(x:b5)(S:ar)(e:Env):ig g (ep m xid ca K x S e)=ep m xid ca (fun x S e=>g (K x S e)) x S e:=by
 unfold ep
 split
 ·rfl
 ·split<;>rfl
section
variable {X:Type} {m xid:Nat} {ca:List hJ} {K:b5→ar→Env→X} {x:b5} {S:ar} {e:Env}
theorem og(h:x.bZ m=true):ep m xid ca K x S e= .bh (ch _ (fE S e ca)):=by unfold ep;rw[h]
theorem oh(h:x.bZ m=false)(h':x.c9 xid=true):ep m xid ca K x S e= .cz (ch _ (fE S e ca)):=by unfold ep;rw[h,h']
theorem kl(h:x.bZ m=false)(h':x.c9 xid=false):ep m xid ca K x S e= .ret (K x S e):=by unfold ep;rw[h,h']
end
section
variable {M:List aS}
theorem fold_map: ∀(t:aC) {X Y:Type} (g:X→Y) (e:Env) (K:b5→ar→Env→X) (d:X),g (t.fold M e K d)=t.fold M e (fun x S az=>g (K x S az)) (g d)
  | .cQ _ _,_,_,_,_,_,_=>rfl
  | .lt _ _ t,_,_,g,_,K,d=>fold_map t g _ K d
  | .eL _ t,_,_,g,_,K,d=>fold_map t g _ K d
  | .it c a b,_,_,g,e,K,d=>by
    simp only[aC.fold]
    cases c.aA e .bool with
    |true=>exact fold_map a g e K d
    |false=>exact fold_map b g e K d
  | .dH n a ps k,_,_,g,e,K,d=>by
    simp only[aC.fold]
    cases a.jA n with
    |true=>exact fold_map k g _ K d
    |false=>cases a.fold M e (fun x _ _=>x.bZ n) false with
      |true=>exact fold_map k g _ K d
      |false=>exact fold_map a g e K d
  | .eA m xid dw b6 ca a k,X,Y,g,e,K,d=>by
    simp only[aC.fold]
    rw[ue g (c:=fun i (v:b3 ca)=>bif a.jA m
        then(.bh (a.fold M (bu (bd.put e b6 ⟨.int .i64,(i:Int)⟩) ca v) (fun _ S az=>ch _ (fE S az ca)) v):Step Y (b3 ca))
        else a.fold M (bu (bd.put e b6 ⟨.int .i64,(i:Int)⟩) ca v) (ep m xid ca fun x S e=>g (K x S e)) (.cz v))
      (b:=fun i (v:b3 ca)=>bif a.jA m
        then(.bh (a.fold M (bu (bd.put e b6 ⟨.int .i64,(i:Int)⟩) ca v) (fun _ S az=>ch _ (fE S az ca)) v):Step X (b3 ca))
        else a.fold M (bu (bd.put e b6 ⟨.int .i64,(i:Int)⟩) ca v) (ep m xid ca K) (.cz v))
      (fun i v=>by
        cases a.jA m with
        |true=>rfl
        |false=>
          simp only[cond_false];rw[fold_map a (ig g)];simp only[xO]
          rfl)]
    generalize bm _ _ _ _=L
    cases L with
    |inl r=>rfl
    |inr v=>exact fold_map k g _ K d
  | .e3 m xid ca a k,X,Y,g,e,K,d=>by
    simp only[aC.fold]
    rw[xN g (c:=fun(v:b3 ca)=>a.fold M (bu e ca v) (ep m xid ca fun x S e=>g (K x S e)) (.cz v))
      (b:=fun(v:b3 ca)=>a.fold M (bu e ca v) (ep m xid ca K) (.cz v))
      (fun v=>by
        rw[fold_map a (ig g)];simp only[xO]
        rfl)]
    generalize cJ _ _ _=L
    cases L with
    |inl r=>rfl
    |inr v=>exact fold_map k g _ K d
  | .bad _,_,_,_,_,_,_=>rfl
abbrev nr:=b5 × ar × Env
def run(M:List aS)(t:aC)(e:Env):Option nr:=t.fold M e (fun x S az=>some (x,S,az)) none
theorem km{t:aC}{e az:Env}{x:b5}{S:ar}(h:run M t e=some (x,S,az)){X:Type}(K:b5→ar→Env→X)(d:X):t.fold M e K d=K x S az:=by
 have:=fold_map (M:=M) t (fun(o:Option nr)=>match o with|some (x,S,az)=>K x S az|none=>d) e (fun x S az=>some (x,S,az)) none
 simp only at this
 rw[←this]
 unfold run at h
 rw[h]
theorem Bg{t:aC}{e:Env}(h:run M t e=none){X:Type}(K:b5→ar→Env→X)(d:X):t.fold M e K d=d:=by
 have:=fold_map (M:=M) t (fun(o:Option nr)=>match o with|some (x,S,az)=>K x S az|none=>d) e (fun x S az=>some (x,S,az)) none
 simp only at this
 rw[←this]
 unfold run at h
 rw[h]
def de(M:List aS)(m xid:Nat)(ca:List hJ)(a:aC)(e:Env)(v:b3 ca):Step (Option nr) (b3 ca):=
 match run M a e with
 |some (x,S,az)=>ep m xid ca (fun x S e=>some (x,S,e)) x S az
 |none=>.cz v
theorem xP(m xid:Nat)(ca:List hJ)(a:aC)(e:Env)(v:b3 ca):a.fold M e (ep m xid ca fun x S e=>some (x,S,e)) (.cz v)=de M m xid ca a e v:=by
 unfold de
 split
 ·rename_i x S az h
  exact km h _ _
 ·rename_i h
  exact Bg h _ _
theorem T8{m xid b6:Nat}{dw:bT}{ca:List hJ}{a k:aC}{e:Env}{X:Type}(K:b5→ar→Env→X)(d:X)(h:a.jA m=true→∀e,∃x S az,run M a e=some (x,S,az)∧x.bZ m=true):
 (aC.eA m xid dw b6 ca a k).fold M e K d=Sum.elim (fun r=>r) (fun v=>k.fold M (bu e ca v) K d) (bm (fun i (v:b3 ca)=>a.fold M (bu (bd.put e b6 ⟨.int .i64,(i:Int)⟩) ca v) (ep m xid ca K) (.cz v)) 0 (cu (dw.den M e)).toNat (ch _ (dL e ca))):=by
 simp only[aC.fold]
 cases af:a.jA m with
 |false=>rfl
 |true=>
  have:(fun(i:Nat) (v:b3 ca)=>(.bh (a.fold M (bu (bd.put e b6 ⟨.int .i64,(i:Int)⟩) ca v) (fun _ S az=>ch _ (fE S az ca)) v):Step X (b3 ca)))=fun(i:Nat) (v:b3 ca)=>a.fold M (bu (bd.put e b6 ⟨.int .i64,(i:Int)⟩) ca v) (ep m xid ca K) (.cz v):=by
   funext i v
   obtain⟨x,S,az,aa,ae⟩:=h af (bu (bd.put e b6 ⟨.int .i64,(i:Int)⟩) ca v);simp only[km aa,ep,ae]
  simp only[cond_true];rw[this]
theorem jl: ∀{t:aC} {f:b5→Bool} {e:Env},t.fx f=true→∃x S az,run M t e=some (x,S,az)∧f x=true
 | .cQ x S,_,e,h=>⟨x,S,e,rfl,h⟩
 | .lt _ _ t,_,_,h=>jl (t:=t) h
 | .eL _ t,_,_,h=>jl (t:=t) h
 | .it c a b,f,e,h=>by
  simp only[aC.fx,Bool.and_eq_true]at h;simp only[run,aC.fold]
  cases c.aA e .bool with
  |true=>exact jl (t:=a) h.1
  |false=>exact jl (t:=b) h.2
 | .dH n a ps k,f,e,h=>by
  simp only[aC.fx,Bool.and_eq_true]at h;obtain⟨x,S,az,aa,ae⟩:=jl (t:=a) (e:=e) h.1;simp only[run,aC.fold]
  cases a.jA n with
  |true=>exact jl (t:=k) h.2
  |false=>
   rw[km aa]
   cases hx:x.bZ n with
   |true=>exact jl (t:=k) h.2
   |false=>
    rw[hx,Bool.false_or]at ae;exact⟨x,S,az,aa,ae⟩
 | .eA m xid dw b6 ca a k,f,e,h=>by
  simp only[aC.fx,Bool.and_eq_true]at h
  have key: ∀(n i:Nat) (v:b3 ca),(∃bo,bm (fun i (v:b3 ca)=>a.fold M (bu (bd.put e b6 ⟨.int .i64,(i:Int)⟩) ca v) (ep m xid ca fun x S e=>some (x,S,e)) (.cz v)) i n v= .inr bo)∨
   ∃x S az,bm (fun i (v:b3 ca)=>a.fold M (bu (bd.put e b6 ⟨.int .i64,(i:Int)⟩) ca v) (ep m xid ca fun x S e=>some (x,S,e)) (.cz v)) i n v= .inl (some (x,S,az))∧f x=true:=by
   intro n
   induction n with
   |zero=>exact fun i v=>.inl ⟨v,rfl⟩
   |succ n aZ=>
    intro i v;obtain⟨x,S,az,aa,ae⟩:=jl (t:=a) (e:=bu (bd.put e b6 ⟨.int .i64,(i:Int)⟩) ca v) h.1;simp only[bm,km aa]
    cases hx:x.bZ m with
    |true=>
     rw[og hx];exact aZ (i+1) _
    |false=>
     cases ay:x.c9 xid with
     |true=>
      rw[oh hx ay];exact .inl ⟨_,rfl⟩
     |false=>
      rw[kl hx ay];rw[hx,ay,Bool.false_or,Bool.false_or]at ae;exact .inr ⟨x,S,az,rfl,ae⟩
  unfold run;rw[T8 _ _ fun af e=>jl (t:=a) (e:=e) af]
  rcases key (cu (dw.den M e)).toNat 0 (ch _ (dL e ca))with⟨bo,ax⟩|⟨x,S,az,ax,hf⟩
  ·rw[ax];exact jl (t:=k) h.2
  ·rw[ax];exact⟨x,S,az,rfl,hf⟩
 | .e3 m xid ca a k,f,e,h=>by
  simp only[aC.fx,Bool.and_eq_true]at h
  have key: ∀(n:Nat) (v:b3 ca),(∃bo,cJ (fun(v:b3 ca)=>(a.fold M (bu e ca v) (ep m xid ca fun x S e=>some (x,S,e)) (.cz v):Step (Option nr) (b3 ca))) n v= .inr bo)∨
   ∃x S az,cJ (fun(v:b3 ca)=>(a.fold M (bu e ca v) (ep m xid ca fun x S e=>some (x,S,e)) (.cz v):Step (Option nr) (b3 ca))) n v= .inl (some (x,S,az))∧f x=true:=by
   intro n
   induction n with
   |zero=>exact fun v=>.inl ⟨v,rfl⟩
   |succ n aZ=>
    intro v;simp only[cJ];obtain⟨x,S,az,aa,ae⟩:=jl (t:=a) (e:=bu e ca v) h.1;rw[km aa]
    cases hx:x.bZ m with
    |true=>
     rw[og hx];exact aZ _
    |false=>
     cases ay:x.c9 xid with
     |true=>
      rw[oh hx ay];exact .inl ⟨_,rfl⟩
     |false=>
      rw[kl hx ay];rw[hx,ay,Bool.false_or,Bool.false_or]at ae;exact .inr ⟨x,S,az,rfl,ae⟩
  simp only[run,aC.fold]
  rcases key dk (ch _ (dL e ca))with⟨bo,ax⟩|⟨x,S,az,ax,hf⟩
  ·rw[ax];exact jl (t:=k) h.2
  ·rw[ax];exact⟨x,S,az,rfl,hf⟩
 | .bad _,_,_,h=>by cases h
theorem qB{n:Nat}{a k:aC}{ps:List (Nat × aW × eF)}{e aB:Env}{x:b5}{aU:ar}(h:run M a e=some (x,aU,aB))(hx:x.bZ n=true){X:Type}(K:b5→ar→Env→X)(d:X):
 (aC.dH n a ps k).fold M e K d=k.fold M (fU e (fun r p=>⟨r,(p.dr aU).get aB r⟩) ps) K d:=by
 simp only[aC.fold]
 cases a.jA n with
 |true=>simp only[km h,cond_true]
 |false=>simp only[km h,hx,cond_true,cond_false]
theorem nt{n:Nat}{a k:aC}{ps:List (Nat × aW × eF)}{e aB:Env}{x:b5}{aU:ar}(h:run M a e=some (x,aU,aB))(hx:x.bZ n=false){X:Type}(K:b5→ar→Env→X)(d:X):
 (aC.dH n a ps k).fold M e K d=K x aU aB:=by
 simp only[aC.fold]
 cases af:a.jA n with
 |true=>
  obtain⟨iP,dq,az,aa,ae⟩:=jl (M:=M) (t:=a) (e:=e) af;rw[aa]at h;cases h;rw[hx]at ae;cases ae
 |false=>simp only[km h,hx,cond_false]
theorem th{n:Nat}{a k:aC}{ps:List (Nat × aW × eF)}{e:Env}(h:run M a e=none){X:Type}(K:b5→ar→Env→X)(d:X):
 (aC.dH n a ps k).fold M e K d=d:=by
 simp only[aC.fold]
 cases af:a.jA n with
 |true=>
  obtain⟨iP,dq,az,aa,ae⟩:=jl (M:=M) (t:=a) (e:=e) af;rw[aa]at h;cases h
 |false=>simp only[Bg h,cond_false]
theorem T9{n:Nat}{a k:aC}{ps:List (Nat × aW × eF)}{e aB:Env}{x:b5}{aU:ar}(ai:(aC.dH n a ps k).safe M e)(h:run M a e=some (x,aU,aB))(hx:x.bZ n=true):
 k.safe M (fU e (fun r p=>⟨r,(p.dr aU).get aB r⟩) ps):=by
 have aa:=ai.2 (by rw[km h];exact hx)
 have ae:(fun(r:aW) (p:eF)=>(⟨r,bif a.jA n
  then a.fold M e (fun _ S az=>(p.dr S).get az r) r.fC
  else a.fold M e (fun x S az=>bif x.bZ n then(p.dr S).get az r else r.fC) r.fC⟩:aF))=fun r p=>⟨r,(p.dr aU).get aB r⟩:=by
  funext r p
  simp only[km h,hx]
  cases a.jA n<;>rfl
 rw[ae]at aa
 exact aa
theorem xQ{m xid b6:Nat}{dw:bT}{ca:List hJ}{a k:aC}{e:Env}{X:Type}(K:b5→ar→Env→X)(d:X):
 (aC.eA m xid dw b6 ca a k).fold M e K d=Sum.elim (fun r=>r) (fun v=>k.fold M (bu e ca v) K d) (bm (fun i (v:b3 ca)=>a.fold M (bu (bd.put e b6 ⟨.int .i64,(i:Int)⟩) ca v) (ep m xid ca K) (.cz v)) 0 (cu (dw.den M e)).toNat (ch _ (dL e ca))):=T8 K d fun af _=>jl af
end
end Go.aN
namespace Go.aN
open Go
def aC.rel:aC→(b5→b5)→aC
 | .cQ x S,f=>.cQ (f x) S
 | .lt i x t,f=>.lt i x (t.rel f)
 | .eL n t,f=>.eL n (t.rel f)
 | .it c a b,f=>.it c (a.rel f) (b.rel f)
 | .dH n a ps k,f=>.dH n (a.rel fun x=>bif x.bZ n then x else f x) ps (k.rel f)
 | .eA m xid dw b6 ca a k,f=>.eA m xid dw b6 ca (a.rel fun x=>bif x.bZ m||x.c9 xid then x else f x) (k.rel f)
 | .e3 m xid ca a k,f=>.e3 m xid ca (a.rel fun x=>bif x.bZ m||x.c9 xid then x else f x) (k.rel f)
 | .bad n,_=>.bad n
def aC.iI:aC→(b5→b5)→Prop
 | .cQ _ _,_=>True
 | .lt _ _ t,f=>t.iI f
 | .eL _ t,f=>t.iI f
 | .it _ a b,f=>a.iI f∧b.iI f
 | .dH n a _ k,f=>(∀x,x.bZ n=false→(f x).bZ n=false)∧(a.iI fun x=>bif x.bZ n then x else f x)∧k.iI f
 | .eA m xid _ _ _ a k,f=>(∀x,x.bZ m=false→x.c9 xid=false→(f x).bZ m=false∧(f x).c9 xid=false)∧(a.iI fun x=>bif x.bZ m||x.c9 xid then x else f x)∧k.iI f
 | .e3 m xid _ a k,f=>(∀x,x.bZ m=false→x.c9 xid=false→(f x).bZ m=false∧(f x).c9 xid=false)∧(a.iI fun x=>bif x.bZ m||x.c9 xid then x else f x)∧k.iI f
 | .bad _,_=>True
section
variable {M:List aS}
theorem EW{X:Type}{m xid:Nat}{ca:List hJ}{K:b5→ar→Env→X}{f:b5→b5}(h: ∀x,x.bZ m=false→x.c9 xid=false→(f x).bZ m=false∧(f x).c9 xid=false)(x:b5)(S:ar)(e:Env):
 ep m xid ca K (bif x.bZ m||x.c9 xid then x else f x) S e=ep m xid ca (fun x S e=>K (f x) S e) x S e:=by
 cases hx:x.bZ m with
 |true=>rw[Bool.true_or,cond_true,og hx,og hx]
 |false=>
  cases ay:x.c9 xid with
  |true=>rw[Bool.false_or,cond_true,oh hx ay,oh hx ay]
  |false=>
   obtain⟨aa,ae⟩:=h x hx ay;rw[Bool.false_or,cond_false,kl hx ay,kl aa ae]
theorem My: ∀{t:aC} {f g:b5→Bool},(∀x,f x=g x)→t.fx f=t.fx g:=fun {t f g} h=>by
 have:f=g:=funext h
 rw[this]
theorem pq: ∀{t:aC} {f:b5→b5} {g:b5→Bool},t.iI f→(t.rel f).fx g=t.fx fun x=>g (f x)
 | .cQ _ _,_,_,_=>rfl
 | .lt _ _ t,_,_,h=>pq (t:=t) h
 | .eL _ t,_,_,h=>pq (t:=t) h
 | .it _ a b,f,g,h=>by simp only[aC.rel,aC.fx,pq (t:=a) h.1,pq (t:=b) h.2]
 | .dH n a ps k,f,g,h=>by
  simp only[aC.rel,aC.fx,pq (t:=a) h.2.1,pq (t:=k) h.2.2]
  congr 1
  refine My fun x=>?_
  cases hx:x.bZ n with
  |true=>simp[hx]
  |false=>simp[h.1 x hx]
 | .eA m xid dw b6 ca a k,f,g,h=>by
  simp only[aC.rel,aC.fx,pq (t:=a) h.2.1,pq (t:=k) h.2.2]
  congr 1
  refine My fun x=>?_
  cases hx:x.bZ m with
  |true=>simp[hx]
  |false=>
   cases ay:x.c9 xid with
   |true=>simp[ay]
   |false=>simp[(h.1 x hx ay).1,(h.1 x hx ay).2]
 | .e3 m xid ca a k,f,g,h=>by
  simp only[aC.rel,aC.fx,pq (t:=a) h.2.1,pq (t:=k) h.2.2]
  congr 1
  refine My fun x=>?_
  cases hx:x.bZ m with
  |true=>simp[hx]
  |false=>
   cases ay:x.c9 xid with
   |true=>simp[ay]
   |false=>simp[(h.1 x hx ay).1,(h.1 x hx ay).2]
 | .bad _,_,_,_=>rfl
theorem mK: ∀{t:aC} {f:b5→b5},t.iI f→∀{X:Type} (e:Env) (K:b5→ar→Env→X) (d:X),(t.rel f).fold M e K d=t.fold M e (fun x S az=>K (f x) S az) d
 | .cQ _ _,_,_,_,_,_,_=>rfl
 | .lt _ _ t,_,h,_,_,K,d=>mK (t:=t) h _ K d
 | .eL _ t,_,h,_,_,K,d=>mK (t:=t) h _ K d
 | .it c a b,f,h,_,e,K,d=>by
  simp only[aC.rel,aC.fold,mK (t:=a) h.1,mK (t:=b) h.2]
 | .dH n a ps k,f,h,_,e,K,d=>by
  have ag:run M (a.rel fun x=>bif x.bZ n then x else f x) e=(run M a e).map fun l=>(bif l.1.bZ n then l.1 else f l.1,l.2):=by
   unfold run;rw[mK (t:=a) h.2.1];rw[fold_map a (fun o:Option nr=>o.map fun l=>(bif l.1.bZ n then l.1 else f l.1,l.2))]
   rfl
  show(aC.dH n (a.rel fun x=>bif x.bZ n then x else f x) ps (k.rel f)).fold M e K d=_
  cases cA:run M a e with
  |none=>rw[th (by rw[ag,cA];rfl),th cA]
  |some l=>
   obtain⟨x,aU,aB⟩:=l
   have aa:run M (a.rel fun x=>bif x.bZ n then x else f x) e=some (bif x.bZ n then x else f x,aU,aB):=by rw[ag,cA];rfl
   cases hx:x.bZ n with
   |true=>
    rw[hx,cond_true]at aa;rw[qB aa hx,qB cA hx];exact mK (t:=k) h.2.2 _ K d
   |false=>
    rw[hx,cond_false]at aa;rw[nt aa (h.1 x hx),nt cA hx]
 | .eA m xid dw b6 ca a k,f,h,X,e,K,d=>by
  show(aC.eA m xid dw b6 ca (a.rel fun x=>bif x.bZ m||x.c9 xid then x else f x) (k.rel f)).fold M e K d=_
  rw[xQ,xQ]
  have:(fun(i:Nat) (v:b3 ca)=>(a.rel fun x=>bif x.bZ m||x.c9 xid then x else f x).fold M (bu (bd.put e b6 ⟨.int .i64,(i:Int)⟩) ca v) (ep m xid ca K) (.cz v))=fun(i:Nat) (v:b3 ca)=>a.fold M (bu (bd.put e b6 ⟨.int .i64,(i:Int)⟩) ca v) (ep m xid ca fun x S az=>K (f x) S az) (.cz v):=by
   funext i v
   rw[mK (t:=a) h.2.1];simp only[EW h.1]
  rw[this];generalize bm _ _ _ _=L
  cases L with
  |inl r=>rfl
  |inr v=>exact mK (t:=k) h.2.2 _ K d
 | .e3 m xid ca a k,f,h,X,e,K,d=>by
  simp only[aC.rel,aC.fold]
  have:(fun(v:b3 ca)=>(a.rel fun x=>bif x.bZ m||x.c9 xid then x else f x).fold M (bu e ca v) (ep m xid ca K) (.cz v))=fun(v:b3 ca)=>a.fold M (bu e ca v) (ep m xid ca fun x S az=>K (f x) S az) (.cz v):=by
   funext v
   rw[mK (t:=a) h.2.1];simp only[EW h.1]
  rw[this];generalize cJ _ _ _=L
  cases L with
  |inl r=>rfl
  |inr v=>exact mK (t:=k) h.2.2 _ K d
 | .bad _,_,_,_,_,_,_=>rfl
theorem w4{t:aC}{f:b5→b5}(h:t.iI f)(e:Env):run M (t.rel f) e=(run M t e).map fun l=>(f l.1,l.2):=by
 unfold run
 rw[mK h,fold_map t (fun o:Option nr=>o.map fun l=>(f l.1,l.2))]
 rfl
theorem k5: ∀{t:aC} {f:b5→b5},t.iI f→∀{e:Env},(t.rel f).safe M e↔t.safe M e
 | .cQ _ _,_,_,_=>Iff.rfl
 | .lt _ _ t,_,h,_=>k5 (t:=t) h
 | .eL _ t,_,h,_=>by simp only[aC.rel,aC.safe,k5 (t:=t) h]
 | .it c a b,f,h,e=>by simp only[aC.rel,aC.safe,k5 (t:=a) h.1,k5 (t:=b) h.2]
 | .dH n a ps k,f,h,e=>by
  have af: ∀x,(bif b5.bZ n x then x else f x).bZ n=x.bZ n:=fun x=>by
   cases hx:x.bZ n with
   |true=>exact hx
   |false=>exact h.1 x hx
  simp only[aC.rel,aC.safe,k5 (t:=a) h.2.1,k5 (t:=k) h.2.2,aC.jA,pq h.2.1,mK h.2.1,af]
 | .eA m xid dw b6 ca a k,f,h,e=>by
  simp only[aC.rel,aC.safe,k5 (t:=a) h.2.1,k5 (t:=k) h.2.2,mK h.2.1,EW h.1]
 | .e3 m xid ca a k,f,h,e=>by
  simp only[aC.rel,aC.safe,k5 (t:=a) h.2.1,k5 (t:=k) h.2.2,mK h.2.1,EW h.1]
 | .bad _,_,_,_=>Iff.rfl
end
def aC.lvl:aC→Nat
 | .lt _ _ t=>t.lvl
 | .eL _ t=>t.lvl
 | .it _ a b=>Nat.max a.lvl b.lvl
 | .dH n a _ k=>Nat.max n (Nat.max a.lvl k.lvl)
 | .eA m _ _ _ _ a k=>Nat.max m (Nat.max a.lvl k.lvl)
 | .e3 m _ _ a k=>Nat.max m (Nat.max a.lvl k.lvl)
 |_=>0
def fO(n:Nat):b5→b5
 | .ct=>.lp n
 |x=>x
def pr(i:Nat):b5→b5
 | .ext m=>match Nat.beq m i with
  |true=>.ct
  |false=>.ext m
 |x=>x
theorem zgR(i n:Nat)(x:b5)(h:x.bZ n=false):(pr i x).bZ n=false:=by
 unfold pr
 split
 ·split
  ·rfl
  ·exact h
 ·exact h
theorem zgS(i n:Nat)(x:b5)(h:x.c9 n=false):(pr i x).c9 n=false:=by
 unfold pr
 split
 ·split
  ·rfl
  ·exact h
 ·exact h
theorem zgT(i n:Nat)(hn:i≠n)(x:b5)(h:x.bZ n=false):(fO i x).bZ n=false:=by
 unfold fO
 split
 ·show Nat.beq i n=false
  rw[qz];exact decide_eq_false hn
 ·exact h
theorem zgU(i n:Nat)(x:b5)(h:x.c9 n=false):(fO i x).c9 n=false:=by
 unfold fO
 split
 ·rfl
 ·exact h
theorem nu: ∀{t:aC} {f:b5→b5} (N:Nat),t.lvl<N→(∀n,n<N→∀x,x.bZ n=false→(f x).bZ n=false)→(∀n x,x.c9 n=false→(f x).c9 n=false)→t.iI f
 | .cQ _ _,_,_,_,_,_=>trivial
 | .lt _ _ t,_,N,aq,aa,ae=>nu (t:=t) N aq aa ae
 | .eL _ t,_,N,aq,aa,ae=>nu (t:=t) N aq aa ae
 | .it _ a b,f,N,aq,aa,ae=>by
  have aq:Nat.max a.lvl b.lvl<N:=aq
  have g1:a.lvl≤Nat.max a.lvl b.lvl:=Nat.le_max_left _ _
  have g2:b.lvl≤Nat.max a.lvl b.lvl:=Nat.le_max_right _ _
  exact⟨nu (t:=a) N (by omega) aa ae,nu (t:=b) N (by omega) aa ae⟩
 | .dH n a _ k,f,N,aq,aa,ae=>by
  have aq:Nat.max n (Nat.max a.lvl k.lvl)<N:=aq
  have g0:n≤Nat.max n (Nat.max a.lvl k.lvl):=Nat.le_max_left _ _
  have g3:Nat.max a.lvl k.lvl≤Nat.max n (Nat.max a.lvl k.lvl):=Nat.le_max_right _ _
  have g1:a.lvl≤Nat.max a.lvl k.lvl:=Nat.le_max_left _ _
  have g2:k.lvl≤Nat.max a.lvl k.lvl:=Nat.le_max_right _ _
  refine⟨aa n (by omega),nu (t:=a) N (by omega) (fun p ak x hx=>?_) (fun p x hx=>?_),nu (t:=k) N (by omega) aa ae⟩
  ·cases x.bZ n with
   |true=>exact hx
   |false=>exact aa p ak x hx
  ·cases x.bZ n with
   |true=>exact hx
   |false=>exact ae p x hx
 | .eA m xid _ _ _ a k,f,N,aq,aa,ae=>by
  have aq:Nat.max m (Nat.max a.lvl k.lvl)<N:=aq
  have g0:m≤Nat.max m (Nat.max a.lvl k.lvl):=Nat.le_max_left _ _
  have g3:Nat.max a.lvl k.lvl≤Nat.max m (Nat.max a.lvl k.lvl):=Nat.le_max_right _ _
  have g1:a.lvl≤Nat.max a.lvl k.lvl:=Nat.le_max_left _ _
  have g2:k.lvl≤Nat.max a.lvl k.lvl:=Nat.le_max_right _ _
  refine⟨fun x hx ay=>⟨aa m (by omega) x hx,ae xid x ay⟩,nu (t:=a) N (by omega) (fun p ak x hx=>?_) (fun p x hx=>?_),nu (t:=k) N (by omega) aa ae⟩
  ·cases x.bZ m||x.c9 xid with
   |true=>exact hx
   |false=>exact aa p ak x hx
  ·cases x.bZ m||x.c9 xid with
   |true=>exact hx
   |false=>exact ae p x hx
 | .e3 m xid _ a k,f,N,aq,aa,ae=>by
  have aq:Nat.max m (Nat.max a.lvl k.lvl)<N:=aq
  have g0:m≤Nat.max m (Nat.max a.lvl k.lvl):=Nat.le_max_left _ _
  have g3:Nat.max a.lvl k.lvl≤Nat.max m (Nat.max a.lvl k.lvl):=Nat.le_max_right _ _
  have g1:a.lvl≤Nat.max a.lvl k.lvl:=Nat.le_max_left _ _
  have g2:k.lvl≤Nat.max a.lvl k.lvl:=Nat.le_max_right _ _
  refine⟨fun x hx ay=>⟨aa m (by omega) x hx,ae xid x ay⟩,nu (t:=a) N (by omega) (fun p ak x hx=>?_) (fun p x hx=>?_),nu (t:=k) N (by omega) aa ae⟩
  ·cases x.bZ m||x.c9 xid with
   |true=>exact hx
   |false=>exact aa p ak x hx
  ·cases x.bZ m||x.c9 xid with
   |true=>exact hx
   |false=>exact ae p x hx
 | .bad _,_,_,_,_,_=>trivial
theorem zgV(t:aC)(i:Nat):t.iI (pr i):=nu (t.lvl+1) (Nat.lt_succ_self _) (fun n _ x=>zgR i n x) (fun n x=>zgS i n x)
theorem Mz{t:aC}{n:Nat}(h:t.lvl<n):t.iI (fO n):=nu n h (fun m hm x=>zgT n m (by omega) x) (fun m x=>zgU n m x)
def pt(o:Option (b5→Bool))(x:b5):Bool:=
 match o with
 |none=>true
 |some f=>f x
def aC.eP(f:ar→aC):aC→Option (b5→Bool)→aC
 | .cQ .ct S,none=>f S
 | .cQ .ct S,some o=>match(f S).fx o with
  |true=>f S
  |false=>.bad 9
 | .cQ x S,_=>.cQ x S
 | .lt i x t,o=>.lt i x (t.eP f o)
 | .eL n t,o=>.eL n (t.eP f o)
 | .it c a b,o=>.it c (a.eP f o) (b.eP f o)
 | .dH n a ps k,o=>.dH n (a.eP f (some fun x=>!(x.bZ n)&&pt o x)) ps (k.eP f o)
 | .eA m xid dw b6 ca a k,o=>.eA m xid dw b6 ca (a.eP f (some fun x=>!(x.bZ m)&&(!(x.c9 xid)&&pt o x))) (k.eP f o)
 | .e3 m xid ca a k,o=>.e3 m xid ca (a.eP f (some fun x=>!(x.bZ m)&&(!(x.c9 xid)&&pt o x))) (k.eP f o)
 | .bad n,_=>.bad n
end Go.aN
namespace Go.aN
open Go
theorem zk{R A:Type}{b c:Nat→A→Step R A}(I:Nat→A→Prop)(n:Nat)(h: ∀i v,i<n→I i v→c i v=b i v∧∀bo,b i v= .bh bo→I (i+1) bo): ∀(m k:Nat) (a:A),k+m=n→I k a→bm c k m a=bm b k m a
 |0,_,_,_,_=>rfl
 |m+1,k,a,hn,hi=>by
  obtain⟨aa,ae⟩:=h k a (by omega) hi
  simp only[bm,aa]
  cases ad:b k a with
  |ret r=>rfl
  |cz a=>rfl
  |bh v=>exact zk I n h m (k+1) v (by omega) (ae v ad)
theorem MA{R A:Type}{b c:A→Step R A}(I:A→Prop)(h: ∀v,I v→c v=b v∧∀bo,b v= .bh bo→I bo): ∀(m:Nat) (a:A),I a→cJ c m a=cJ b m a∧(ki c m a↔ki b m a)
 |0,_,_=>⟨rfl,Iff.rfl⟩
 |m+1,a,hi=>by
  obtain⟨aa,ae⟩:=h a hi;simp only[cJ,ki,aa]
  cases ad:b a with
  |ret r=>exact⟨rfl,Iff.rfl⟩
  |cz a=>exact⟨rfl,Iff.rfl⟩
  |bh v=>exact MA I h m v (ae v ad)
def iJ(M:List aS)(f:ar→aC)(o:Option nr):Option nr:=
 match o with
 |some (.ct,S,e)=>run M (f S) e
 |o=>o
section
variable {M:List aS} {f:ar→aC}
theorem Bh{x:b5}{S:ar}{e:Env}(h:x≠ .ct):iJ M f (some (x,S,e))=some (x,S,e):=by
 unfold iJ
 split
 ·rename_i hx;cases hx;exact absurd rfl h
 ·rfl
theorem iY(m xid:Nat)(ca:List hJ)(a:aC)(e:Env)(v:b3 ca):a.fold M e (ep m xid ca fun _ _ _=>()) (.cz v)=ig (fun _=>()) (de M m xid ca a e v):=by
 unfold de
 split
 ·rename_i x S az h
  rw[km h,xO]
 ·rename_i h
  rw[Bg h];rfl
theorem ti{R A X:Type}{f:R→X}{s:Step R A}{v:A}(h:ig f s= .bh v):s= .bh v:=by
 cases s<;>simp_all[ig]
theorem Ua{m xid:Nat}{ca:List hJ}{a bg:aC}{e:Env}{v:b3 ca}(h:run M bg e=iJ M f (run M a e))(aq: ∀S az,run M a e=some (.ct,S,az)→∃x aU aB,run M (f S) az=some (x,aU,aB)∧x.bZ m=false∧x.c9 xid=false):
 de M m xid ca bg e v=ig (iJ M f) (de M m xid ca a e v):=by
 unfold de
 rw[h]
 cases ag:run M a e with
 |none=>rfl
 |some l=>
  obtain⟨x,S,az⟩:=l
  cases x with
  |ct=>
   obtain⟨x,aU,aB,aa,ae,au⟩:=aq S az ag;simp only[iJ,aa];rw[kl ae au,kl (x:=.ct) rfl rfl];simp only[ig,iJ,aa]
  |ext n=>
   simp only[iJ];rw[xO]
   cases hx:b5.c9 xid (.ext n)with
   |true=>rw[oh rfl hx,oh rfl hx]
   |false=>rw[kl rfl hx,kl rfl hx];rfl
  |ret=>
   simp only[iJ];rw[xO,kl rfl rfl,kl rfl rfl];rfl
  |lp n=>
   simp only[iJ];rw[xO]
   cases hx:b5.bZ m (.lp n)with
   |true=>rw[og hx,og hx]
   |false=>rw[kl hx rfl,kl hx rfl];rfl
theorem nv: ∀{t:aC} {p q:b5→Bool},t.fx p=true→(∀x,p x=true→q x=true)→t.fx q=true
 | .cQ x _,_,_,h,aK=>aK x h
 | .lt _ _ t,_,_,h,aK=>nv (t:=t) h aK
 | .eL _ t,_,_,h,aK=>nv (t:=t) h aK
 | .it _ a b,_,_,h,aK=>by
  simp only[aC.fx,Bool.and_eq_true]at h⊢;exact⟨nv h.1 aK,nv h.2 aK⟩
 | .dH n a _ k,_,_,h,aK=>by
  simp only[aC.fx,Bool.and_eq_true]at h⊢;refine⟨nv h.1 fun x hx=>?_,nv h.2 aK⟩
  simp only[Bool.or_eq_true]at hx⊢;exact hx.imp id (aK x)
 | .eA m xid _ _ _ a k,_,_,h,aK=>by
  simp only[aC.fx,Bool.and_eq_true]at h⊢;refine⟨nv h.1 fun x hx=>?_,nv h.2 aK⟩
  simp only[Bool.or_eq_true]at hx⊢;exact hx.imp id (Or.imp id (aK x))
 | .e3 m xid _ a k,_,_,h,aK=>by
  simp only[aC.fx,Bool.and_eq_true]at h⊢;refine⟨nv h.1 fun x hx=>?_,nv h.2 aK⟩
  simp only[Bool.or_eq_true]at hx⊢;exact hx.imp id (Or.imp id (aK x))
 | .bad _,_,_,h,_=>by cases h
theorem jk: ∀(t:aC) (o:Option (b5→Bool)) {e:Env},(t.eP f o).safe M e→
    t.safe M e∧run M (t.eP f o) e=iJ M f (run M t e)∧∀S az,run M t e=some (.ct,S,az)→(f S).safe M az∧∀p,o=some p→(f S).fx p=true
  | .cQ x S,o,e,h=>by
    cases x with
    |ct=>
      cases o with
      |none=>exact⟨trivial,rfl,fun dq az ag=>by cases ag;exact⟨h,fun _ ak=>by cases ak⟩⟩
      |some p=>
        simp only[aC.eP]at h
        split at h
        · rename_i aq
          have ah:(aC.cQ .ct S).eP f (some p)=f S:=by simp only[aC.eP,aq]
          rw[ah];exact⟨trivial,rfl,fun dq az ag=>by cases ag;exact⟨h,fun _ ak=>by cases ak;exact aq⟩⟩
        · exact h.elim
    |_=>exact⟨trivial,rfl,fun dq az ag=>by cases ag⟩
  | .lt i x t,o,_,h=>jk t o (e:=bd.put _ i _) h
  | .eL n t,o,e,h=>by
    obtain⟨aa,ae,au⟩:=jk t o h.2;exact⟨⟨h.1,aa⟩,ae,au⟩
  | .it c a b,o,e,h=>by
    have aY:=fun hc=>jk a o (h.1 hc)
    have ad:=fun hc=>jk b o (h.2 hc)
    refine⟨⟨fun hc=>(aY hc).1,fun hc=>(ad hc).1⟩,?_⟩
    simp only[run,aC.eP,aC.fold]
    cases hc:c.aA e .bool with
    |true=>exact(aY hc).2
    |false=>exact(ad hc).2
  | .dH n a ps k,o,e,h=>by
    obtain⟨cg,a2,a3⟩:=jk a _ h.1
    have ai:(aC.dH n a ps k).safe M e∧run M ((aC.dH n a ps k).eP f o) e=iJ M f (run M (aC.dH n a ps k) e)∧∀S az,run M (aC.dH n a ps k) e=some (.ct,S,az)→(f S).safe M az∧∀p,o=some p→(f S).fx p=true:=by
      show _∧run M (.dH n (a.eP f (some fun x=>!(x.bZ n)&&pt o x)) ps (k.eP f o)) e=_∧_
      cases ag:run M a e with
      |none=>
        rw[ag]at a2
        have a2:run M _ e=none:=a2
        refine⟨⟨cg,fun af=>by rw[Bg ag]at af;cases af⟩,?_,fun S az af=>by unfold run at af;rw[th ag]at af;cases af⟩
        unfold run;rw[th a2,th ag];rfl
      |some l=>
        obtain⟨x,aU,aB⟩:=l
        cases hx:x.bZ n with
        |true=>
          have b9:x≠ .ct:=fun e=>by rw[e]at hx;cases hx
          rw[ag,Bh b9]at a2
          have aj:=T9 h a2 hx
          obtain⟨eT,gM,k6⟩:=jk k o aj;refine⟨⟨cg,fun _=>?_⟩,?_,fun S az af=>?_⟩
          · have:(fun(r:aW) (p:eF)=>(⟨r,bif a.jA n
      then a.fold M e (fun _ S az=>(p.dr S).get az r) r.fC
      else a.fold M e (fun x S az=>bif x.bZ n then(p.dr S).get az r else r.fC) r.fC⟩:aF))=fun r p=>⟨r,(p.dr aU).get aB r⟩:=by
              funext r p
              simp only[km ag,hx]
              cases a.jA n<;>rfl
            rw[this];exact eT
          · unfold run
            rw[qB a2 hx,qB ag hx];exact gM
          · unfold run at af
            rw[qB ag hx]at af;exact k6 S az af
        |false=>
          have Ub:(aC.dH n a ps k).safe M e:=⟨cg,fun af=>by rw[km ag,hx]at af;cases af⟩
          by_cases b9:x= .ct
          · subst b9
            obtain⟨f1,f2⟩:=a3 aU aB ag
            have f2:=f2 _ rfl
            obtain⟨y,dW,bl,g1,g2⟩:=jl (M:=M) (e:=aB) f2;simp only[Bool.and_eq_true,Bool.not_eq_true']at g2;rw[ag]at a2
            have a2:run M _ e=run M (f aU) aB:=a2
            rw[g1]at a2;refine⟨Ub,?_,fun S az af=>?_⟩
            · have aa:run M (aC.dH n a ps k) e=some (.ct,aU,aB):=by unfold run;rw[nt ag hx]
              rw[aa];show _=run M (f aU) aB;rw[g1];unfold run;rw[nt a2 g2.1]
            · unfold run at af
              rw[nt ag hx]at af;cases af;refine⟨f1,fun p ak=>?_⟩
              subst ak;exact nv f2 fun x hx=>by simp only[Bool.and_eq_true]at hx;exact hx.2
          · rw[ag,Bh b9]at a2
            refine⟨Ub,?_,fun S az af=>?_⟩
            · unfold run
              rw[nt a2 hx,nt ag hx,Bh b9]
            · unfold run at af
              rw[nt ag hx]at af;cases af;exact absurd rfl b9
    exact ai
  | .eA m xid dw b6 ca a k,o,e,h=>by
    obtain⟨⟨I,i0,b1⟩,aj⟩:=h
    have key: ∀(i:Nat) (v:b3 ca),i<(cu (dw.den M e)).toNat→I i v→a.safe M (bu (bd.put e b6 ⟨.int .i64,(i:Int)⟩) ca v)∧
        de M m xid ca (a.eP f (some fun x=>!(x.bZ m)&&(!(x.c9 xid)&&pt o x))) (bu (bd.put e b6 ⟨.int .i64,(i:Int)⟩) ca v) v=ig (iJ M f) (de M m xid ca a (bu (bd.put e b6 ⟨.int .i64,(i:Int)⟩) ca v) v)∧
        (∀bo,de M m xid ca a (bu (bd.put e b6 ⟨.int .i64,(i:Int)⟩) ca v) v= .bh bo→I (i+1) bo)∧
        ∀S az,de M m xid ca a (bu (bd.put e b6 ⟨.int .i64,(i:Int)⟩) ca v) v= .ret (some (.ct,S,az))→(f S).safe M az∧∀p,o=some p→(f S).fx p=true:=by
      intro i v hi ax;obtain⟨s1,s2⟩:=b1 i v hi ax;obtain⟨cg,a2,a3⟩:=jk a _ s1
      have ah:=Ua (m:=m) (xid:=xid) (ca:=ca) (v:=v) a2 fun S az ag=>by
        obtain⟨y,dW,bl,g1,g2⟩:=jl (M:=M) (e:=az) ((a3 S az ag).2 _ rfl);simp only[Bool.and_eq_true,Bool.not_eq_true']at g2;exact⟨y,dW,bl,g1,g2.1,g2.2.1⟩
      refine⟨cg,ah,fun bo iV=>s2 bo ?_,fun S az ag=>?_⟩
      · rw[iY,ah,iV]
        rfl
      · unfold de at ag
        cases pv:run M a (bu (bd.put e b6 ⟨.int .i64,(i:Int)⟩) ca v)with
        |none=>rw[pv]at ag;cases ag
        |some l=>
          obtain⟨x,dq,A9⟩:=l;rw[pv]at ag;simp only at ag
          cases hx:x.bZ m with
          |true=>rw[og hx]at ag;cases ag
          |false=>
            cases ay:x.c9 xid with
            |true=>rw[oh hx ay]at ag;cases ag
            |false=>
              rw[kl hx ay]at ag;cases ag;obtain⟨f1,f2⟩:=a3 S az pv;refine⟨f1,fun p ak=>?_⟩
              subst ak;exact nv (f2 _ rfl) fun x hx=>by simp only[Bool.and_eq_true]at hx;exact hx.2.2
    have su:bm (fun i (v:b3 ca)=>(a.eP f (some fun x=>!(x.bZ m)&&(!(x.c9 xid)&&pt o x))).fold M (bu (bd.put e b6 ⟨.int .i64,(i:Int)⟩) ca v) (ep m xid ca fun _ _ _=>()) (.cz v)) 0 (cu (dw.den M e)).toNat (ch _ (dL e ca))=
        bm (fun i (v:b3 ca)=>a.fold M (bu (bd.put e b6 ⟨.int .i64,(i:Int)⟩) ca v) (ep m xid ca fun _ _ _=>()) (.cz v)) 0 (cu (dw.den M e)).toNat (ch _ (dL e ca)):=
      zk I _ (fun i v hi ax=>by
        obtain⟨_,g2,g3,_⟩:=key i v hi ax;refine⟨?_,fun bo iV=>g3 bo ?_⟩
        · rw[iY,iY,g2]
          cases de M m xid ca a (bu (bd.put e b6 ⟨.int .i64,(i:Int)⟩) ca v) v<;>rfl
        · rw[iY]at iV
          exact ti iV) _ 0 _ (by omega) i0
    rw[su]at aj
    have fY:bm (fun i (v:b3 ca)=>(a.eP f (some fun x=>!(x.bZ m)&&(!(x.c9 xid)&&pt o x))).fold M (bu (bd.put e b6 ⟨.int .i64,(i:Int)⟩) ca v) (ep m xid ca fun x S e=>some (x,S,e)) (.cz v)) 0 (cu (dw.den M e)).toNat (ch _ (dL e ca))=
        bm (fun i (v:b3 ca)=>ig (iJ M f) (de M m xid ca a (bu (bd.put e b6 ⟨.int .i64,(i:Int)⟩) ca v) v)) 0 (cu (dw.den M e)).toNat (ch _ (dL e ca)):=
      zk I _ (fun i v hi ax=>by
        obtain⟨_,g2,g3,_⟩:=key i v hi ax;refine⟨?_,fun bo iV=>g3 bo (ti iV)⟩
        rw[xP,g2]) _ 0 _ (by omega) i0
    have fl: ∀(n i:Nat) (v:b3 ca),i+n=(cu (dw.den M e)).toNat→I i v→∀S az,bm (fun i (v:b3 ca)=>de M m xid ca a (bu (bd.put e b6 ⟨.int .i64,(i:Int)⟩) ca v) v) i n v= .inl (some (.ct,S,az))→(f S).safe M az∧∀p,o=some p→(f S).fx p=true:=by
      intro n
      induction n with
      |zero=>intro i v _ _ S az h;cases h
      |succ n aZ=>
        intro i v k0 ax S az h;obtain⟨_,_,g3,g4⟩:=key i v (by omega) ax
        simp only[bm]at h
        cases ag:de M m xid ca a (bu (bd.put e b6 ⟨.int .i64,(i:Int)⟩) ca v) v with
        |ret r=>rw[ag]at h;cases h;exact g4 S az ag
        |cz bo=>rw[ag]at h;cases h
        |bh bo=>rw[ag]at h;exact aZ (i+1) bo (by omega) (g3 bo ag) S az h
    have cA:run M (.eA m xid dw b6 ca a k) e=Sum.elim (fun r=>r) (fun v=>run M k (bu e ca v)) (bm (fun i (v:b3 ca)=>de M m xid ca a (bu (bd.put e b6 ⟨.int .i64,(i:Int)⟩) ca v) v) 0 (cu (dw.den M e)).toNat (ch _ (dL e ca))):=by
      unfold run;rw[xQ];simp only[xP]
    have MB:run M ((aC.eA m xid dw b6 ca a k).eP f o) e=Sum.elim (fun r=>r) (fun v=>run M (k.eP f o) (bu e ca v)) (Sum.map (iJ M f) id (bm (fun i (v:b3 ca)=>de M m xid ca a (bu (bd.put e b6 ⟨.int .i64,(i:Int)⟩) ca v) v) 0 (cu (dw.den M e)).toNat (ch _ (dL e ca)))):=by
      show aC.fold M (.eA m xid dw b6 ca (a.eP f (some fun x=>!(x.bZ m)&&(!(x.c9 xid)&&pt o x))) (k.eP f o)) e _ none=_;rw[xQ,fY,ue (iJ M f) (fun _ _=>rfl)];rfl
    have eu: ∀v,bm (fun i (v:b3 ca)=>de M m xid ca a (bu (bd.put e b6 ⟨.int .i64,(i:Int)⟩) ca v) v) 0 (cu (dw.den M e)).toNat (ch _ (dL e ca))= .inr v→(k.eP f o).safe M (bu e ca v):=fun v ax=>by
      simp only[iY]at aj;rw[ue (fun _=>()) (fun _ _=>rfl),ax]at aj;exact aj
    refine⟨⟨⟨I,i0,fun i v hi ax=>?_⟩,?_⟩,?_,fun S az ag=>?_⟩
    · obtain⟨g1,_,g3,_⟩:=key i v hi ax
      exact⟨g1,fun bo iV=>g3 bo (ti (by rw[iY]at iV;exact iV))⟩
    · simp only[iY]
      rw[ue (fun _=>()) (fun _ _=>rfl)]
      cases ax:bm (fun i (v:b3 ca)=>de M m xid ca a (bu (bd.put e b6 ⟨.int .i64,(i:Int)⟩) ca v) v) 0 (cu (dw.den M e)).toNat (ch _ (dL e ca))with
      |inl r=>trivial
      |inr v=>exact(jk k o (eu v ax)).1
    · rw[cA,MB]
      cases ax:bm (fun i (v:b3 ca)=>de M m xid ca a (bu (bd.put e b6 ⟨.int .i64,(i:Int)⟩) ca v) v) 0 (cu (dw.den M e)).toNat (ch _ (dL e ca))with
      |inl r=>rfl
      |inr v=>exact(jk k o (eu v ax)).2.1
    · rw[cA]at ag
      cases ax:bm (fun i (v:b3 ca)=>de M m xid ca a (bu (bd.put e b6 ⟨.int .i64,(i:Int)⟩) ca v) v) 0 (cu (dw.den M e)).toNat (ch _ (dL e ca))with
      |inl r=>
        rw[ax]at ag
        have ag:r=some (.ct,S,az):=ag
        subst ag;exact fl _ 0 _ (by omega) i0 S az ax
      |inr v=>
        rw[ax]at ag;exact(jk k o (eu v ax)).2.2 S az ag
  | .e3 m xid ca a k,o,e,h=>by
    obtain⟨⟨I,i0,b1⟩,he,aj⟩:=h
    have key: ∀(v:b3 ca),I v→a.safe M (bu e ca v)∧
        de M m xid ca (a.eP f (some fun x=>!(x.bZ m)&&(!(x.c9 xid)&&pt o x))) (bu e ca v) v=ig (iJ M f) (de M m xid ca a (bu e ca v) v)∧
        (∀bo,de M m xid ca a (bu e ca v) v= .bh bo→I bo)∧
        ∀S az,de M m xid ca a (bu e ca v) v= .ret (some (.ct,S,az))→(f S).safe M az∧∀p,o=some p→(f S).fx p=true:=by
      intro v ax;obtain⟨s1,s2⟩:=b1 v ax;obtain⟨cg,a2,a3⟩:=jk a _ s1
      have ah:=Ua (m:=m) (xid:=xid) (ca:=ca) (v:=v) a2 fun S az ag=>by
        obtain⟨y,dW,bl,g1,g2⟩:=jl (M:=M) (e:=az) ((a3 S az ag).2 _ rfl);simp only[Bool.and_eq_true,Bool.not_eq_true']at g2;exact⟨y,dW,bl,g1,g2.1,g2.2.1⟩
      refine⟨cg,ah,fun bo iV=>s2 bo ?_,fun S az ag=>?_⟩
      · rw[iY,ah,iV]
        rfl
      · unfold de at ag
        cases pv:run M a (bu e ca v)with
        |none=>rw[pv]at ag;cases ag
        |some l=>
          obtain⟨x,dq,A9⟩:=l;rw[pv]at ag;simp only at ag
          cases hx:x.bZ m with
          |true=>rw[og hx]at ag;cases ag
          |false=>
            cases ay:x.c9 xid with
            |true=>rw[oh hx ay]at ag;cases ag
            |false=>
              rw[kl hx ay]at ag;cases ag;obtain⟨f1,f2⟩:=a3 S az pv;refine⟨f1,fun p ak=>?_⟩
              subst ak;exact nv (f2 _ rfl) fun x hx=>by simp only[Bool.and_eq_true]at hx;exact hx.2.2
    have su:=MA (b:=fun(v:b3 ca)=>(a.fold M (bu e ca v) (ep m xid ca fun _ _ _=>()) (.cz v):Step Unit (b3 ca))) (c:=fun(v:b3 ca)=>((a.eP f (some fun x=>!(x.bZ m)&&(!(x.c9 xid)&&pt o x))).fold M (bu e ca v) (ep m xid ca fun _ _ _=>()) (.cz v):Step Unit (b3 ca))) I (fun v ax=>by
        obtain⟨_,g2,g3,_⟩:=key v ax;refine⟨?_,fun bo iV=>g3 bo ?_⟩
        · rw[iY,iY,g2]
          cases de M m xid ca a (bu e ca v) v<;>rfl
        · rw[iY]at iV
          exact ti iV) dk _ i0
    rw[su.1]at aj
    have he:=su.2.1 he
    have fY:=(MA (b:=fun(v:b3 ca)=>ig (iJ M f) (de M m xid ca a (bu e ca v) v)) (c:=fun(v:b3 ca)=>(a.eP f (some fun x=>!(x.bZ m)&&(!(x.c9 xid)&&pt o x))).fold M (bu e ca v) (ep m xid ca fun x S e=>some (x,S,e)) (.cz v)) I (fun v ax=>by
        obtain⟨_,g2,g3,_⟩:=key v ax;refine⟨?_,fun bo iV=>g3 bo (ti iV)⟩
        rw[xP,g2]) dk _ i0).1
    have fl: ∀(n:Nat) (v:b3 ca),I v→∀S az,cJ (fun(v:b3 ca)=>de M m xid ca a (bu e ca v) v) n v= .inl (some (.ct,S,az))→(f S).safe M az∧∀p,o=some p→(f S).fx p=true:=by
      intro n
      induction n with
      |zero=>intro v _ S az h;cases h
      |succ n aZ=>
        intro v ax S az h;obtain⟨_,_,g3,g4⟩:=key v ax;simp only[cJ]at h
        cases ag:de M m xid ca a (bu e ca v) v with
        |ret r=>rw[ag]at h;cases h;exact g4 S az ag
        |cz bo=>rw[ag]at h;cases h
        |bh bo=>rw[ag]at h;exact aZ bo (g3 bo ag) S az h
    have cA:run M (.e3 m xid ca a k) e=Sum.elim (fun r=>r) (fun v=>run M k (bu e ca v)) (cJ (fun(v:b3 ca)=>de M m xid ca a (bu e ca v) v) dk (ch _ (dL e ca))):=by
      simp only[run,aC.fold,xP]
    have MB:run M ((aC.e3 m xid ca a k).eP f o) e=Sum.elim (fun r=>r) (fun v=>run M (k.eP f o) (bu e ca v)) (Sum.map (iJ M f) id (cJ (fun(v:b3 ca)=>de M m xid ca a (bu e ca v) v) dk (ch _ (dL e ca)))):=by
      rw[←xN (iJ M f) (c:=fun(v:b3 ca)=>ig (iJ M f) (de M m xid ca a (bu e ca v) v)) (fun _=>rfl),←fY];rfl
    have eu: ∀v,cJ (fun(v:b3 ca)=>de M m xid ca a (bu e ca v) v) dk (ch _ (dL e ca))= .inr v→(k.eP f o).safe M (bu e ca v):=fun v ax=>by
      simp only[iY]at aj;rw[xN (fun _=>()) (fun _=>rfl),ax]at aj;exact aj
    refine⟨⟨⟨I,i0,fun v ax=>?_⟩,he,?_⟩,?_,fun S az ag=>?_⟩
    · obtain⟨g1,_,g3,_⟩:=key v ax
      exact⟨g1,fun bo iV=>g3 bo (ti (by rw[iY]at iV;exact iV))⟩
    · simp only[iY]
      rw[xN (fun _=>()) (fun _=>rfl)]
      cases ax:cJ (fun(v:b3 ca)=>de M m xid ca a (bu e ca v) v) dk (ch _ (dL e ca))with
      |inl r=>trivial
      |inr v=>exact(jk k o (eu v ax)).1
    · rw[cA,MB]
      cases ax:cJ (fun(v:b3 ca)=>de M m xid ca a (bu e ca v) v) dk (ch _ (dL e ca))with
      |inl r=>rfl
      |inr v=>exact(jk k o (eu v ax)).2.1
    · rw[cA]at ag
      cases ax:cJ (fun(v:b3 ca)=>de M m xid ca a (bu e ca v) v) dk (ch _ (dL e ca))with
      |inl r=>
        rw[ax]at ag
        have ag:r=some (.ct,S,az):=ag
        subst ag;exact fl _ _ i0 S az ax
      |inr v=>
        rw[ax]at ag;exact(jk k o (eu v ax)).2.2 S az ag
  | .bad _,_,_,h=>h.elim
end
end Go.aN
namespace Go.aN
open Go
theorem oj(G:bc)(e:Env)(l:bd ab): ∀(n i j:Nat),(kk G e l i n)[j]? =if j<n then some (match l.get (i+j)with|some x=>x.den G e|none=>.top)else none
 |0,_,_=>by simp[kk]
 |n+1,i,0=>by simp only[kk,List.getElem?_cons_zero,Nat.add_zero,Nat.zero_lt_succ,if_true]<;>rfl
 |n+1,i,j+1=>by
  simp only[kk,List.getElem?_cons_succ,oj G e l n (i+1) j]
  rw[show i+1+j=i+(j+1)by omega]
  simp
theorem EX(G:bc)(e:Env)(l:bd ab): ∀(n i:Nat),(kk G e l i n).length=n
 |0,_=>rfl
 |n+1,i=>by simp[kk,EX G e l n (i+1)]
theorem vq(G:bc)(N B:Nat)(e:Env)(S:ar)(j:Nat):(S.den G N B e).c0[j]? =if j<N then some ((S.at j).den G e)else none:=by
 simp only[ar.den,oj,Nat.zero_add]
 by_cases h:j<N
 ·simp only[h,if_true,Option.some.injEq]
  unfold ar.at
  cases S.l.get j<;>rfl
 ·simp[h]
def Bi:ab→ab→Bool
 | .aV r i,.aV q j=>Nat.beq i j&&hV r q
 | .fd c i k r,.fd d j m q=>(Nat.beq i j&&Nat.beq k m)&&(decide (c=d)&&hV r q)
 |_,_=>false
theorem MC{x y:ab}(h:Bi x y=true):x=y:=by
 unfold Bi at h
 split at h
 ·simp only[Bool.and_eq_true]at h
  rw[Nat.eq_of_beq_eq_true h.1,hy h.2]
 ·simp only[Bool.and_eq_true,decide_eq_true_eq]at h
  rw[Nat.eq_of_beq_eq_true h.1.1,Nat.eq_of_beq_eq_true h.1.2,h.2.1,hy h.2.2]
 ·cases h
def lq(g:ab):List cc→Option Bool
 |[]=>none
 | .eb h b::r=>match Bi h g with
  |true=>some b
  |false=>lq g r
 |_::r=>lq g r
theorem qC{e:Env}{g:ab}{b:Bool}: ∀{l:List cc},lq g l=some b→(∀c∈l,c.ok e)→g.aA e .bool=b
 | .eb h b'::r,aj,hc=>by
  simp only[lq]at aj
  split at aj
  ·rename_i ai
   cases aj;rw[←MC ai];exact hc (.eb h b) (by simp)
  ·exact qC aj fun c hm=>hc c (by simp[hm])
 | .d1 _ _ _::r,aj,hc=>qC (l:=r) aj fun c hm=>hc c (by simp[hm])
 | .d2 _ _ _ _::r,aj,hc=>qC (l:=r) aj fun c hm=>hc c (by simp[hm])
 | .rg _ _::r,aj,hc=>qC (l:=r) aj fun c hm=>hc c (by simp[hm])
def ab.res(l:List cc):ab→ab
 | .fN g b v=>match lq g l with
  |some c=>match decide (c=b)with
   |true=>v.res l
   |false=>.tp []
  |none=>.fN g b (v.res l)
 | .fp g id off=>match lq g l,id with
  |some true,some id=>.ej id off
  |some false,_=>.cs (.pointer none)
  |_,_=>.fp g id off
 |x=>x
theorem Uc{l:List cc}{g v:ab}{b:Bool}:(ab.fN g b v).res l=match lq g l with
 |some c=>match decide (c=b)with
  |true=>v.res l
  |false=>.tp []
 |none=>.fN g b (v.res l):=by rw[ab.res]
theorem Ud{l:List cc}{g:ab}{id:Option Nat}{off:Nat}:(ab.fp g id off).res l=match lq g l,id with
 |some true,some id=>.ej id off
 |some false,_=>.cs (.pointer none)
 |_,_=>.fp g id off:=by
 cases aj:lq g l with
 |none=>simp only[ab.res,aj]
 |some b=>cases b<;>cases id<;>simp only[ab.res,aj]
theorem MD{G:bc}{e:Env}{l:List cc}(hc: ∀c∈l,c.ok e): ∀{x:ab},(x.res l).den G e=x.den G e
 | .fN g b v=>by
  have aZ:=MD (G:=G) hc (x:=v)
  rw[Uc]
  split
  ·rename_i c aj
   have:=qC aj hc
   split
   ·rename_i hd
    have hd:=of_decide_eq_true hd
    subst hd;rw[aZ];simp only[ab.den,this]
    cases c<;>rfl
   ·rename_i hd
    have hd:=of_decide_eq_false hd
    simp only[ab.den,this]
    cases c<;>cases b<;>first|rfl|exact absurd rfl hd
  ·simp only[ab.den,aZ]
 | .aV _ _=>rfl
 | .fd _ _ _ _=>rfl
 | .cs _=>rfl
 | .ip _ _ _=>rfl
 | .cr _=>rfl
 | .tp _=>rfl
 | .ej _ _=>rfl
 | .gR _ _ _=>rfl
 | .aP _=>rfl
 | .fn _ _ _=>rfl
 | .ha _=>rfl
 | .lU _ _=>rfl
 | .gY _ _ _ _=>rfl
 | .cM _ _=>rfl
 | .fp g id off=>by
  rw[Ud]
  cases aj:lq g l with
  |none=>rfl
  |some c=>
   have:=qC aj hc
   cases c with
   |true=>cases id with
    |none=>rfl
    |some id=>simp only[ab.den,this]
   |false=>simp only[ab.den,this]
 | .eB _ _ _ _=>rfl
 | .top=>rfl
theorem ME{l:List cc}{k:Nat}: ∀{x:ab},x.lt k=true→(x.res l).lt k=true
 | .fN g b v,h=>by
  simp only[ab.lt,Bool.and_eq_true]at h;rw[Uc]
  split
  ·split
   ·exact ME h.2
   ·rfl
  ·simp only[ab.lt,h.1,ME h.2,Bool.and_self]
 | .aV _ _,h=>h
 | .fd _ _ _ _,h=>h
 | .cs _,h=>h
 | .ip _ _ _,h=>h
 | .cr _,h=>h
 | .tp _,h=>h
 | .ej _ _,h=>h
 | .gR _ _ _,h=>h
 | .aP _,h=>h
 | .fn _ _ _,h=>h
 | .ha _,h=>h
 | .lU _ _,h=>h
 | .gY _ _ _ _,h=>h
 | .cM _ _,h=>h
 | .fp g id off,h=>by
  rw[Ud]
  cases lq g l with
  |none=>exact h
  |some c=>cases c with
   |true=>cases id with
    |none=>exact h
    |some id=>rfl
   |false=>rfl
 | .eB _ _ _ _,h=>h
 | .top,h=>h
def ar.a7(N:Nat)(S:ar):Operand→ab
 | .tmp t=>match Nat.blt t N with
  |true=>(S.at t).res S.g
  |false=>.top
 | .const v=>match v.oneCell' with
  |true=>.cs v
  |false=>.top
 | .global g=>.lU g 0
 | .func f=>.fn (.func f) [] []
section
variable {G:bc} {N B:Nat} {e:Env} {S:ar}
theorem bP(hf: ∀c∈S.g,c.ok e)(x:Operand):aL G (S.den G N B e) x=(S.a7 N x).den G e:=by
 cases x with
 |tmp t=>
  simp only[aL,ar.a7,List.getD_eq_getElem?_getD,vq]
  cases h:Nat.blt t N with
  |true=>
   have:t<N:=fa h
   simp[this,MD hf]
  |false=>
   have: ¬t<N:=fun h'=>by rw[jX h']at h;cases h
   simp[this,ab.den]
 |const v=>
  simp only[aL,ar.a7]
  cases v.oneCell'<;>simp[ab.den]
 |global g=>
  simp only[aL,ar.a7,ab.den]
  cases G g with
  |none=>rfl
  |some l=>simp
 |func f=>simp[aL,ar.a7,ab.den,ab.bX]
def ar.put(S:ar)(dst:Option Nat)(v:ab):ar:=
 match dst with
 |some d=>{S with l:=S.l.put d v}
 |none=>S
theorem MF(d:Nat)(v:ab)(l:bd ab):kk G e (l.put d v) 0 N=(kk G e l 0 N).set d (v.den G e):=by
 apply List.ext_getElem?
 intro j
 rw[oj,List.getElem?_set,oj,EX,Nat.zero_add,bd.h5]
 by_cases hd:d=j
 ·subst hd
  by_cases af:d<N<;>simp[af]
 ·simp[hd]
theorem ff(dst:Option Nat)(v:ab):(S.put dst v).den G N B e=(S.den G N B e).put dst (v.den G e):=by
 cases dst with
 |none=>rfl
 |some d=>simp only[ar.put,ar.den,aQ.put,MF]
theorem er: ∀(h:List (Nat × bO)) (id:Nat),aE (cF G e h) id=(dm h id).map (bO.den G e)
 |[],_=>rfl
 |(i,o)::r,id=>by
  simp only[cF,aE,dm,qz]
  by_cases h:i=id
  ·simp[h]
  ·simp only[h,if_false,decide_false]
   exact er r id
theorem tj: ∀(h:List (Nat × bO)) (id:Nat) (o:bO),cF G e (jz h id o)=eU (cF G e h) id (o.den G e)
 |[],_,_=>rfl
 |(i,p)::r,id,o=>by
  simp only[jz,cF,eU,qz]
  by_cases h:i=id
  ·simp[h,cF]
  ·simp only[h,decide_false,if_false,cF,tj r id o]
end
def bO.lt(k:Nat):bO→Bool
 | .dv _ l=>ab.cV k l
 | .rw _ _ x=>x.lt k
 | .it _ x p=>x.lt k&&p.lt k
def eM(k:Nat):List (Nat × bO)→Bool
 |[]=>true
 |(_,o)::r=>o.lt k&&eM k r
def cc.lt(k:Nat):cc→Bool
 | .d1 i _ x=>Nat.blt i k&&x.lt k
 | .d2 i _ x y=>Nat.blt i k&&(x.lt k&&y.lt k)
 | .rg i b=>Nat.blt i k&&b.lt k
 | .eb g _=>g.lt k
def fq(k:Nat):List cc→Bool
 |[]=>true
 |c::r=>c.lt k&&fq k r
structure ar.cB (S:ar):Prop where
 l: ∀i x,S.l.get i=some x→x.lt S.k=true
 h:eM S.k S.h=true
 g:fq S.k S.g=true
mutual
theorem gI{k m:Nat}(h:k≤m): ∀{x:ab},x.lt k=true→x.lt m=true:=fun {x} hx=>by
 cases x with
 |aV r i=>exact jX (Nat.lt_of_lt_of_le (fa hx) h)
 |fd c i j r=>exact jX (Nat.lt_of_lt_of_le (fa (i:=i) hx) h)
 |ip c i j=>exact jX (Nat.lt_of_lt_of_le (fa (i:=i) hx) h)
 |cr l=>exact vr (l:=l) h hx
 |tp l=>exact vr (l:=l) h hx
 |gR id x off=>exact gI (x:=x) h hx
 |gY id off x n=>exact gI (x:=x) h hx
 |fp g id off=>exact gI (x:=g) h hx
 |eB t a rs l=>exact vr h (l:=l) hx
 |fn f a b=>
  simp only[ab.lt,Bool.and_eq_true]at hx⊢;exact⟨vr h hx.1,vr h hx.2⟩
 |fN g b x=>
  simp only[ab.lt,Bool.and_eq_true]at hx⊢;exact⟨gI h hx.1,gI h hx.2⟩
 |_=>rfl
theorem vr{k m:Nat}(h:k≤m): ∀{l:List ab},ab.cV k l=true→ab.cV m l=true:=fun {l} aq=>by
 match l with
 |[]=>rfl
 |x::r=>
  simp only[ab.cV,Bool.and_eq_true]at aq⊢;exact⟨gI h aq.1,vr h aq.2⟩
end
theorem tk{k m:Nat}(h:k≤m): ∀{l:List (Nat × bO)},eM k l=true→eM m l=true
 |[],_=>rfl
 |(_,o)::r,aq=>by
  simp only[eM,Bool.and_eq_true]at aq⊢;refine⟨?_,tk h aq.2⟩
  cases o with
  |dv t l=>exact vr h (l:=l) aq.1
  |rw t c x=>exact gI h (x:=x) aq.1
  |it q x p=>
   have aa:=aq.1
   simp only[bO.lt,Bool.and_eq_true]at aa⊢;exact⟨gI h aa.1,gI h aa.2⟩
theorem om{k m:Nat}(h:k≤m): ∀{l:List cc},fq k l=true→fq m l=true
 |[],_=>rfl
 |c::r,aq=>by
  simp only[fq,Bool.and_eq_true]at aq⊢;refine⟨?_,om h aq.2⟩
  cases c with
  |d1 i f x=>
   have:=aq.1
   simp only[cc.lt,Bool.and_eq_true]at this⊢;exact⟨jX (Nat.lt_of_lt_of_le (fa this.1) h),gI h this.2⟩
  |d2 i f x y=>
   have:=aq.1
   simp only[cc.lt,Bool.and_eq_true]at this⊢;exact⟨jX (Nat.lt_of_lt_of_le (fa this.1) h),gI h this.2.1,gI h this.2.2⟩
  |rg i b=>
   have:=aq.1
   simp only[cc.lt,Bool.and_eq_true]at this⊢;exact⟨jX (Nat.lt_of_lt_of_le (fa this.1) h),gI h this.2⟩
  |eb g b=>exact gI h (x:=g) aq.1
section
variable {G:bc} {N B:Nat} {e az:Env} {S:ar} {k:Nat}
theorem xR(h:b2 k e az): ∀{l:List (Nat × bO)},eM k l=true→cF G az l=cF G e l
 |[],_=>rfl
 |(_,o)::r,aq=>by
  simp only[eM,Bool.and_eq_true]at aq;simp only[cF,xR h aq.2]
  congr 2
  cases o with
  |dv t l=>simp only[bO.den,xI h (l:=l) aq.1]
  |rw t c x=>simp only[bO.den,eK h (x:=x) aq.1]
  |it q x p=>
   have aa:=aq.1
   simp only[bO.lt,Bool.and_eq_true]at aa;simp only[bO.den,eK h (x:=x) aa.1,eK h (x:=p) aa.2]
theorem lr(h:b2 S.k e az)(ad:S.cB):S.den G N B az=S.den G N B e:=by
 simp only[ar.den,aQ.mk.injEq,and_true,true_and]
 refine⟨?_,xR h ad.h⟩
 apply List.ext_getElem?
 intro j
 rw[oj,oj]
 by_cases af:j<N
 ·simp only[af,if_true,Option.some.injEq]
  cases ah:S.l.get (0+j)with
  |none=>rfl
  |some x=>exact ta h (ad.l _ x ah)
 ·simp[af]
theorem iu(h:b2 k e az): ∀{l:List cc},fq k l=true→(∀c∈l,c.ok e)→∀c∈l,c.ok az
 |[],_,_,_,hc=>by cases hc
 |d::r,aq,hf,c,hc=>by
  simp only[fq,Bool.and_eq_true]at aq
  rcases List.mem_cons.1 hc with rfl|hc
  ·have aJ:=hf c (by simp)
   cases c with
   |d1 i f x=>
    have aa:=aq.1
    simp only[cc.lt,Bool.and_eq_true]at aa;simp only[cc.ok]at aJ⊢;rw[h i (fa aa.1),eK h aa.2];exact aJ
   |d2 i f x y=>
    have aa:=aq.1
    simp only[cc.lt,Bool.and_eq_true]at aa;simp only[cc.ok]at aJ⊢;rw[h i (fa aa.1),eK h aa.2.1,eK h aa.2.2];exact aJ
   |rg i b=>
    have aa:=aq.1
    simp only[cc.lt,Bool.and_eq_true]at aa;simp only[cc.ok]at aJ⊢;rw[h i (fa aa.1),rP h aa.2];exact aJ
   |eb g b=>
    simp only[cc.ok]at aJ⊢;rw[eK h (x:=g) aq.1];exact aJ
  ·exact iu h aq.2 (fun c hc=>hf c (by simp[hc])) c hc
theorem EY(ad:S.cB)(x:Operand):(S.a7 N x).lt S.k=true:=by
 cases x with
 |tmp t=>
  simp only[ar.a7]
  split
  ·refine ME ?_
   unfold ar.at
   split
   ·rename_i x hx;exact ad.l _ x hx
   ·rfl
  ·rfl
 |const v=>simp only[ar.a7];split<;>rfl
 |global g=>rfl
 |func f=>rfl
end
def bT.lt(k:Nat):bT→Bool
 | .rR _ x=>x.lt k
 | .f1 _ x=>x.lt k
 | .f2 _ x y=>x.lt k&&y.lt k
 | .eG _ x lo hi=>x.lt k&&(ab.cV k lo.toList&&ab.cV k hi.toList)
 | .vo x lo hi=>x.lt k&&(ab.cV k lo.toList&&ab.cV k hi.toList)
 | .ES _ g x y=>g.lt k&&(x.lt k&&y.lt k)
 | .Bf _ _ l m=>ab.cV k l&&ab.cV k m
 | .qA _ l=>ab.cV k l
 | .up _ l i x=>l.lt k&&(i.lt k&&x.lt k)
 | .nth _ l i=>ab.cV k l&&i.lt k
 | .ET _ x=>x.lt k
 | .EU _ _=>true
 | .EV _ _ m x y=>m.lt k&&(x.lt k&&y.lt k)
 | .xM _ _ m x=>m.lt k&&x.lt k
 | .vp _ _ m x=>m.lt k&&x.lt k
 | .ca _ l=>ab.cV k l
 | .rS _ p _=>Nat.blt p k
section
variable {e az:Env} {k:Nat}
theorem xS(h:b2 k e az): ∀{rs:List aW} {l:List ab},ab.cV k l=true→gH az rs l=gH e rs l
 |[],_,_=>by simp[gH]
 |_::_,[],_=>by simp[gH]
 |r::rs,x::xs,hx=>by
  simp only[ab.cV,Bool.and_eq_true]at hx;simp only[gH,vl h hx.1,xS h hx.2]
theorem EZ(h:b2 k e az){o:Option ab}(ao:ab.cV k o.toList=true):mI az o=mI e o:=by
 cases o with
 |none=>rfl
 |some x=>
  simp only[Option.toList,ab.cV,Bool.and_true]at ao;simp only[mI,rP h ao]
theorem Ue(h:b2 k e az): ∀{rs:List aW} {l m:List ab},ab.cV k l=true→ab.cV k m=true→kN az rs l m=kN e rs l m
 |[r],[x],[y],aq,hm=>by
  simp only[ab.cV,Bool.and_eq_true]at aq hm;simp only[kN,eK h aq.1,eK h hm.1]
 |r::s::rs,x::xs,y::ys,aq,hm=>by
  simp only[ab.cV,Bool.and_eq_true]at aq hm
  have:=Ue h (rs:=s::rs) aq.2 hm.2
  cases xs<;>cases ys<;>simp only[kN,eK h aq.1,eK h hm.1,this]
 |[r],x::iP::xs,y::ys,aq,hm=>by
  simp only[ab.cV,Bool.and_eq_true]at aq hm;simp only[kN,eK h aq.1,eK h hm.1]
 |[r],[x],y::s5::ys,aq,hm=>by
  simp only[ab.cV,Bool.and_eq_true]at aq hm;simp only[kN,eK h aq.1,eK h hm.1]
 |[],_,_,_,_=>by simp[kN]
 |_::_,[],_,_,_=>by simp[kN]
 |_::_,_::_,[],_,_=>by simp[kN]
theorem Uf(h:b2 k e az){c:bR}: ∀{l:List ab},ab.cV k l=true→mJ az c l=mJ e c l
 |[],_=>rfl
 |x::r,aq=>by
  simp only[ab.cV,Bool.and_eq_true]at aq;simp only[mJ,vl h aq.1,Uf h aq.2]
theorem Ug(h:b2 k e az){r:aW}: ∀{l:List ab} {n:Nat},ab.cV k l=true→te az r l n=te e r l n
 |[],_,_=>rfl
 |[x],_,aq=>by
  simp only[ab.cV,Bool.and_eq_true]at aq;simp only[te,eK h aq.1]
 |x::y::l,n,aq=>by
  simp only[ab.cV,Bool.and_eq_true]at aq
  have:=Ug h (l:=y::l) (n:=n-1) (r:=r) (by simp only[ab.cV,Bool.and_eq_true];exact aq.2)
  simp only[te,eK h aq.1,this]
theorem zgW(M:List aS)(h:b2 k e az){x:bT}(hx:x.lt k=true):x.den M az=x.den M e:=by
 cases x with
 |rR r x=>simp only[bT.den,vl h (x:=x) hx]
 |f1 f x=>simp only[bT.den,eK h (x:=x) hx]
 |f2 f x y=>
  simp only[bT.lt,Bool.and_eq_true]at hx;simp only[bT.den,eK h hx.1,eK h hx.2]
 |eG c x lo hi=>
  simp only[bT.lt,Bool.and_eq_true]at hx;simp only[bT.den,eK h hx.1,EZ h hx.2.1,EZ h hx.2.2]
 |vo x lo hi=>
  simp only[bT.lt,Bool.and_eq_true]at hx;simp only[bT.den,eK h hx.1,EZ h hx.2.1,EZ h hx.2.2]
 |ES r g x y=>
  simp only[bT.lt,Bool.and_eq_true]at hx;simp only[bT.den,eK h hx.1,vl h hx.2.1,vl h hx.2.2]
 |Bf n rs l m=>
  simp only[bT.lt,Bool.and_eq_true]at hx;simp only[bT.den,Ue h hx.1 hx.2]
 |qA c l=>simp only[bT.den,Uf h (l:=l) hx]
 |ET c x=>simp only[bT.den,eK h (x:=x) hx]
 |EU r s=>rfl
 |EV r s m x y=>
  simp only[bT.lt,Bool.and_eq_true]at hx;simp only[bT.den,eK h hx.1,eK h hx.2.1,vl h hx.2.2]
 |xM r s m x=>
  simp only[bT.lt,Bool.and_eq_true]at hx;simp only[bT.den,eK h hx.1,eK h hx.2]
 |vp r s m x=>
  simp only[bT.lt,Bool.and_eq_true]at hx;simp only[bT.den,eK h hx.1,eK h hx.2]
 |up c l i x=>
  simp only[bT.lt,Bool.and_eq_true]at hx;simp only[bT.den,eK h hx.1,rP h hx.2.1,vl h hx.2.2]
 |nth r l i=>
  simp only[bT.lt,Bool.and_eq_true]at hx;simp only[bT.den,Ug h hx.1,rP h hx.2]
 |ca j l=>simp only[bT.den,xS h (l:=l) hx]
 |rS rs p i=>simp only[bT.den,h p (fa hx)]
end
end Go.aN
namespace Go.aN
open Go
section
variable {P:Program} {G:bc} {o:Oper} {s:aQ}
theorem cY.sub{v bo:aD}(h:cY P G o s v)(ai:Sub v bo):cY P G o s bo:=fun E a w β ro ag=>by
 obtain⟨c,aa,ae⟩:=h E a w β ro ag
 exact⟨c,aa,ai _ _ _ _ _ _ ae⟩
def MG(op:BinOp)(k bs:IntKind):Bool:=
 match op with
 | .add=>decide (k=bs)
 | .sub=>decide (k=bs)
 | .mul=>decide (k=bs)
 | .quo=>decide (k=bs)
 | .rem=>decide (k=bs)
 | .and=>decide (k=bs)
 | .or=>decide (k=bs)
 | .xor=>decide (k=bs)
 | .shl=>true
 | .shr=>true
 |_=>false
def xT:BinOp→Bool
 | .eql=>true
 | .neq=>true
 | .lss=>true
 | .leq=>true
 | .gtr=>true
 | .geq=>true
 |_=>false
theorem zgX{op:BinOp}{cE ty:TypeId}{x y:Operand}{k bs:IntKind}{a b:Int}(ao:o.op= .binOp op cE x y ty)(hx:aL G s x= .av (.v (.int k a)))(ay:aL G s y= .av (.v (.int bs b)))(h:MG op k bs=true)(hn:EP op b):
 cY P G o s (.av (.v (.int k (bn op k a b)))):=by
 cases op<;>simp only[MG,Bool.false_eq_true,decide_eq_true_eq]at h
 case add=>subst h;exact o7 _ cE ty x y ao hx ay (by simp[kc,bn])
 case sub=>subst h;exact o7 _ cE ty x y ao hx ay (by simp[kc,bn])
 case mul=>subst h;exact o7 _ cE ty x y ao hx ay (by simp[kc,bn])
 case quo=>subst h;exact o7 _ cE ty x y ao hx ay (by have: ¬b=0:=hn;simp[kc,bn,this])
 case rem=>subst h;exact o7 _ cE ty x y ao hx ay (by have: ¬b=0:=hn;simp[kc,bn,this])
 case and=>subst h;exact xE cE ty x y ao hx ay fun w=>by simp[binOp,Op.intBits,bn,aN.lD]
 case or=>subst h;exact xE cE ty x y ao hx ay fun w=>by simp[binOp,Op.intBits,bn,aN.kU]
 case xor=>subst h;exact xE cE ty x y ao hx ay fun w=>by simp[binOp,Op.intBits,bn,aN.jH]
 case shl=>exact o7 _ cE ty x y ao hx ay (by have hn:0≤b:=hn;have: ¬b<0:=(by omega);simp[kc,bn,this])
 case shr=>exact o7 _ cE ty x y ao hx ay (by have hn:0≤b:=hn;have: ¬b<0:=(by omega);simp[kc,bn,this])
theorem zgY{op:BinOp}{cE ty:TypeId}{x y:Operand}{k:IntKind}{a b:Int}(ao:o.op= .binOp op cE x y ty)(hx:aL G s x= .av (.v (.int k a)))(ay:aL G s y= .av (.v (.int k b)))(h:xT op=true):
 cY P G o s (.av (.v (.bool (Be op a b)))):=by
 cases op<;>simp only[xT,Bool.false_eq_true]at h
 all_goals exact o7 _ cE ty x y ao hx ay (by simp[kc,Eb,Be])
theorem zgZ{op:BinOp}{cE ty:TypeId}{x y:Operand}{a b:ByteArray}(ao:o.op= .binOp op cE x y ty)(hx:aL G s x= .av (.v (.string a)))(ay:aL G s y= .av (.v (.string b)))(h:xT op=true):
 cY P G o s (.av (.v (.bool (cf op a b)))):=by
 cases op<;>simp only[xT,Bool.false_eq_true]at h
 all_goals exact o7 _ cE ty x y ao hx ay (by simp[kc,cf])
def Bj(G:bc)(s:aQ)(o:Option Operand)(z:Option Int):Prop:=
 match o,z with
 |none,none=>True
 |some y,some z=>∃k,aL G s y= .av (.v (.int k z))
 |_,_=>False
theorem Uh(i:bR)(ls:List (fS i)){t:TypeId}{x:Operand}{lo hi:Option Operand}{pw lV:Option Int}(ao:o.op= .slice t x lo hi none)(aH:ke P t=some (b4 i))(hx:aL G s x= .av (.li i ls))(aB:Bj G s lo pw)(bl:Bj G s hi lV)
 (hn:iC ls.length pw lV):mG P G o s (.av (.li i (ih ls pw lV))):=by
 cases lo with
 |none=>
  cases pw with
  |some _=>exact aB.elim
  |none=>
  cases hi with
  |none=>
   cases lV with
   |some _=>exact bl.elim
   |none=>
   have:=EL i ls (l:=0) (h:=ls.length) ao aH hx (.inl ⟨rfl,rfl⟩) (.inl ⟨rfl,rfl⟩) (Nat.zero_le _) (Nat.le_refl _)
   rw[List.take_length,List.drop_zero]at this;exact this
  |some y=>
   cases lV with
   |none=>exact bl.elim
   |some h=>
   obtain⟨k,ay⟩:=bl
   have hn:0≤h∧h≤(ls.length:Int):=hn
   obtain⟨n,rfl⟩: ∃n:Nat,h=(n:Int):=⟨h.toNat,by omega⟩
   have:=EL i ls (l:=0) (h:=n) ao aH hx (.inl ⟨rfl,rfl⟩) (.inr ⟨y,k,rfl,ay⟩) (Nat.zero_le _) (by omega)
   rw[List.drop_zero]at this;exact this
 |some y=>
  cases pw with
  |none=>exact aB.elim
  |some a=>
  obtain⟨k,ay⟩:=aB
  cases hi with
  |none=>
   cases lV with
   |some _=>exact bl.elim
   |none=>
   have hn:0≤a∧a≤(ls.length:Int):=hn
   obtain⟨n,rfl⟩: ∃n:Nat,a=(n:Int):=⟨a.toNat,by omega⟩
   have:=EL i ls (l:=n) (h:=ls.length) ao aH hx (.inr ⟨y,k,rfl,ay⟩) (.inl ⟨rfl,rfl⟩) (by omega) (Nat.le_refl _)
   rw[List.take_length]at this;exact this
  |some rX=>
   cases lV with
   |none=>exact bl.elim
   |some h=>
   obtain⟨gM,MH⟩:=bl
   have hn:0≤a∧a≤h∧h≤(ls.length:Int):=hn
   obtain⟨n,rfl⟩: ∃n:Nat,a=(n:Int):=⟨a.toNat,by omega⟩
   obtain⟨m,rfl⟩: ∃n:Nat,h=(n:Int):=⟨h.toNat,by omega⟩
   exact EL i ls (l:=n) (h:=m) ao aH hx (.inr ⟨y,k,rfl,ay⟩) (.inr ⟨rX,gM,rfl,MH⟩) (by omega) (by omega)
theorem zg0(b:ByteArray){t:TypeId}{x:Operand}{lo hi:Option Operand}{pw lV:Option Int}(ao:o.op= .slice t x lo hi none)(aH:P.underlying t=some .string)(hx:aL G s x= .av (.v (.string b)))(aB:Bj G s lo pw)(bl:Bj G s hi lV)
 (hn:iC b.size pw lV):cY P G o s (.av (.v (.string (kF b pw lV)))):=by
 cases lo with
 |none=>
  cases pw with
  |some _=>exact aB.elim
  |none=>
  cases hi with
  |none=>
   cases lV with
   |some _=>exact bl.elim
   |none=>exact Er t x none none ao aH hx (l:=0) (h:=b.size) (.inl ⟨rfl,rfl⟩) (.inl ⟨rfl,rfl⟩) (Nat.zero_le _) (Nat.le_refl _)
  |some y=>
   cases lV with
   |none=>exact bl.elim
   |some h=>
   obtain⟨k,ay⟩:=bl
   have hn:0≤h∧h≤(b.size:Int):=hn
   obtain⟨n,rfl⟩: ∃n:Nat,h=(n:Int):=⟨h.toNat,by omega⟩
   exact Er t x none _ ao aH hx (l:=0) (h:=n) (.inl ⟨rfl,rfl⟩) (.inr ⟨y,k,rfl,ay⟩) (Nat.zero_le _) (by omega)
 |some y=>
  cases pw with
  |none=>exact aB.elim
  |some a=>
  obtain⟨k,ay⟩:=aB
  cases hi with
  |none=>
   cases lV with
   |some _=>exact bl.elim
   |none=>
   have hn:0≤a∧a≤(b.size:Int):=hn
   obtain⟨n,rfl⟩: ∃n:Nat,a=(n:Int):=⟨a.toNat,by omega⟩
   exact Er t x _ none ao aH hx (l:=n) (h:=b.size) (.inr ⟨y,k,rfl,ay⟩) (.inl ⟨rfl,rfl⟩) (by omega) (Nat.le_refl _)
  |some rX=>
   cases lV with
   |none=>exact bl.elim
   |some h=>
   obtain⟨gM,MH⟩:=bl
   have hn:0≤a∧a≤h∧h≤(b.size:Int):=hn
   obtain⟨n,rfl⟩: ∃n:Nat,a=(n:Int):=⟨a.toNat,by omega⟩
   obtain⟨m,rfl⟩: ∃n:Nat,h=(n:Int):=⟨h.toNat,by omega⟩
   exact Er t x _ _ ao aH hx (l:=n) (h:=m) (.inr ⟨y,k,rfl,ay⟩) (.inr ⟨rX,gM,rfl,MH⟩) (by omega) (by omega)
end
def E0(P:Program)(t:TypeId):Option aW:=
 match P.underlying t with
 |some (.int k)=>some (.int k)
 |some .bool=>some .bool
 |some .string=>some .str
 |_=>none
def px(P:Program):Nat→Nat→List Field→Option (List aW)
 |0,_,_=>none
 |_+1,_,[]=>some []
 |d+1,k,f::fs=>
  if f.name= "_" ||f.offset != k then none
  else match na P f.type with
   |some gs=>match P.info? f.type with
    |some inf=>match px P d 0 gs,px P d (k+inf.size) fs with
     |some a,some b=>match Nat.beq a.length inf.size with
      |true=>some (a++b)
      |false=>none
     |_,_=>none
    |none=>none
   |none=>match E0 P f.type with
    |some r=>match px P d (k+1) fs with
     |some l=>some (r::l)
     |none=>none
    |none=>none
def tl:(r:aW)→r.den→Value
 | .int k,n=>.int k n
 | .bool,b=>.bool b
 | .str,x=>.string x
 |_,_=>undef
def aW.cmp:aW→Bool
 | .int _=>true
 | .bool=>true
 | .str=>true
 |_=>false
def Bk(d:aF):Value:=tl d.r d.v
def nw:List aF→List aF→Bool
 |d::ds,c::cs=>rT d.r d.v (c.aG d.r)&&nw ds cs
 |_,_=>true
theorem zg1{P:Program}{t:TypeId}{r:aW}(h:E0 P t=some r)(x y:r.den):rA P t (tl r x)=true∧m9 (tl r x) (tl r y)=some (rT r x y):=by
 unfold E0 at h
 split at h
 ·rename_i k hu;cases h;simp[tl,rA,hu,m9,rT]
 ·rename_i hu;cases h;simp[tl,rA,hu,m9,rT]
 ·rename_i hu;cases h;simp[tl,rA,hu,m9,rT]
 ·cases h
theorem Ui: ∀{a c:List aF} (b d:List aF),a.length=c.length→nw (a++b) (c++d)=(nw a c&&nw b d)
 |[],[],_,_,_=>by simp[nw]
 |x::a,y::c,b,d,h=>by
  simp only[List.cons_append,nw,Ui (a:=a) (c:=c) b d (by simpa using h),Bool.and_assoc]
 |[],_::_,_,_,h=>by cases h
 |_::_,[],_,_,h=>by cases h
theorem E1{P:Program}: ∀(d k:Nat) (fs:List Field) (rs:List aW),px P d k fs=some rs→∀(aG cM:List aF),aG.map aF.r=rs→cM.map aF.r=rs→ql P d k fs (aG.map Bk) (cM.map Bk)=some (nw aG cM)
 |0,_,_,_,h,_,_,_,_=>by cases h
 |d+1,k,[],rs,h,aG,cM,aY,ad=>by
  simp only[px,Option.some.injEq]at h;subst h
  cases mF aY
  cases mF ad
  rfl
 |d+1,k,f::fs,rs,h,aG,cM,aY,ad=>by
  simp only[px]at h;simp only[ql]
  split at h
  ·cases h
  ·rename_i hc
   rw[if_neg hc]
   cases ai:na P f.type with
   |some gs=>
    rw[ai]at h;simp only at h⊢
    cases hi:P.info? f.type with
    |none=>rw[hi]at h;cases h
    |some inf=>
     rw[hi]at h;simp only at h⊢
     split at h
     ·rename_i u v aa ae
      split at h
      ·rename_i aq
       simp only[Option.some.injEq]at h;subst h
       have aq:=Nat.eq_of_beq_eq_true aq
       have Uj:(aG.take inf.size).map aF.r=u:=by rw[List.map_take,aY,←aq,List.take_left]
       have zg2:(aG.drop inf.size).map aF.r=v:=by rw[List.map_drop,aY,←aq,List.drop_left]
       have tb:(cM.take inf.size).map aF.r=u:=by rw[List.map_take,ad,←aq,List.take_left]
       have zg3:(cM.drop inf.size).map aF.r=v:=by rw[List.map_drop,ad,←aq,List.drop_left]
       rw[←List.map_take,←List.map_take,←List.map_drop,←List.map_drop,E1 d 0 gs u aa _ _ Uj tb,E1 d _ fs v ae _ _ zg2 zg3];simp only[Option.some.injEq];rw[←Ui _ _ (by have aa:=congrArg List.length Uj;have ae:=congrArg List.length tb;simp only[List.length_map]at aa ae;omega),List.take_append_drop,List.take_append_drop]
      ·cases h
     ·cases h
   |none=>
    rw[ai]at h;simp only at h⊢
    split at h
    ·rename_i r ag
     split at h
     ·rename_i l aq
      simp only[Option.some.injEq]at h;subst h;obtain⟨a,zl7,rfl,Uk,zc⟩:=lS aY;obtain⟨b,zl8,rfl,iq,pf⟩:=lS ad;obtain⟨zl9,aV⟩:=a;obtain⟨zma,tW⟩:=b;simp only at Uk iq;subst Uk;subst iq;obtain⟨g1,g2⟩:=zg1 ag aV tW;simp only[List.map_cons,Bk,g1,g2,if_true,nw,cH];rw[E1 d _ fs l aq _ _ zc pf]
     ·cases h
    ·cases h
theorem E2{P:Program}: ∀(d k:Nat) (fs:List Field) (rs:List aW),px P d k fs=some rs→∀r∈rs,r.cmp=true
 |0,_,_,_,h,_,_=>by cases h
 |d+1,k,[],rs,h,r,ag=>by
  simp only[px,Option.some.injEq]at h;subst h;cases ag
 |d+1,k,f::fs,rs,h,r,ag=>by
  simp only[px]at h
  split at h
  ·cases h
  ·cases ai:na P f.type with
   |some gs=>
    rw[ai]at h;simp only at h
    cases hi:P.info? f.type with
    |none=>rw[hi]at h;cases h
    |some inf=>
     rw[hi]at h;simp only at h
     split at h
     ·rename_i u v aa ae
      split at h
      ·simp only[Option.some.injEq]at h
       subst h
       rcases List.mem_append.1 ag with q|q
       ·exact E2 d 0 gs u aa r q
       ·exact E2 d _ fs v ae r q
      ·cases h
     ·cases h
   |none=>
    rw[ai]at h;simp only at h
    split at h
    ·rename_i eY ed
     split at h
     ·rename_i l aq
      simp only[Option.some.injEq]at h;subst h
      rcases List.mem_cons.1 ag with rfl|q
      ·unfold E0 at ed
       split at ed<;>first|(cases ed;rfl)|cases ed
      ·exact E2 d _ fs l aq r q
     ·cases h
    ·cases h
theorem zg4{r:aW}(h:r.cmp=true)(x:r.den):fL r x= .v (tl r x):=by
 cases r<;>first|rfl|cases h
theorem Bl{G:bc}{e:Env}: ∀{rs:List aW} {l:List ab},hz rs l=true→(∀r∈rs,r.cmp=true)→hH (ab.bX G e l)=some ((fX e rs l).map Bk)
 |[],[],_,_=>rfl
 |[],_::_,h,_=>by cases h
 |_::_,[],h,_=>by cases h
 |r::rs,x::xs,h,hc=>by
  simp only[hz,Bool.and_eq_true]at h
  have aa:x.den G e= .av (fL r (x.aA e r)):=xJ h.1 (by have:=hc r (by simp);cases r<;>first|rfl|cases this)
  simp only[ab.bX,fX,aa,zg4 (hc r (by simp)),hH,Bl h.2 fun r ag=>hc r (by simp[ag]),List.map_cons,Bk]
theorem Ul{e:Env}: ∀{rs:List aW} {l m:List ab},hz rs l=true→hz rs m=true→kN e rs l m=nw (fX e rs l) (fX e rs m)
 |[],[],[],_,_=>rfl
 |[],_::_,_,h,_=>by cases h
 |[],[],_::_,_,h=>by cases h
 |_::_,[],_,h,_=>by cases h
 |_::_,_::_,[],_,h=>by cases h
 |[r],[x],[y],_,_=>by simp[kN,fX,nw,cH]
 |[r],x::iP::xs,_::_,h,_=>by simp[hz]at h
 |[r],[x],y::s5::ys,_,h=>by simp[hz]at h
 |r::s::rs,x::xs,y::ys,h,h'=>by
  simp only[hz,Bool.and_eq_true]at h h'
  have:=Ul (e:=e) (rs:=s::rs) (l:=xs) (m:=ys) h.2 h'.2
  cases xs with
  |nil=>simp[hz]at h
  |cons iP xs=>
   cases ys with
   |nil=>simp[hz]at h'
   |cons s5 ys=>
    have au:nw (fX e (r::s::rs) (x::iP::xs)) (fX e (r::s::rs) (y::s5::ys))=(rT r (x.aA e r) (y.aA e r)&&nw (fX e (s::rs) (iP::xs)) (fX e (s::rs) (s5::ys))):=by
     simp only[fX,nw,cH]
    rw[au,←this];simp only[kN]
    cases rT r (x.aA e r) (y.aA e r)<;>rfl
section
variable {P:Program} {G:bc} {o:Oper} {N B:Nat} {e:Env} {S:ar}
theorem Um(hf: ∀c∈S.g,c.ok e){n:Bool}{op:BinOp}(Bm:op=bif n then .neq else .eql){cE ty:TypeId}{x y:Operand}(ao:o.op= .binOp op cE x y ty){fs:List Field}{rs:List aW}(h:na P cE=some fs)(ag:px P 64 0 fs=some rs){l m:List ab}(hx:S.a7 N x= .cr l)(ay:S.a7 N y= .cr m)
 (aq:hz rs l=true)(hm:hz rs m=true):cY P G o (S.den G N B e) (.av (.v (.bool (bif n then !kN e rs l m else kN e rs l m)))):=by
 have hc:=E2 64 0 fs rs ag
 have fA:aL G (S.den G N B e) x= .agg (ab.bX G e l):=by rw[bP hf,hx];rfl
 have mL:aL G (S.den G N B e) y= .agg (ab.bX G e m):=by rw[bP hf,ay];rfl
 have ad:=E1 64 0 fs rs ag _ _ (Bb G e aq).1 (Bb G e hm).1
 rw[←Ul aq hm]at ad
 cases n with
 |true=>
  subst Bm;exact SO cE ty x y ao h fA mL (Bl aq hc) (Bl hm hc) ad
 |false=>
  subst Bm;exact SN cE ty x y ao h fA mL (Bl aq hc) (Bl hm hc) ad
end
end Go.aN
