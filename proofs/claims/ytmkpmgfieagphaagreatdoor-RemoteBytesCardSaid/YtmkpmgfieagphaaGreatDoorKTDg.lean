/- TD, part B: expressions, needs, states, trees: what they are and what they stand for. Conditions: none. -/
import Derived.Test.YtmkpmgfieagphaaGreatDoorKTDa
namespace Go.aL
open Go
inductive gG where
 |n6
 |iU (c:bL)
 |pa (k bk:IntKind)
 |nf
 |Ar (k:IntKind)
 |uM (k:IntKind)
 |cC
 |xm
 deriving DecidableEq
@[reducible] def gG.a:gG→aV
 | .n6=>.str
 | .iU c=>.li c
 | .pa k _=>.int k
 | .nf=>.bool
 | .Ar k=>.int k
 | .uM k=>.int k
 | .cC=>.li .u8
 | .xm=>.str
@[reducible] def gG.c:gG→aV
 | .n6=>.int .i64
 | .iU _=>.int .i64
 | .pa _ bk=>.int bk
 | .nf=>.bool
 | .Ar k=>.int k
 | .uM k=>.int k
 | .cC=>.str
 | .xm=>.li .u8
def gG.den:(f:gG)→f.a.den→f.c.den
 | .n6,x=>(ByteArray.size x:Int)
 | .iU _,x=>(List.length x:Int)
 | .pa _ bk,x=>bk.wrap x
 | .nf,x=>!x
 | .Ar k,x=>k.wrap (0-x)
 | .uM k,x=>jE k (if k.signed then -1 else k.max) x
 | .cC,x=>bytesOf x
 | .xm,x=>(ByteArray.data x).toList.map fun u=>(u.toNat:Int)
def bA(op:BinOp)(k:IntKind)(a b:Int):Int:=
 match op with
 | .add=>k.wrap (a+b)
 | .sub=>k.wrap (a-b)
 | .mul=>k.wrap (a*b)
 | .quo=>k.wrap (a.tdiv b)
 | .rem=>a.tmod b
 | .shl=>k.wrap (a*2^(min b.toNat k.bits))
 | .shr=>a.fdiv (2^(min b.toNat k.bits))
 | .and=>lA k a b
 | .or=>kS k a b
 | .xor=>jE k a b
 |_=>0
def D1(op:BinOp)(b:Int):Prop:=
 match op with
 | .quo=>b≠0
 | .rem=>b≠0
 | .shl=>0≤b
 | .shr=>0≤b
 |_=>True
def As(op:BinOp)(a b:Int):Bool:=
 match op with
 | .eql=>a==b
 | .neq=>a != b
 | .lss=>decide (a<b)
 | .leq=>decide (a≤b)
 | .gtr=>decide (a>b)
 |_=>decide (a≥b)
def cN(op:BinOp)(a b:ByteArray):Bool:=
 match op with
 | .eql=>dF a b
 | .neq=>!dF a b
 | .lss=>rA a b
 | .leq=>rA a b||dF a b
 | .gtr=>!(rA a b||dF a b)
 |_=>!rA a b
inductive cD where
 |ju (op:BinOp) (k bk:IntKind)
 |ph (op:BinOp) (k:IntKind)
 |mA (op:BinOp)
 |nN (n:Bool)
 |td
 |uN (k:IntKind)
 |mx (k:IntKind)
 |kc (c:bL) (k:IntKind)
 |rR (k:IntKind)
 |ap (c:bL)
 |l7
 |l9
 |l8
 |kY
 |xn
 deriving DecidableEq
@[reducible] def cD.a:cD→aV
 | .ju _ k _=>.int k
 | .ph _ k=>.int k
 | .mA _=>.str
 | .nN _=>.bool
 | .td=>.str
 | .uN k=>.int k
 | .mx k=>.int k
 | .kc c _=>.li c
 | .rR _=>.str
 | .ap c=>.li c
 | .l7=>.str
 | .l9=>.str
 | .l8=>.str
 | .kY=>.str
 | .xn=>.str
@[reducible] def cD.b:cD→aV
 | .ju _ _ bk=>.int bk
 | .ph _ k=>.int k
 | .mA _=>.str
 | .nN _=>.bool
 | .td=>.str
 | .uN k=>.int k
 | .mx k=>.int k
 | .kc _ k=>.int k
 | .rR k=>.int k
 | .ap c=>.li c
 | .l7=>.int .i64
 | .l9=>.int .i64
 | .l8=>.int .i64
 | .kY=>.int .i64
 | .xn=>.int .u8
@[reducible] def cD.c:cD→aV
 | .ju _ k _=>.int k
 | .ph _ _=>.bool
 | .mA _=>.bool
 | .nN _=>.bool
 | .td=>.str
 | .uN k=>.int k
 | .mx k=>.int k
 | .kc c _=>.st c
 | .rR _=>.int .u8
 | .ap c=>.li c
 | .l7=>.bool
 | .l9=>.int .i64
 | .l8=>.int .i32
 | .kY=>.int .i64
 | .xn=>.int .i64
def D2(b:ByteArray)(c:Int):Int:=
 match(List.range b.size).find? fun i=>b[i]! ==c.toNat.toUInt8 with
 |some i=>(i:Int)
 |none=> -1
def cD.den:(f:cD)→f.a.den→f.b.den→f.c.den
 | .ju op k _,x,y=>bA op k x y
 | .ph op _,x,y=>As op x y
 | .mA op,x,y=>cN op x y
 | .nN n,x,y=>bif n then !(x==y)else x==y
 | .td,x,y=>ByteArray.append x y
 | .uN _,x,y=>if y<x then y else x
 | .mx _,x,y=>if y>x then y else x
 | .kc c _,x,y=>List.getD x (Int.toNat y) (aA c)
 | .rR _,x,y=>ej x y
 | .ap _,x,y=>List.append x y
 | .l7,x,y=>decide (Int.toNat y<ByteArray.size x)
 | .l9,_,y=>(Int.toNat y:Int)
 | .l8,x,y=>((Utf8.decode x (Int.toNat y)).1:Int)
 | .xn,x,y=>D2 x y
 | .kY,x,y=>((Int.toNat y+(Utf8.decode x (Int.toNat y)).2:Nat):Int)
def cD.vh(bytes:Nat):(f:cD)→f.a.den→f.b.den→Prop
 | .ju op _ _,_,y=>D1 op y
 | .td,x,y=>ByteArray.size x+ByteArray.size y≤9223372036854775807
 | .kc _ _,x,y=>0≤y∧y<(List.length x:Int)
 | .rR _,x,y=>0≤y∧y<(ByteArray.size x:Int)
 | .ap _,x,y=>List.length x+List.length y≤maxLen∧(List.length x+List.length y)*bytes≤140737488355328
 |_,_,_=>True
@[reducible] def fc:List aV→aV
 |[]=>.un
 |[r]=>r
 |r::s::l=>.Ah r (fc (s::l))
def b9:(rs:List aV)→List aF→(fc rs).den
 |[],_=>()
 |[r],d::_=>d.aG r
 |[r],[]=>r.fz
 |r::s::l,d::ds=>(d.aG r,b9 (s::l) ds)
 |r::s::l,[]=>(r.fz,b9 (s::l) [])
def dy:(rs:List aV)→(fc rs).den→List aF
 |[],_=>[]
 |[r],x=>[⟨r,x⟩]
 |r::s::l,x=>⟨r,x.1⟩::dy (s::l) x.2
structure aR where
 ps:List aV
 rs:List aV
 pre:Option ((fc ps).den→Prop)
 m:(fc ps).den→(fc rs).den
def aR.d:aR:=⟨[],[],none,fun x=>x⟩
def eU{α:Type _}(d:α):List α→Nat→α
 |[],_=>d
 |x::r,n=>match Nat.beq n 0 with
  |true=>x
  |false=>eU d r (Nat.sub n 1)
def gD(e:Env):List aV→List ab→List aF
 |r::rs,x::xs=>⟨r,x.get e r⟩::gD e rs xs
 |_,_=>[]
inductive bK where
 |rS (r:aV) (x:ab)
 |f1 (f:gG) (x:ab)
 |f2 (f:cD) (x y:ab)
 |eC (c:bL) (x:ab) (lo hi:Option ab)
 |vi (x:ab) (lo hi:Option ab)
 |D3 (r:aV) (g x y:ab)
 |At (n:Bool) (rs:List aV) (l m:List ab)
 |qD (c:bL) (rows:List ab)
 |up (c:bL) (l i x:ab)
 |nth (r:aV) (l:List ab) (i:ab)
 |D4 (c:bL) (x:ab)
 |D5 (k v:aV)
 |D6 (k v:aV) (m x y:ab)
 |xo (k v:aV) (m x:ab)
 |vj (k v:aV) (m x:ab)
 |ca (j:Nat) (aG:List ab)
 |rT (rs:List aV) (p i:Nat)
def mB(e:Env):Option ab→Option Int
 |none=>none
 |some x=>some (cm (x.dyn e))
def iL{α:Type}(l:List α):Option Int→Option Int→List α
 |none,none=>l
 |some a,none=>l.drop a.toNat
 |none,some h=>l.take h.toNat
 |some a,some h=>(l.take h.toNat).drop a.toNat
def mV(b:ByteArray):Option Int→Option Int→ByteArray
 |none,none=>b.extract 0 b.size
 |some a,none=>b.extract a.toNat b.size
 |none,some h=>b.extract 0 h.toNat
 |some a,some h=>b.extract a.toNat h.toNat
def ja(n:Nat):Option Int→Option Int→Prop
 |none,none=>True
 |some a,none=>0≤a∧a≤(n:Int)
 |none,some h=>0≤h∧h≤(n:Int)
 |some a,some h=>0≤a∧a≤h∧h≤(n:Int)
def rU:(r:aV)→r.den→r.den→Bool
 | .int _,x,y=>(show Int from x)==y
 | .bool,x,y=>(show Bool from x)==y
 | .str,x,y=>dF x y
 |_,_,_=>false
def kK(e:Env):List aV→List ab→List ab→Bool
 |[r],[x],[y]=>rU r (x.az e r) (y.az e r)
 |r::rs,x::xs,y::ys=>bif rU r (x.az e r) (y.az e r)then kK e rs xs ys else false
 |_,_,_=>true
def mC(e:Env)(c:bL):List ab→List (fO c)
 |[]=>[]
 |x::r=>x.get e (.st c)::mC e c r
def te(e:Env)(r:aV):List ab→Nat→r.den
 |[],_=>r.fz
 |[x],_=>x.az e r
 |x::l,n=>bif Nat.beq n 0 then x.az e r else te e r l (n-1)
def jG{V:Type}:(k:aV)→List (k.den × V)→k.den→Option V
 | .int _,l,x=>hY (K:=Int) l x
 | .str,l,x=>hY (K:=ByteArray) l x
 |_,_,_=>none
def sI{V:Type}:(k:aV)→List (k.den × V)→k.den→V→List (k.den × V)
 | .int _,l,x,v=>jb (K:=Int) l x v
 | .str,l,x,v=>jb (K:=ByteArray) l x v
 |_,l,_,_=>l
def bK.den(M:List aR)(e:Env):bK→aF
 | .rS r x=>⟨r,x.get e r⟩
 | .f1 f x=>⟨f.c,f.den (x.az e f.a)⟩
 | .f2 f x y=>⟨f.c,f.den (x.az e f.a) (y.az e f.b)⟩
 | .eC c x lo hi=>⟨.li c,iL (x.az e (.li c)) (mB e lo) (mB e hi)⟩
 | .vi x lo hi=>⟨.str,mV (x.az e .str) (mB e lo) (mB e hi)⟩
 | .D3 r g x y=>⟨r,bif g.az e .bool then x.get e r else y.get e r⟩
 | .At n rs l m=>⟨.bool,bif n then !kK e rs l m else kK e rs l m⟩
 | .qD c rows=>⟨.li c,mC e c rows⟩
 | .up c l i x=>⟨.li c,List.set (l.az e (.li c)) (cm (i.dyn e)).toNat (x.get e (.st c))⟩
 | .nth r l i=>⟨r,te e r l (cm (i.dyn e)).toNat⟩
 | .D4 c x=>⟨.li c,List.replicate (Int.toNat (x.az e (.int .i64))) (aA c)⟩
 | .D5 k v=>⟨.mp k v,([]:List (k.den × v.den))⟩
 | .D6 k v m x y=>⟨.mp k v,sI k (m.az e (.mp k v)) (x.az e k) (y.get e v)⟩
 | .xo k v m x=>⟨.bool,(jG k (show List (k.den × v.den)from m.az e (.mp k v)) (x.az e k)).isSome⟩
 | .vj k v m x=>⟨v,(jG k (show List (k.den × v.den)from m.az e (.mp k v)) (x.az e k)).getD v.fz⟩
 | .ca j aG=>⟨fc (eU aR.d M j).rs,(eU aR.d M j).m (b9 _ (gD e (eU aR.d M j).ps aG))⟩
 | .rT rs p i=>eU aF.d (dy rs ((Env.at e p).aG (fc rs))) i
inductive ff where
 |f2 (bytes:Nat) (f:cD) (x y:ab)
 |eC (c:bL) (x:ab) (lo hi:Option ab)
 |vi (x:ab) (lo hi:Option ab)
 |up (c:bL) (l i:ab)
 |nth (n:Nat) (i:ab)
 |mk (bytes:Nat) (x y:ab)
 |ca (j:Nat) (aG:List ab)
 |SI (g:ab) (b:Bool) (n:ff)
def kP{α:Type}(p:Option (α→Prop))(x:α):Prop:=
 match p with
 |none=>True
 |some q=>q x
def ff.ok(M:List aR)(e:Env):ff→Prop
 | .f2 n f x y=>f.vh n (x.az e f.a) (y.az e f.b)
 | .eC c x lo hi=>ja (List.length (x.az e (.li c))) (mB e lo) (mB e hi)
 | .vi x lo hi=>ja (ByteArray.size (x.az e .str)) (mB e lo) (mB e hi)
 | .up c l i=>0≤cm (i.dyn e)∧cm (i.dyn e)<(List.length (l.az e (.li c)):Int)
 | .nth n i=>0≤cm (i.dyn e)∧cm (i.dyn e)<(n:Int)
 | .mk n x y=>0≤x.az e (.int .i64)∧x.az e (.int .i64)≤y.az e (.int .i64)∧y.az e (.int .i64)≤(maxLen:Int)∧(n:Int)*y.az e (.int .i64)≤281474976710656
 | .ca j aG=>kP (eU aR.d M j).pre (b9 _ (gD e (eU aR.d M j).ps aG))
 | .SI g b n=>g.az e .bool=b→n.ok M e
inductive tf where
 |st
 |mp (k v:aV)
 deriving DecidableEq
@[reducible] def tf.rt:tf→aV
 | .st=>.int .i64
 | .mp k v=>.mp k v
def tf.den:(q:tf)→ByteArray→q.rt.den→wR
 | .st,s,p=>qv s (Int.toNat p)
 | .mp k v,_,l=>jQ v.agg (gg (lj k) (iy v) l)
inductive bG where
 |dj (t:TypeId) (l:List ab)
 |rw (t:TypeId) (c:bL) (x:ab)
 |it (q:tf) (x p:ab)
def bG.den(G:a8)(e:Env):bG→ek
 | .dj t l=>.box t (ab.bQ G e l)
 | .rw t c x=>.row false t (bZ c) (List.map (cb c) (x.az e (.li c)))
 | .it q x p=>.bM (q.den (x.az e .str) (p.az e q.rt))
def cy(G:a8)(e:Env):List (Nat × bG)→Heap
 |[]=>[]
 |(i,o)::r=>(i,o.den G e)::cy G e r
def da:List (Nat × bG)→Nat→Option bG
 |[],_=>none
 |(i,o)::r,k=>match Nat.beq i k with
  |true=>some o
  |false=>da r k
def jv:List (Nat × bG)→Nat→bG→List (Nat × bG)
 |[],k,x=>[(k,x)]
 |(i,o)::r,k,x=>match Nat.beq i k with
  |true=>(i,x)::r
  |false=>(i,o)::jv r k x
inductive b5 where
 |d1 (i:Nat) (f:gG) (x:ab)
 |d2 (i:Nat) (f:cD) (x y:ab)
 |rg (i:Nat) (b:ab)
 |dU (g:ab) (b:Bool)
def b5.ok(e:Env):b5→Prop
 | .d1 i f x=>Env.at e i=⟨f.c,f.den (x.az e f.a)⟩
 | .d2 i f x y=>Env.at e i=⟨f.c,f.den (x.az e f.a) (y.az e f.b)⟩
 | .rg i b=>0≤cm (Env.at e i)∧cm (Env.at e i)<cm (b.dyn e)
 | .dU g b=>g.az e .bool=b
structure ao where
 l:ba ab
 h:List (Nat × bG)
 n:Nat
 k:Nat
 g:List b5
def ao.at(S:ao)(i:Nat):ab:=
 match S.l.get i with
 |some x=>x
 |none=>.top
def kd(G:a8)(e:Env)(l:ba ab):Nat→Nat→List aD
 |_,0=>[]
 |i,n+1=>(match l.get i with|some x=>x.den G e|none=>.top)::kd G e l (i+1) n
def ao.den(G:a8)(N B:Nat)(e:Env)(S:ao):aP:=⟨kd G e S.l 0 N,cy G e S.h,S.n,B⟩
inductive eA where
 |slot (i:Nat) (p:List Nat)
 |box (id off:Nat) (p:List Nat)
 |row (id:Nat)
 |kL (p:eA)
def ab.kL:ab→ab
 | .ee _ _=>.cs (.bool true)
 | .cs (.pointer none)=>.cs (.bool false)
 | .fj (.aU .bool i) _ _=>.aU .bool i
 |_=>.top
def ab.sub:ab→List Nat→ab
 |x,[]=>x
 | .ch l,i::p=>(eU .top l i).sub p
 | .tp l,i::p=>(eU .top l i).sub p
 |_,_::_=>.top
def eA.de(S:ao):eA→ab
 | .slot i p=>(S.at i).sub p
 | .box id off p=>match da S.h id with
  |some (.dj _ l)=>(eU .top l off).sub p
  |_=>.top
 | .row id=>match da S.h id with
  |some (.rw _ _ x)=>x
  |some (.it _ _ p)=>p
  |_=>.top
 | .kL p=>(p.de S).kL
inductive b0 where
 |cj
 |ext (n:Nat)
 |ret
 |lr (n:Nat)
def b0.bT(n:Nat):b0→Bool
 | .lr m=>Nat.beq m n
 |_=>false
def b0.cY(n:Nat):b0→Bool
 | .ext m=>Nat.beq m n
 |_=>false
structure hE where
 i:Nat
 r:aV
 x:ab
 p:eA
inductive aC where
 |cH (x:b0) (S:ao)
 |lt (i:Nat) (x:bK) (t:aC)
 |eG (n:ff) (t:aC)
 |it (g:ab) (a b:aC)
 |dC (n:Nat) (a:aC) (ps:List (Nat × aV × eA)) (k:aC)
 |eo (m xid:Nat) (dk:bK) (b1:Nat) (ca:List hE) (a k:aC)
 |e0 (m xid:Nat) (ca:List hE) (a k:aC)
 |bad (n:Nat)
def aC.ft:aC→(b0→Bool)→Bool
 | .cH x _,f=>f x
 | .lt _ _ t,f=>t.ft f
 | .eG _ t,f=>t.ft f
 | .it _ a b,f=>a.ft f&&b.ft f
 | .dC n a _ k,f=>a.ft (fun x=>x.bT n||f x)&&k.ft f
 | .eo m xid _ _ _ a k,f=>a.ft (fun x=>x.bT m||(x.cY xid||f x))&&k.ft f
 | .e0 m xid _ a k,f=>a.ft (fun x=>x.bT m||(x.cY xid||f x))&&k.ft f
 | .bad _,_=>false
def aC.jw(t:aC)(n:Nat):Bool:=t.ft (b0.bT n)
def rV:List hE→List aV
 |[]=>[]
 |a::l=>a.r::rV l
def dE(e:Env):List hE→List aF
 |[]=>[]
 |a::l=>⟨a.r,a.x.get e a.r⟩::dE e l
def fA(S:ao)(e:Env):List hE→List aF
 |[]=>[]
 |a::l=>⟨a.r,(a.p.de S).get e a.r⟩::fA S e l
def rW(e:Env):List hE→List aF→Env
 |a::l,d::ds=>rW (ba.put e a.i d) l ds
 |_,_=>e
abbrev bY(ca:List hE):Type:=(fc (rV ca)).den
def bl(e:Env)(ca:List hE)(v:bY ca):Env:=rW e ca (dy (rV ca) v)
def fR(e:Env)(f:aV→eA→aF):List (Nat × aV × eA)→Env
 |[]=>e
 |(i,r,p)::l=>fR (ba.put e i (f r p)) f l
def dV:Nat:=18446744073709551616
def eh{X:Type}(m xid:Nat)(ca:List hE)(K:b0→ao→Env→X)(x:b0)(S:ao)(e:Env):Step X (bY ca):=
 match x.bT m with
 |true=>.br (b9 _ (fA S e ca))
 |false=>match x.cY xid with
  |true=>.cO (b9 _ (fA S e ca))
  |false=>.ret (K x S e)
def aC.fold(M:List aR):aC→{X:Type}→Env→(b0→ao→Env→X)→X→X
  | .cH x S,_,e,K,_=>K x S e
  | .lt i x t,_,e,K,d=>t.fold M (ba.put e i (x.den M e)) K d
  | .eG _ t,_,e,K,d=>t.fold M e K d
  | .it g a b,_,e,K,d=>bif g.az e .bool then a.fold M e K d else b.fold M e K d
  | .dC n a ps k,_,e,K,d=>bif a.jw n
    then k.fold M (fR e (fun r p=>⟨r,a.fold M e (fun _ S ay=>(p.de S).get ay r) r.fz⟩) ps) K d
    else bif a.fold M e (fun x _ _=>x.bT n) false
      then k.fold M (fR e (fun r p=>⟨r,a.fold M e (fun x S ay=>bif x.bT n then(p.de S).get ay r else r.fz) r.fz⟩) ps) K d
      else a.fold M e K d
  | .eo m xid dk b1 ca a k,X,e,K,d=>Sum.elim (fun r=>r) (fun v=>k.fold M (bl e ca v) K d) (bo (fun i (v:bY ca)=>bif a.jw m
        then(.br (a.fold M (bl (ba.put e b1 ⟨.int .i64,(i:Int)⟩) ca v) (fun _ S ay=>b9 _ (fA S ay ca)) v):Step X (bY ca))
        else a.fold M (bl (ba.put e b1 ⟨.int .i64,(i:Int)⟩) ca v) (eh m xid ca K) (.cO v)) 0 (cm (dk.den M e)).toNat (b9 _ (dE e ca)))
  | .e0 m xid ca a k,X,e,K,d=>Sum.elim (fun r=>r) (fun v=>k.fold M (bl e ca v) K d) (c5 (fun v=>(a.fold M (bl e ca v) (eh m xid ca K) (.cO v):Step X (bY ca))) dV (b9 _ (dE e ca)))
  | .bad _,_,_,_,d=>d
def aC.safe(M:List aR):aC→Env→Prop
  | .cH _ _,_=>True
  | .lt i x t,e=>t.safe M (ba.put e i (x.den M e))
  | .eG n t,e=>n.ok M e∧t.safe M e
  | .it g a b,e=>(g.az e .bool=true→a.safe M e)∧(g.az e .bool=false→b.safe M e)
  | .dC n a ps k,e=>a.safe M e∧(a.fold M e (fun x _ _=>x.bT n) false=true→k.safe M (fR e (fun r p=>⟨r,bif a.jw n
      then a.fold M e (fun _ S ay=>(p.de S).get ay r) r.fz
      else a.fold M e (fun x S ay=>bif x.bT n then(p.de S).get ay r else r.fz) r.fz⟩) ps))
  | .eo m xid dk b1 ca a k,e=>(∃I:Nat→bY ca→Prop,I 0 (b9 _ (dE e ca))∧∀(i:Nat) (v:bY ca),i<(cm (dk.den M e)).toNat→I i v→
      a.safe M (bl (ba.put e b1 ⟨.int .i64,(i:Int)⟩) ca v)∧∀bh,a.fold M (bl (ba.put e b1 ⟨.int .i64,(i:Int)⟩) ca v) (eh m xid ca fun _ _ _=>()) (.cO v)= .br bh→I (i+1) bh)∧
      Sum.elim (fun _=>True) (fun v=>k.safe M (bl e ca v)) (bo (fun i (v:bY ca)=>a.fold M (bl (ba.put e b1 ⟨.int .i64,(i:Int)⟩) ca v) (eh m xid ca fun _ _ _=>()) (.cO v)) 0 (cm (dk.den M e)).toNat (b9 _ (dE e ca)))
  | .e0 m xid ca a k,e=>(∃I:bY ca→Prop,I (b9 _ (dE e ca))∧∀(v:bY ca),I v→
      a.safe M (bl e ca v)∧∀bh,a.fold M (bl e ca v) (eh m xid ca fun _ _ _=>()) (.cO v)= .br bh→I bh)∧
      kb (fun v=>(a.fold M (bl e ca v) (eh m xid ca fun _ _ _=>()) (.cO v):Step Unit (bY ca))) dV (b9 _ (dE e ca))∧
      Sum.elim (fun _=>True) (fun v=>k.safe M (bl e ca v)) (c5 (fun v=>(a.fold M (bl e ca v) (eh m xid ca fun _ _ _=>()) (.cO v):Step Unit (bY ca))) dV (b9 _ (dE e ca)))
  | .bad _,_=>False
def aC.clean:aC→Bool
 | .cH _ _=>true
 | .lt _ _ t=>t.clean
 | .eG _ _=>false
 | .it _ a b=>a.clean&&b.clean
 | .dC _ a _ k=>a.clean&&k.clean
 | .eo _ _ _ _ _ a k=>a.clean&&k.clean
 | .e0 _ _ _ _ _=>false
 | .bad _=>false
theorem rX(M:List aR): ∀{t:aC} {e:Env},t.clean=true→t.safe M e
 | .cH _ _,_,_=>trivial
 | .lt _ _ t,_,h=>rX M (t:=t) h
 | .eG _ _,_,h=>by cases h
 | .it _ a b,_,h=>by
  simp only[aC.clean,Bool.and_eq_true]at h;exact⟨fun _=>rX M h.1,fun _=>rX M h.2⟩
 | .dC _ a _ k,_,h=>by
  simp only[aC.clean,Bool.and_eq_true]at h;exact⟨rX M h.1,fun _=>rX M h.2⟩
 | .eo _ _ _ _ _ a k,_,h=>by
  simp only[aC.clean,Bool.and_eq_true]at h;refine⟨⟨fun _ _=>True,trivial,fun _ _ _ _=>⟨rX M h.1,fun _ _=>trivial⟩⟩,?_⟩
  generalize bo _ _ _ _=L
  cases L with
  |inl r=>trivial
  |inr v=>exact rX M h.2
 | .e0 _ _ _ _ _,_,h=>by cases h
 | .bad _,_,h=>by cases h
end Go.aL
namespace Go.aL
open Go
def h9{R A X:Type}(f:R→X):Step R A→Step X A
 | .ret r=>.ret (f r)
 | .cO a=>.cO a
 | .br a=>.br a
theorem uh{R A X:Type}(f:R→X){b:Nat→A→Step R A}{c:Nat→A→Step X A}(h: ∀i a,c i a=h9 f (b i a)): ∀(m k:Nat) (a:A),bo c k m a=Sum.map f id (bo b k m a)
 |0,_,_=>rfl
 |m+1,k,a=>by
  simp only[bo,h]
  cases b k a with
  |ret r=>rfl
  |cO a=>rfl
  |br a=>exact uh f h m (k+1) a
theorem xp{R A X:Type}(f:R→X){b:A→Step R A}{c:A→Step X A}(h: ∀a,c a=h9 f (b a)): ∀(m:Nat) (a:A),c5 c m a=Sum.map f id (c5 b m a)
 |0,_=>rfl
 |m+1,a=>by
  simp only[c5,h]
  cases b a with
  |ret r=>rfl
  |cO a=>rfl
  |br a=>exact xp f h m a
theorem K5{R A X:Type}(f:R→X){b:A→Step R A}{c:A→Step X A}(h: ∀a,c a=h9 f (b a)): ∀(m:Nat) (a:A),kb c m a↔kb b m a
 |0,_=>Iff.rfl
 |m+1,a=>by
  simp only[kb,h]
  cases b a with
  |ret r=>exact Iff.rfl
  |cO a=>exact Iff.rfl
  |br a=>exact K5 f h m a
theorem xq{X Y:Type}(g:X→Y)(m xid:Nat)(ca:List hE)(K:b0→ao→Env→X)(x:b0)(S:ao)(e:Env):h9 g (eh m xid ca K x S e)=eh m xid ca (fun x S e=>g (K x S e)) x S e:=by
 unfold eh
 split
 ·rfl
 ·split<;>rfl
section
variable {X:Type} {m xid:Nat} {ca:List hE} {K:b0→ao→Env→X} {x:b0} {S:ao} {e:Env}
theorem n7(h:x.bT m=true):eh m xid ca K x S e= .br (b9 _ (fA S e ca)):=by unfold eh;rw[h]
theorem n8(h:x.bT m=false)(h':x.cY xid=true):eh m xid ca K x S e= .cO (b9 _ (fA S e ca)):=by unfold eh;rw[h,h']
theorem ke(h:x.bT m=false)(h':x.cY xid=false):eh m xid ca K x S e= .ret (K x S e):=by unfold eh;rw[h,h']
end
section
variable {M:List aR}
theorem fold_map: ∀(t:aC) {X Y:Type} (g:X→Y) (e:Env) (K:b0→ao→Env→X) (d:X),g (t.fold M e K d)=t.fold M e (fun x S ay=>g (K x S ay)) (g d)
  | .cH _ _,_,_,_,_,_,_=>rfl
  | .lt _ _ t,_,_,g,_,K,d=>fold_map t g _ K d
  | .eG _ t,_,_,g,_,K,d=>fold_map t g _ K d
  | .it c a b,_,_,g,e,K,d=>by
    simp only[aC.fold]
    cases c.az e .bool with
    |true=>exact fold_map a g e K d
    |false=>exact fold_map b g e K d
  | .dC n a ps k,_,_,g,e,K,d=>by
    simp only[aC.fold]
    cases a.jw n with
    |true=>exact fold_map k g _ K d
    |false=>cases a.fold M e (fun x _ _=>x.bT n) false with
      |true=>exact fold_map k g _ K d
      |false=>exact fold_map a g e K d
  | .eo m xid dk b1 ca a k,X,Y,g,e,K,d=>by
    simp only[aC.fold]
    rw[uh g (c:=fun i (v:bY ca)=>bif a.jw m
        then(.br (a.fold M (bl (ba.put e b1 ⟨.int .i64,(i:Int)⟩) ca v) (fun _ S ay=>b9 _ (fA S ay ca)) v):Step Y (bY ca))
        else a.fold M (bl (ba.put e b1 ⟨.int .i64,(i:Int)⟩) ca v) (eh m xid ca fun x S e=>g (K x S e)) (.cO v))
      (b:=fun i (v:bY ca)=>bif a.jw m
        then(.br (a.fold M (bl (ba.put e b1 ⟨.int .i64,(i:Int)⟩) ca v) (fun _ S ay=>b9 _ (fA S ay ca)) v):Step X (bY ca))
        else a.fold M (bl (ba.put e b1 ⟨.int .i64,(i:Int)⟩) ca v) (eh m xid ca K) (.cO v))
      (fun i v=>by
        cases a.jw m with
        |true=>rfl
        |false=>
          simp only[cond_false];rw[fold_map a (h9 g)];simp only[xq]
          rfl)]
    generalize bo _ _ _ _=L
    cases L with
    |inl r=>rfl
    |inr v=>exact fold_map k g _ K d
  | .e0 m xid ca a k,X,Y,g,e,K,d=>by
    simp only[aC.fold]
    rw[xp g (c:=fun(v:bY ca)=>a.fold M (bl e ca v) (eh m xid ca fun x S e=>g (K x S e)) (.cO v))
      (b:=fun(v:bY ca)=>a.fold M (bl e ca v) (eh m xid ca K) (.cO v))
      (fun v=>by
        rw[fold_map a (h9 g)];simp only[xq]
        rfl)]
    generalize c5 _ _ _=L
    cases L with
    |inl r=>rfl
    |inr v=>exact fold_map k g _ K d
  | .bad _,_,_,_,_,_,_=>rfl
abbrev ng:=b0 × ao × Env
def run(M:List aR)(t:aC)(e:Env):Option ng:=t.fold M e (fun x S ay=>some (x,S,ay)) none
theorem kf{t:aC}{e ay:Env}{x:b0}{S:ao}(h:run M t e=some (x,S,ay)){X:Type}(K:b0→ao→Env→X)(d:X):t.fold M e K d=K x S ay:=by
 have:=fold_map (M:=M) t (fun(o:Option ng)=>match o with|some (x,S,ay)=>K x S ay|none=>d) e (fun x S ay=>some (x,S,ay)) none
 simp only at this
 rw[←this]
 unfold run at h
 rw[h]
theorem Au{t:aC}{e:Env}(h:run M t e=none){X:Type}(K:b0→ao→Env→X)(d:X):t.fold M e K d=d:=by
 have:=fold_map (M:=M) t (fun(o:Option ng)=>match o with|some (x,S,ay)=>K x S ay|none=>d) e (fun x S ay=>some (x,S,ay)) none
 simp only at this
 rw[←this]
 unfold run at h
 rw[h]
def c4(M:List aR)(m xid:Nat)(ca:List hE)(a:aC)(e:Env)(v:bY ca):Step (Option ng) (bY ca):=
 match run M a e with
 |some (x,S,ay)=>eh m xid ca (fun x S e=>some (x,S,e)) x S ay
 |none=>.cO v
theorem xr(m xid:Nat)(ca:List hE)(a:aC)(e:Env)(v:bY ca):a.fold M e (eh m xid ca fun x S e=>some (x,S,e)) (.cO v)=c4 M m xid ca a e v:=by
 unfold c4
 split
 ·rename_i x S ay h
  exact kf h _ _
 ·rename_i h
  exact Au h _ _
theorem SJ{m xid b1:Nat}{dk:bK}{ca:List hE}{a k:aC}{e:Env}{X:Type}(K:b0→ao→Env→X)(d:X)(h:a.jw m=true→∀e,∃x S ay,run M a e=some (x,S,ay)∧x.bT m=true):
 (aC.eo m xid dk b1 ca a k).fold M e K d=Sum.elim (fun r=>r) (fun v=>k.fold M (bl e ca v) K d) (bo (fun i (v:bY ca)=>a.fold M (bl (ba.put e b1 ⟨.int .i64,(i:Int)⟩) ca v) (eh m xid ca K) (.cO v)) 0 (cm (dk.den M e)).toNat (b9 _ (dE e ca))):=by
 simp only[aC.fold]
 cases af:a.jw m with
 |false=>rfl
 |true=>
  have:(fun(i:Nat) (v:bY ca)=>(.br (a.fold M (bl (ba.put e b1 ⟨.int .i64,(i:Int)⟩) ca v) (fun _ S ay=>b9 _ (fA S ay ca)) v):Step X (bY ca)))=fun(i:Nat) (v:bY ca)=>a.fold M (bl (ba.put e b1 ⟨.int .i64,(i:Int)⟩) ca v) (eh m xid ca K) (.cO v):=by
   funext i v
   obtain⟨x,S,ay,aa,ae⟩:=h af (bl (ba.put e b1 ⟨.int .i64,(i:Int)⟩) ca v);simp only[kf aa,eh,ae]
  simp only[cond_true];rw[this]
theorem jh: ∀{t:aC} {f:b0→Bool} {e:Env},t.ft f=true→∃x S ay,run M t e=some (x,S,ay)∧f x=true
 | .cH x S,_,e,h=>⟨x,S,e,rfl,h⟩
 | .lt _ _ t,_,_,h=>jh (t:=t) h
 | .eG _ t,_,_,h=>jh (t:=t) h
 | .it c a b,f,e,h=>by
  simp only[aC.ft,Bool.and_eq_true]at h;simp only[run,aC.fold]
  cases c.az e .bool with
  |true=>exact jh (t:=a) h.1
  |false=>exact jh (t:=b) h.2
 | .dC n a ps k,f,e,h=>by
  simp only[aC.ft,Bool.and_eq_true]at h;obtain⟨x,S,ay,aa,ae⟩:=jh (t:=a) (e:=e) h.1;simp only[run,aC.fold]
  cases a.jw n with
  |true=>exact jh (t:=k) h.2
  |false=>
   rw[kf aa]
   cases hx:x.bT n with
   |true=>exact jh (t:=k) h.2
   |false=>
    rw[hx,Bool.false_or]at ae;exact⟨x,S,ay,aa,ae⟩
 | .eo m xid dk b1 ca a k,f,e,h=>by
  simp only[aC.ft,Bool.and_eq_true]at h
  have key: ∀(n i:Nat) (v:bY ca),(∃bh,bo (fun i (v:bY ca)=>a.fold M (bl (ba.put e b1 ⟨.int .i64,(i:Int)⟩) ca v) (eh m xid ca fun x S e=>some (x,S,e)) (.cO v)) i n v= .inr bh)∨
   ∃x S ay,bo (fun i (v:bY ca)=>a.fold M (bl (ba.put e b1 ⟨.int .i64,(i:Int)⟩) ca v) (eh m xid ca fun x S e=>some (x,S,e)) (.cO v)) i n v= .inl (some (x,S,ay))∧f x=true:=by
   intro n
   induction n with
   |zero=>exact fun i v=>.inl ⟨v,rfl⟩
   |succ n aY=>
    intro i v;obtain⟨x,S,ay,aa,ae⟩:=jh (t:=a) (e:=bl (ba.put e b1 ⟨.int .i64,(i:Int)⟩) ca v) h.1;simp only[bo,kf aa]
    cases hx:x.bT m with
    |true=>
     rw[n7 hx];exact aY (i+1) _
    |false=>
     cases ax:x.cY xid with
     |true=>
      rw[n8 hx ax];exact .inl ⟨_,rfl⟩
     |false=>
      rw[ke hx ax];rw[hx,ax,Bool.false_or,Bool.false_or]at ae;exact .inr ⟨x,S,ay,rfl,ae⟩
  unfold run;rw[SJ _ _ fun af e=>jh (t:=a) (e:=e) af]
  rcases key (cm (dk.den M e)).toNat 0 (b9 _ (dE e ca))with⟨bh,aw⟩|⟨x,S,ay,aw,hf⟩
  ·rw[aw];exact jh (t:=k) h.2
  ·rw[aw];exact⟨x,S,ay,rfl,hf⟩
 | .e0 m xid ca a k,f,e,h=>by
  simp only[aC.ft,Bool.and_eq_true]at h
  have key: ∀(n:Nat) (v:bY ca),(∃bh,c5 (fun(v:bY ca)=>(a.fold M (bl e ca v) (eh m xid ca fun x S e=>some (x,S,e)) (.cO v):Step (Option ng) (bY ca))) n v= .inr bh)∨
   ∃x S ay,c5 (fun(v:bY ca)=>(a.fold M (bl e ca v) (eh m xid ca fun x S e=>some (x,S,e)) (.cO v):Step (Option ng) (bY ca))) n v= .inl (some (x,S,ay))∧f x=true:=by
   intro n
   induction n with
   |zero=>exact fun v=>.inl ⟨v,rfl⟩
   |succ n aY=>
    intro v;simp only[c5];obtain⟨x,S,ay,aa,ae⟩:=jh (t:=a) (e:=bl e ca v) h.1;rw[kf aa]
    cases hx:x.bT m with
    |true=>
     rw[n7 hx];exact aY _
    |false=>
     cases ax:x.cY xid with
     |true=>
      rw[n8 hx ax];exact .inl ⟨_,rfl⟩
     |false=>
      rw[ke hx ax];rw[hx,ax,Bool.false_or,Bool.false_or]at ae;exact .inr ⟨x,S,ay,rfl,ae⟩
  simp only[run,aC.fold]
  rcases key dV (b9 _ (dE e ca))with⟨bh,aw⟩|⟨x,S,ay,aw,hf⟩
  ·rw[aw];exact jh (t:=k) h.2
  ·rw[aw];exact⟨x,S,ay,rfl,hf⟩
 | .bad _,_,_,h=>by cases h
theorem qE{n:Nat}{a k:aC}{ps:List (Nat × aV × eA)}{e aB:Env}{x:b0}{aT:ao}(h:run M a e=some (x,aT,aB))(hx:x.bT n=true){X:Type}(K:b0→ao→Env→X)(d:X):
 (aC.dC n a ps k).fold M e K d=k.fold M (fR e (fun r p=>⟨r,(p.de aT).get aB r⟩) ps) K d:=by
 simp only[aC.fold]
 cases a.jw n with
 |true=>simp only[kf h,cond_true]
 |false=>simp only[kf h,hx,cond_true,cond_false]
theorem nh{n:Nat}{a k:aC}{ps:List (Nat × aV × eA)}{e aB:Env}{x:b0}{aT:ao}(h:run M a e=some (x,aT,aB))(hx:x.bT n=false){X:Type}(K:b0→ao→Env→X)(d:X):
 (aC.dC n a ps k).fold M e K d=K x aT aB:=by
 simp only[aC.fold]
 cases af:a.jw n with
 |true=>
  obtain⟨iN,dc,ay,aa,ae⟩:=jh (M:=M) (t:=a) (e:=e) af;rw[aa]at h;cases h;rw[hx]at ae;cases ae
 |false=>simp only[kf h,hx,cond_false]
theorem th{n:Nat}{a k:aC}{ps:List (Nat × aV × eA)}{e:Env}(h:run M a e=none){X:Type}(K:b0→ao→Env→X)(d:X):
 (aC.dC n a ps k).fold M e K d=d:=by
 simp only[aC.fold]
 cases af:a.jw n with
 |true=>
  obtain⟨iN,dc,ay,aa,ae⟩:=jh (M:=M) (t:=a) (e:=e) af;rw[aa]at h;cases h
 |false=>simp only[Au h,cond_false]
theorem SK{n:Nat}{a k:aC}{ps:List (Nat × aV × eA)}{e aB:Env}{x:b0}{aT:ao}(ai:(aC.dC n a ps k).safe M e)(h:run M a e=some (x,aT,aB))(hx:x.bT n=true):
 k.safe M (fR e (fun r p=>⟨r,(p.de aT).get aB r⟩) ps):=by
 have aa:=ai.2 (by rw[kf h];exact hx)
 have ae:(fun(r:aV) (p:eA)=>(⟨r,bif a.jw n
  then a.fold M e (fun _ S ay=>(p.de S).get ay r) r.fz
  else a.fold M e (fun x S ay=>bif x.bT n then(p.de S).get ay r else r.fz) r.fz⟩:aF))=fun r p=>⟨r,(p.de aT).get aB r⟩:=by
  funext r p
  simp only[kf h,hx]
  cases a.jw n<;>rfl
 rw[ae]at aa
 exact aa
theorem xt{m xid b1:Nat}{dk:bK}{ca:List hE}{a k:aC}{e:Env}{X:Type}(K:b0→ao→Env→X)(d:X):
 (aC.eo m xid dk b1 ca a k).fold M e K d=Sum.elim (fun r=>r) (fun v=>k.fold M (bl e ca v) K d) (bo (fun i (v:bY ca)=>a.fold M (bl (ba.put e b1 ⟨.int .i64,(i:Int)⟩) ca v) (eh m xid ca K) (.cO v)) 0 (cm (dk.den M e)).toNat (b9 _ (dE e ca))):=SJ K d fun af _=>jh af
end
end Go.aL
namespace Go.aL
open Go
def aC.rel:aC→(b0→b0)→aC
 | .cH x S,f=>.cH (f x) S
 | .lt i x t,f=>.lt i x (t.rel f)
 | .eG n t,f=>.eG n (t.rel f)
 | .it c a b,f=>.it c (a.rel f) (b.rel f)
 | .dC n a ps k,f=>.dC n (a.rel fun x=>bif x.bT n then x else f x) ps (k.rel f)
 | .eo m xid dk b1 ca a k,f=>.eo m xid dk b1 ca (a.rel fun x=>bif x.bT m||x.cY xid then x else f x) (k.rel f)
 | .e0 m xid ca a k,f=>.e0 m xid ca (a.rel fun x=>bif x.bT m||x.cY xid then x else f x) (k.rel f)
 | .bad n,_=>.bad n
def aC.iA:aC→(b0→b0)→Prop
 | .cH _ _,_=>True
 | .lt _ _ t,f=>t.iA f
 | .eG _ t,f=>t.iA f
 | .it _ a b,f=>a.iA f∧b.iA f
 | .dC n a _ k,f=>(∀x,x.bT n=false→(f x).bT n=false)∧(a.iA fun x=>bif x.bT n then x else f x)∧k.iA f
 | .eo m xid _ _ _ a k,f=>(∀x,x.bT m=false→x.cY xid=false→(f x).bT m=false∧(f x).cY xid=false)∧(a.iA fun x=>bif x.bT m||x.cY xid then x else f x)∧k.iA f
 | .e0 m xid _ a k,f=>(∀x,x.bT m=false→x.cY xid=false→(f x).bT m=false∧(f x).cY xid=false)∧(a.iA fun x=>bif x.bT m||x.cY xid then x else f x)∧k.iA f
 | .bad _,_=>True
section
variable {M:List aR}
theorem D7{X:Type}{m xid:Nat}{ca:List hE}{K:b0→ao→Env→X}{f:b0→b0}(h: ∀x,x.bT m=false→x.cY xid=false→(f x).bT m=false∧(f x).cY xid=false)(x:b0)(S:ao)(e:Env):
 eh m xid ca K (bif x.bT m||x.cY xid then x else f x) S e=eh m xid ca (fun x S e=>K (f x) S e) x S e:=by
 cases hx:x.bT m with
 |true=>rw[Bool.true_or,cond_true,n7 hx,n7 hx]
 |false=>
  cases ax:x.cY xid with
  |true=>rw[Bool.false_or,cond_true,n8 hx ax,n8 hx ax]
  |false=>
   obtain⟨aa,ae⟩:=h x hx ax;rw[Bool.false_or,cond_false,ke hx ax,ke aa ae]
theorem K6: ∀{t:aC} {f g:b0→Bool},(∀x,f x=g x)→t.ft f=t.ft g:=fun {t f g} h=>by
 have:f=g:=funext h
 rw[this]
theorem pj: ∀{t:aC} {f:b0→b0} {g:b0→Bool},t.iA f→(t.rel f).ft g=t.ft fun x=>g (f x)
 | .cH _ _,_,_,_=>rfl
 | .lt _ _ t,_,_,h=>pj (t:=t) h
 | .eG _ t,_,_,h=>pj (t:=t) h
 | .it _ a b,f,g,h=>by simp only[aC.rel,aC.ft,pj (t:=a) h.1,pj (t:=b) h.2]
 | .dC n a ps k,f,g,h=>by
  simp only[aC.rel,aC.ft,pj (t:=a) h.2.1,pj (t:=k) h.2.2]
  congr 1
  refine K6 fun x=>?_
  cases hx:x.bT n with
  |true=>simp[hx]
  |false=>simp[h.1 x hx]
 | .eo m xid dk b1 ca a k,f,g,h=>by
  simp only[aC.rel,aC.ft,pj (t:=a) h.2.1,pj (t:=k) h.2.2]
  congr 1
  refine K6 fun x=>?_
  cases hx:x.bT m with
  |true=>simp[hx]
  |false=>
   cases ax:x.cY xid with
   |true=>simp[ax]
   |false=>simp[(h.1 x hx ax).1,(h.1 x hx ax).2]
 | .e0 m xid ca a k,f,g,h=>by
  simp only[aC.rel,aC.ft,pj (t:=a) h.2.1,pj (t:=k) h.2.2]
  congr 1
  refine K6 fun x=>?_
  cases hx:x.bT m with
  |true=>simp[hx]
  |false=>
   cases ax:x.cY xid with
   |true=>simp[ax]
   |false=>simp[(h.1 x hx ax).1,(h.1 x hx ax).2]
 | .bad _,_,_,_=>rfl
theorem mD: ∀{t:aC} {f:b0→b0},t.iA f→∀{X:Type} (e:Env) (K:b0→ao→Env→X) (d:X),(t.rel f).fold M e K d=t.fold M e (fun x S ay=>K (f x) S ay) d
 | .cH _ _,_,_,_,_,_,_=>rfl
 | .lt _ _ t,_,h,_,_,K,d=>mD (t:=t) h _ K d
 | .eG _ t,_,h,_,_,K,d=>mD (t:=t) h _ K d
 | .it c a b,f,h,_,e,K,d=>by
  simp only[aC.rel,aC.fold,mD (t:=a) h.1,mD (t:=b) h.2]
 | .dC n a ps k,f,h,_,e,K,d=>by
  have ag:run M (a.rel fun x=>bif x.bT n then x else f x) e=(run M a e).map fun l=>(bif l.1.bT n then l.1 else f l.1,l.2):=by
   unfold run;rw[mD (t:=a) h.2.1];rw[fold_map a (fun o:Option ng=>o.map fun l=>(bif l.1.bT n then l.1 else f l.1,l.2))]
   rfl
  show(aC.dC n (a.rel fun x=>bif x.bT n then x else f x) ps (k.rel f)).fold M e K d=_
  cases cr:run M a e with
  |none=>rw[th (by rw[ag,cr];rfl),th cr]
  |some l=>
   obtain⟨x,aT,aB⟩:=l
   have aa:run M (a.rel fun x=>bif x.bT n then x else f x) e=some (bif x.bT n then x else f x,aT,aB):=by rw[ag,cr];rfl
   cases hx:x.bT n with
   |true=>
    rw[hx,cond_true]at aa;rw[qE aa hx,qE cr hx];exact mD (t:=k) h.2.2 _ K d
   |false=>
    rw[hx,cond_false]at aa;rw[nh aa (h.1 x hx),nh cr hx]
 | .eo m xid dk b1 ca a k,f,h,X,e,K,d=>by
  show(aC.eo m xid dk b1 ca (a.rel fun x=>bif x.bT m||x.cY xid then x else f x) (k.rel f)).fold M e K d=_
  rw[xt,xt]
  have:(fun(i:Nat) (v:bY ca)=>(a.rel fun x=>bif x.bT m||x.cY xid then x else f x).fold M (bl (ba.put e b1 ⟨.int .i64,(i:Int)⟩) ca v) (eh m xid ca K) (.cO v))=fun(i:Nat) (v:bY ca)=>a.fold M (bl (ba.put e b1 ⟨.int .i64,(i:Int)⟩) ca v) (eh m xid ca fun x S ay=>K (f x) S ay) (.cO v):=by
   funext i v
   rw[mD (t:=a) h.2.1];simp only[D7 h.1]
  rw[this];generalize bo _ _ _ _=L
  cases L with
  |inl r=>rfl
  |inr v=>exact mD (t:=k) h.2.2 _ K d
 | .e0 m xid ca a k,f,h,X,e,K,d=>by
  simp only[aC.rel,aC.fold]
  have:(fun(v:bY ca)=>(a.rel fun x=>bif x.bT m||x.cY xid then x else f x).fold M (bl e ca v) (eh m xid ca K) (.cO v))=fun(v:bY ca)=>a.fold M (bl e ca v) (eh m xid ca fun x S ay=>K (f x) S ay) (.cO v):=by
   funext v
   rw[mD (t:=a) h.2.1];simp only[D7 h.1]
  rw[this];generalize c5 _ _ _=L
  cases L with
  |inl r=>rfl
  |inr v=>exact mD (t:=k) h.2.2 _ K d
 | .bad _,_,_,_,_,_,_=>rfl
theorem wI{t:aC}{f:b0→b0}(h:t.iA f)(e:Env):run M (t.rel f) e=(run M t e).map fun l=>(f l.1,l.2):=by
 unfold run
 rw[mD h,fold_map t (fun o:Option ng=>o.map fun l=>(f l.1,l.2))]
 rfl
theorem k7: ∀{t:aC} {f:b0→b0},t.iA f→∀{e:Env},(t.rel f).safe M e↔t.safe M e
 | .cH _ _,_,_,_=>Iff.rfl
 | .lt _ _ t,_,h,_=>k7 (t:=t) h
 | .eG _ t,_,h,_=>by simp only[aC.rel,aC.safe,k7 (t:=t) h]
 | .it c a b,f,h,e=>by simp only[aC.rel,aC.safe,k7 (t:=a) h.1,k7 (t:=b) h.2]
 | .dC n a ps k,f,h,e=>by
  have af: ∀x,(bif b0.bT n x then x else f x).bT n=x.bT n:=fun x=>by
   cases hx:x.bT n with
   |true=>exact hx
   |false=>exact h.1 x hx
  simp only[aC.rel,aC.safe,k7 (t:=a) h.2.1,k7 (t:=k) h.2.2,aC.jw,pj h.2.1,mD h.2.1,af]
 | .eo m xid dk b1 ca a k,f,h,e=>by
  simp only[aC.rel,aC.safe,k7 (t:=a) h.2.1,k7 (t:=k) h.2.2,mD h.2.1,D7 h.1]
 | .e0 m xid ca a k,f,h,e=>by
  simp only[aC.rel,aC.safe,k7 (t:=a) h.2.1,k7 (t:=k) h.2.2,mD h.2.1,D7 h.1]
 | .bad _,_,_,_=>Iff.rfl
end
def aC.lvl:aC→Nat
 | .lt _ _ t=>t.lvl
 | .eG _ t=>t.lvl
 | .it _ a b=>Nat.max a.lvl b.lvl
 | .dC n a _ k=>Nat.max n (Nat.max a.lvl k.lvl)
 | .eo m _ _ _ _ a k=>Nat.max m (Nat.max a.lvl k.lvl)
 | .e0 m _ _ a k=>Nat.max m (Nat.max a.lvl k.lvl)
 |_=>0
def fK(n:Nat):b0→b0
 | .cj=>.lr n
 |x=>x
def pk(i:Nat):b0→b0
 | .ext m=>match Nat.beq m i with
  |true=>.cj
  |false=>.ext m
 |x=>x
theorem zeH(i n:Nat)(x:b0)(h:x.bT n=false):(pk i x).bT n=false:=by
 unfold pk
 split
 ·split
  ·rfl
  ·exact h
 ·exact h
theorem zeI(i n:Nat)(x:b0)(h:x.cY n=false):(pk i x).cY n=false:=by
 unfold pk
 split
 ·split
  ·rfl
  ·exact h
 ·exact h
theorem zeJ(i n:Nat)(hn:i≠n)(x:b0)(h:x.bT n=false):(fK i x).bT n=false:=by
 unfold fK
 split
 ·show Nat.beq i n=false
  rw[qC];exact decide_eq_false hn
 ·exact h
theorem zeK(i n:Nat)(x:b0)(h:x.cY n=false):(fK i x).cY n=false:=by
 unfold fK
 split
 ·rfl
 ·exact h
theorem ni: ∀{t:aC} {f:b0→b0} (N:Nat),t.lvl<N→(∀n,n<N→∀x,x.bT n=false→(f x).bT n=false)→(∀n x,x.cY n=false→(f x).cY n=false)→t.iA f
 | .cH _ _,_,_,_,_,_=>trivial
 | .lt _ _ t,_,N,aq,aa,ae=>ni (t:=t) N aq aa ae
 | .eG _ t,_,N,aq,aa,ae=>ni (t:=t) N aq aa ae
 | .it _ a b,f,N,aq,aa,ae=>by
  have aq:Nat.max a.lvl b.lvl<N:=aq
  have g1:a.lvl≤Nat.max a.lvl b.lvl:=Nat.le_max_left _ _
  have g2:b.lvl≤Nat.max a.lvl b.lvl:=Nat.le_max_right _ _
  exact⟨ni (t:=a) N (by omega) aa ae,ni (t:=b) N (by omega) aa ae⟩
 | .dC n a _ k,f,N,aq,aa,ae=>by
  have aq:Nat.max n (Nat.max a.lvl k.lvl)<N:=aq
  have g0:n≤Nat.max n (Nat.max a.lvl k.lvl):=Nat.le_max_left _ _
  have g3:Nat.max a.lvl k.lvl≤Nat.max n (Nat.max a.lvl k.lvl):=Nat.le_max_right _ _
  have g1:a.lvl≤Nat.max a.lvl k.lvl:=Nat.le_max_left _ _
  have g2:k.lvl≤Nat.max a.lvl k.lvl:=Nat.le_max_right _ _
  refine⟨aa n (by omega),ni (t:=a) N (by omega) (fun p ak x hx=>?_) (fun p x hx=>?_),ni (t:=k) N (by omega) aa ae⟩
  ·cases x.bT n with
   |true=>exact hx
   |false=>exact aa p ak x hx
  ·cases x.bT n with
   |true=>exact hx
   |false=>exact ae p x hx
 | .eo m xid _ _ _ a k,f,N,aq,aa,ae=>by
  have aq:Nat.max m (Nat.max a.lvl k.lvl)<N:=aq
  have g0:m≤Nat.max m (Nat.max a.lvl k.lvl):=Nat.le_max_left _ _
  have g3:Nat.max a.lvl k.lvl≤Nat.max m (Nat.max a.lvl k.lvl):=Nat.le_max_right _ _
  have g1:a.lvl≤Nat.max a.lvl k.lvl:=Nat.le_max_left _ _
  have g2:k.lvl≤Nat.max a.lvl k.lvl:=Nat.le_max_right _ _
  refine⟨fun x hx ax=>⟨aa m (by omega) x hx,ae xid x ax⟩,ni (t:=a) N (by omega) (fun p ak x hx=>?_) (fun p x hx=>?_),ni (t:=k) N (by omega) aa ae⟩
  ·cases x.bT m||x.cY xid with
   |true=>exact hx
   |false=>exact aa p ak x hx
  ·cases x.bT m||x.cY xid with
   |true=>exact hx
   |false=>exact ae p x hx
 | .e0 m xid _ a k,f,N,aq,aa,ae=>by
  have aq:Nat.max m (Nat.max a.lvl k.lvl)<N:=aq
  have g0:m≤Nat.max m (Nat.max a.lvl k.lvl):=Nat.le_max_left _ _
  have g3:Nat.max a.lvl k.lvl≤Nat.max m (Nat.max a.lvl k.lvl):=Nat.le_max_right _ _
  have g1:a.lvl≤Nat.max a.lvl k.lvl:=Nat.le_max_left _ _
  have g2:k.lvl≤Nat.max a.lvl k.lvl:=Nat.le_max_right _ _
  refine⟨fun x hx ax=>⟨aa m (by omega) x hx,ae xid x ax⟩,ni (t:=a) N (by omega) (fun p ak x hx=>?_) (fun p x hx=>?_),ni (t:=k) N (by omega) aa ae⟩
  ·cases x.bT m||x.cY xid with
   |true=>exact hx
   |false=>exact aa p ak x hx
  ·cases x.bT m||x.cY xid with
   |true=>exact hx
   |false=>exact ae p x hx
 | .bad _,_,_,_,_,_=>trivial
theorem zeL(t:aC)(i:Nat):t.iA (pk i):=ni (t.lvl+1) (Nat.lt_succ_self _) (fun n _ x=>zeH i n x) (fun n x=>zeI i n x)
theorem K7{t:aC}{n:Nat}(h:t.lvl<n):t.iA (fK n):=ni n h (fun m hm x=>zeJ n m (by omega) x) (fun m x=>zeK n m x)
def pn(o:Option (b0→Bool))(x:b0):Bool:=
 match o with
 |none=>true
 |some f=>f x
def aC.eJ(f:ao→aC):aC→Option (b0→Bool)→aC
 | .cH .cj S,none=>f S
 | .cH .cj S,some o=>match(f S).ft o with
  |true=>f S
  |false=>.bad 9
 | .cH x S,_=>.cH x S
 | .lt i x t,o=>.lt i x (t.eJ f o)
 | .eG n t,o=>.eG n (t.eJ f o)
 | .it c a b,o=>.it c (a.eJ f o) (b.eJ f o)
 | .dC n a ps k,o=>.dC n (a.eJ f (some fun x=>!(x.bT n)&&pn o x)) ps (k.eJ f o)
 | .eo m xid dk b1 ca a k,o=>.eo m xid dk b1 ca (a.eJ f (some fun x=>!(x.bT m)&&(!(x.cY xid)&&pn o x))) (k.eJ f o)
 | .e0 m xid ca a k,o=>.e0 m xid ca (a.eJ f (some fun x=>!(x.bT m)&&(!(x.cY xid)&&pn o x))) (k.eJ f o)
 | .bad n,_=>.bad n
end Go.aL
namespace Go.aL
open Go
theorem yO{R A:Type}{b c:Nat→A→Step R A}(I:Nat→A→Prop)(n:Nat)(h: ∀i v,i<n→I i v→c i v=b i v∧∀bh,b i v= .br bh→I (i+1) bh): ∀(m k:Nat) (a:A),k+m=n→I k a→bo c k m a=bo b k m a
 |0,_,_,_,_=>rfl
 |m+1,k,a,hn,hi=>by
  obtain⟨aa,ae⟩:=h k a (by omega) hi
  simp only[bo,aa]
  cases ad:b k a with
  |ret r=>rfl
  |cO a=>rfl
  |br v=>exact yO I n h m (k+1) v (by omega) (ae v ad)
theorem K8{R A:Type}{b c:A→Step R A}(I:A→Prop)(h: ∀v,I v→c v=b v∧∀bh,b v= .br bh→I bh): ∀(m:Nat) (a:A),I a→c5 c m a=c5 b m a∧(kb c m a↔kb b m a)
 |0,_,_=>⟨rfl,Iff.rfl⟩
 |m+1,a,hi=>by
  obtain⟨aa,ae⟩:=h a hi;simp only[c5,kb,aa]
  cases ad:b a with
  |ret r=>exact⟨rfl,Iff.rfl⟩
  |cO a=>exact⟨rfl,Iff.rfl⟩
  |br v=>exact K8 I h m v (ae v ad)
def iB(M:List aR)(f:ao→aC)(o:Option ng):Option ng:=
 match o with
 |some (.cj,S,e)=>run M (f S) e
 |o=>o
section
variable {M:List aR} {f:ao→aC}
theorem Av{x:b0}{S:ao}{e:Env}(h:x≠ .cj):iB M f (some (x,S,e))=some (x,S,e):=by
 unfold iB
 split
 ·rename_i hx;cases hx;exact absurd rfl h
 ·rfl
theorem iV(m xid:Nat)(ca:List hE)(a:aC)(e:Env)(v:bY ca):a.fold M e (eh m xid ca fun _ _ _=>()) (.cO v)=h9 (fun _=>()) (c4 M m xid ca a e v):=by
 unfold c4
 split
 ·rename_i x S ay h
  rw[kf h,xq]
 ·rename_i h
  rw[Au h];rfl
theorem ti{R A X:Type}{f:R→X}{s:Step R A}{v:A}(h:h9 f s= .br v):s= .br v:=by
 cases s<;>simp_all[h9]
theorem SL{m xid:Nat}{ca:List hE}{a bc:aC}{e:Env}{v:bY ca}(h:run M bc e=iB M f (run M a e))(aq: ∀S ay,run M a e=some (.cj,S,ay)→∃x aT aB,run M (f S) ay=some (x,aT,aB)∧x.bT m=false∧x.cY xid=false):
 c4 M m xid ca bc e v=h9 (iB M f) (c4 M m xid ca a e v):=by
 unfold c4
 rw[h]
 cases ag:run M a e with
 |none=>rfl
 |some l=>
  obtain⟨x,S,ay⟩:=l
  cases x with
  |cj=>
   obtain⟨x,aT,aB,aa,ae,au⟩:=aq S ay ag;simp only[iB,aa];rw[ke ae au,ke (x:=.cj) rfl rfl];simp only[h9,iB,aa]
  |ext n=>
   simp only[iB];rw[xq]
   cases hx:b0.cY xid (.ext n)with
   |true=>rw[n8 rfl hx,n8 rfl hx]
   |false=>rw[ke rfl hx,ke rfl hx];rfl
  |ret=>
   simp only[iB];rw[xq,ke rfl rfl,ke rfl rfl];rfl
  |lr n=>
   simp only[iB];rw[xq]
   cases hx:b0.bT m (.lr n)with
   |true=>rw[n7 hx,n7 hx]
   |false=>rw[ke hx rfl,ke hx rfl];rfl
theorem nj: ∀{t:aC} {p q:b0→Bool},t.ft p=true→(∀x,p x=true→q x=true)→t.ft q=true
 | .cH x _,_,_,h,aI=>aI x h
 | .lt _ _ t,_,_,h,aI=>nj (t:=t) h aI
 | .eG _ t,_,_,h,aI=>nj (t:=t) h aI
 | .it _ a b,_,_,h,aI=>by
  simp only[aC.ft,Bool.and_eq_true]at h⊢;exact⟨nj h.1 aI,nj h.2 aI⟩
 | .dC n a _ k,_,_,h,aI=>by
  simp only[aC.ft,Bool.and_eq_true]at h⊢;refine⟨nj h.1 fun x hx=>?_,nj h.2 aI⟩
  simp only[Bool.or_eq_true]at hx⊢;exact hx.imp id (aI x)
 | .eo m xid _ _ _ a k,_,_,h,aI=>by
  simp only[aC.ft,Bool.and_eq_true]at h⊢;refine⟨nj h.1 fun x hx=>?_,nj h.2 aI⟩
  simp only[Bool.or_eq_true]at hx⊢;exact hx.imp id (Or.imp id (aI x))
 | .e0 m xid _ a k,_,_,h,aI=>by
  simp only[aC.ft,Bool.and_eq_true]at h⊢;refine⟨nj h.1 fun x hx=>?_,nj h.2 aI⟩
  simp only[Bool.or_eq_true]at hx⊢;exact hx.imp id (Or.imp id (aI x))
 | .bad _,_,_,h,_=>by cases h
theorem jg: ∀(t:aC) (o:Option (b0→Bool)) {e:Env},(t.eJ f o).safe M e→
    t.safe M e∧run M (t.eJ f o) e=iB M f (run M t e)∧∀S ay,run M t e=some (.cj,S,ay)→(f S).safe M ay∧∀p,o=some p→(f S).ft p=true
  | .cH x S,o,e,h=>by
    cases x with
    |cj=>
      cases o with
      |none=>exact⟨trivial,rfl,fun dc ay ag=>by cases ag;exact⟨h,fun _ ak=>by cases ak⟩⟩
      |some p=>
        simp only[aC.eJ]at h
        split at h
        · rename_i aq
          have ah:(aC.cH .cj S).eJ f (some p)=f S:=by simp only[aC.eJ,aq]
          rw[ah];exact⟨trivial,rfl,fun dc ay ag=>by cases ag;exact⟨h,fun _ ak=>by cases ak;exact aq⟩⟩
        · exact h.elim
    |_=>exact⟨trivial,rfl,fun dc ay ag=>by cases ag⟩
  | .lt i x t,o,_,h=>jg t o (e:=ba.put _ i _) h
  | .eG n t,o,e,h=>by
    obtain⟨aa,ae,au⟩:=jg t o h.2;exact⟨⟨h.1,aa⟩,ae,au⟩
  | .it c a b,o,e,h=>by
    have a1:=fun hc=>jg a o (h.1 hc)
    have ad:=fun hc=>jg b o (h.2 hc)
    refine⟨⟨fun hc=>(a1 hc).1,fun hc=>(ad hc).1⟩,?_⟩
    simp only[run,aC.eJ,aC.fold]
    cases hc:c.az e .bool with
    |true=>exact(a1 hc).2
    |false=>exact(ad hc).2
  | .dC n a ps k,o,e,h=>by
    obtain⟨b6,a2,a3⟩:=jg a _ h.1
    have ai:(aC.dC n a ps k).safe M e∧run M ((aC.dC n a ps k).eJ f o) e=iB M f (run M (aC.dC n a ps k) e)∧∀S ay,run M (aC.dC n a ps k) e=some (.cj,S,ay)→(f S).safe M ay∧∀p,o=some p→(f S).ft p=true:=by
      show _∧run M (.dC n (a.eJ f (some fun x=>!(x.bT n)&&pn o x)) ps (k.eJ f o)) e=_∧_
      cases ag:run M a e with
      |none=>
        rw[ag]at a2
        have a2:run M _ e=none:=a2
        refine⟨⟨b6,fun af=>by rw[Au ag]at af;cases af⟩,?_,fun S ay af=>by unfold run at af;rw[th ag]at af;cases af⟩
        unfold run;rw[th a2,th ag];rfl
      |some l=>
        obtain⟨x,aT,aB⟩:=l
        cases hx:x.bT n with
        |true=>
          have b4:x≠ .cj:=fun e=>by rw[e]at hx;cases hx
          rw[ag,Av b4]at a2
          have aj:=SK h a2 hx
          obtain⟨fy,gH,k8⟩:=jg k o aj;refine⟨⟨b6,fun _=>?_⟩,?_,fun S ay af=>?_⟩
          · have:(fun(r:aV) (p:eA)=>(⟨r,bif a.jw n
      then a.fold M e (fun _ S ay=>(p.de S).get ay r) r.fz
      else a.fold M e (fun x S ay=>bif x.bT n then(p.de S).get ay r else r.fz) r.fz⟩:aF))=fun r p=>⟨r,(p.de aT).get aB r⟩:=by
              funext r p
              simp only[kf ag,hx]
              cases a.jw n<;>rfl
            rw[this];exact fy
          · unfold run
            rw[qE a2 hx,qE ag hx];exact gH
          · unfold run at af
            rw[qE ag hx]at af;exact k8 S ay af
        |false=>
          have SM:(aC.dC n a ps k).safe M e:=⟨b6,fun af=>by rw[kf ag,hx]at af;cases af⟩
          by_cases b4:x= .cj
          · subst b4
            obtain⟨f1,f2⟩:=a3 aT aB ag
            have f2:=f2 _ rfl
            obtain⟨y,dP,bf,g1,g2⟩:=jh (M:=M) (e:=aB) f2;simp only[Bool.and_eq_true,Bool.not_eq_true']at g2;rw[ag]at a2
            have a2:run M _ e=run M (f aT) aB:=a2
            rw[g1]at a2;refine⟨SM,?_,fun S ay af=>?_⟩
            · have aa:run M (aC.dC n a ps k) e=some (.cj,aT,aB):=by unfold run;rw[nh ag hx]
              rw[aa];show _=run M (f aT) aB;rw[g1];unfold run;rw[nh a2 g2.1]
            · unfold run at af
              rw[nh ag hx]at af;cases af;refine⟨f1,fun p ak=>?_⟩
              subst ak;exact nj f2 fun x hx=>by simp only[Bool.and_eq_true]at hx;exact hx.2
          · rw[ag,Av b4]at a2
            refine⟨SM,?_,fun S ay af=>?_⟩
            · unfold run
              rw[nh a2 hx,nh ag hx,Av b4]
            · unfold run at af
              rw[nh ag hx]at af;cases af;exact absurd rfl b4
    exact ai
  | .eo m xid dk b1 ca a k,o,e,h=>by
    obtain⟨⟨I,i0,bW⟩,aj⟩:=h
    have key: ∀(i:Nat) (v:bY ca),i<(cm (dk.den M e)).toNat→I i v→a.safe M (bl (ba.put e b1 ⟨.int .i64,(i:Int)⟩) ca v)∧
        c4 M m xid ca (a.eJ f (some fun x=>!(x.bT m)&&(!(x.cY xid)&&pn o x))) (bl (ba.put e b1 ⟨.int .i64,(i:Int)⟩) ca v) v=h9 (iB M f) (c4 M m xid ca a (bl (ba.put e b1 ⟨.int .i64,(i:Int)⟩) ca v) v)∧
        (∀bh,c4 M m xid ca a (bl (ba.put e b1 ⟨.int .i64,(i:Int)⟩) ca v) v= .br bh→I (i+1) bh)∧
        ∀S ay,c4 M m xid ca a (bl (ba.put e b1 ⟨.int .i64,(i:Int)⟩) ca v) v= .ret (some (.cj,S,ay))→(f S).safe M ay∧∀p,o=some p→(f S).ft p=true:=by
      intro i v hi aw;obtain⟨s1,s2⟩:=bW i v hi aw;obtain⟨b6,a2,a3⟩:=jg a _ s1
      have ah:=SL (m:=m) (xid:=xid) (ca:=ca) (v:=v) a2 fun S ay ag=>by
        obtain⟨y,dP,bf,g1,g2⟩:=jh (M:=M) (e:=ay) ((a3 S ay ag).2 _ rfl);simp only[Bool.and_eq_true,Bool.not_eq_true']at g2;exact⟨y,dP,bf,g1,g2.1,g2.2.1⟩
      refine⟨b6,ah,fun bh gQ=>s2 bh ?_,fun S ay ag=>?_⟩
      · rw[iV,ah,gQ]
        rfl
      · unfold c4 at ag
        cases po:run M a (bl (ba.put e b1 ⟨.int .i64,(i:Int)⟩) ca v)with
        |none=>rw[po]at ag;cases ag
        |some l=>
          obtain⟨x,dc,An⟩:=l;rw[po]at ag;simp only at ag
          cases hx:x.bT m with
          |true=>rw[n7 hx]at ag;cases ag
          |false=>
            cases ax:x.cY xid with
            |true=>rw[n8 hx ax]at ag;cases ag
            |false=>
              rw[ke hx ax]at ag;cases ag;obtain⟨f1,f2⟩:=a3 S ay po;refine⟨f1,fun p ak=>?_⟩
              subst ak;exact nj (f2 _ rfl) fun x hx=>by simp only[Bool.and_eq_true]at hx;exact hx.2.2
    have sy:bo (fun i (v:bY ca)=>(a.eJ f (some fun x=>!(x.bT m)&&(!(x.cY xid)&&pn o x))).fold M (bl (ba.put e b1 ⟨.int .i64,(i:Int)⟩) ca v) (eh m xid ca fun _ _ _=>()) (.cO v)) 0 (cm (dk.den M e)).toNat (b9 _ (dE e ca))=
        bo (fun i (v:bY ca)=>a.fold M (bl (ba.put e b1 ⟨.int .i64,(i:Int)⟩) ca v) (eh m xid ca fun _ _ _=>()) (.cO v)) 0 (cm (dk.den M e)).toNat (b9 _ (dE e ca)):=
      yO I _ (fun i v hi aw=>by
        obtain⟨_,g2,g3,_⟩:=key i v hi aw;refine⟨?_,fun bh gQ=>g3 bh ?_⟩
        · rw[iV,iV,g2]
          cases c4 M m xid ca a (bl (ba.put e b1 ⟨.int .i64,(i:Int)⟩) ca v) v<;>rfl
        · rw[iV]at gQ
          exact ti gQ) _ 0 _ (by omega) i0
    rw[sy]at aj
    have fL:bo (fun i (v:bY ca)=>(a.eJ f (some fun x=>!(x.bT m)&&(!(x.cY xid)&&pn o x))).fold M (bl (ba.put e b1 ⟨.int .i64,(i:Int)⟩) ca v) (eh m xid ca fun x S e=>some (x,S,e)) (.cO v)) 0 (cm (dk.den M e)).toNat (b9 _ (dE e ca))=
        bo (fun i (v:bY ca)=>h9 (iB M f) (c4 M m xid ca a (bl (ba.put e b1 ⟨.int .i64,(i:Int)⟩) ca v) v)) 0 (cm (dk.den M e)).toNat (b9 _ (dE e ca)):=
      yO I _ (fun i v hi aw=>by
        obtain⟨_,g2,g3,_⟩:=key i v hi aw;refine⟨?_,fun bh gQ=>g3 bh (ti gQ)⟩
        rw[xr,g2]) _ 0 _ (by omega) i0
    have fQ: ∀(n i:Nat) (v:bY ca),i+n=(cm (dk.den M e)).toNat→I i v→∀S ay,bo (fun i (v:bY ca)=>c4 M m xid ca a (bl (ba.put e b1 ⟨.int .i64,(i:Int)⟩) ca v) v) i n v= .inl (some (.cj,S,ay))→(f S).safe M ay∧∀p,o=some p→(f S).ft p=true:=by
      intro n
      induction n with
      |zero=>intro i v _ _ S ay h;cases h
      |succ n aY=>
        intro i v k1 aw S ay h;obtain⟨_,_,g3,g4⟩:=key i v (by omega) aw
        simp only[bo]at h
        cases ag:c4 M m xid ca a (bl (ba.put e b1 ⟨.int .i64,(i:Int)⟩) ca v) v with
        |ret r=>rw[ag]at h;cases h;exact g4 S ay ag
        |cO bh=>rw[ag]at h;cases h
        |br bh=>rw[ag]at h;exact aY (i+1) bh (by omega) (g3 bh ag) S ay h
    have cr:run M (.eo m xid dk b1 ca a k) e=Sum.elim (fun r=>r) (fun v=>run M k (bl e ca v)) (bo (fun i (v:bY ca)=>c4 M m xid ca a (bl (ba.put e b1 ⟨.int .i64,(i:Int)⟩) ca v) v) 0 (cm (dk.den M e)).toNat (b9 _ (dE e ca))):=by
      unfold run;rw[xt];simp only[xr]
    have K9:run M ((aC.eo m xid dk b1 ca a k).eJ f o) e=Sum.elim (fun r=>r) (fun v=>run M (k.eJ f o) (bl e ca v)) (Sum.map (iB M f) id (bo (fun i (v:bY ca)=>c4 M m xid ca a (bl (ba.put e b1 ⟨.int .i64,(i:Int)⟩) ca v) v) 0 (cm (dk.den M e)).toNat (b9 _ (dE e ca)))):=by
      show aC.fold M (.eo m xid dk b1 ca (a.eJ f (some fun x=>!(x.bT m)&&(!(x.cY xid)&&pn o x))) (k.eJ f o)) e _ none=_;rw[xt,fL,uh (iB M f) (fun _ _=>rfl)];rfl
    have eB: ∀v,bo (fun i (v:bY ca)=>c4 M m xid ca a (bl (ba.put e b1 ⟨.int .i64,(i:Int)⟩) ca v) v) 0 (cm (dk.den M e)).toNat (b9 _ (dE e ca))= .inr v→(k.eJ f o).safe M (bl e ca v):=fun v aw=>by
      simp only[iV]at aj;rw[uh (fun _=>()) (fun _ _=>rfl),aw]at aj;exact aj
    refine⟨⟨⟨I,i0,fun i v hi aw=>?_⟩,?_⟩,?_,fun S ay ag=>?_⟩
    · obtain⟨g1,_,g3,_⟩:=key i v hi aw
      exact⟨g1,fun bh gQ=>g3 bh (ti (by rw[iV]at gQ;exact gQ))⟩
    · simp only[iV]
      rw[uh (fun _=>()) (fun _ _=>rfl)]
      cases aw:bo (fun i (v:bY ca)=>c4 M m xid ca a (bl (ba.put e b1 ⟨.int .i64,(i:Int)⟩) ca v) v) 0 (cm (dk.den M e)).toNat (b9 _ (dE e ca))with
      |inl r=>trivial
      |inr v=>exact(jg k o (eB v aw)).1
    · rw[cr,K9]
      cases aw:bo (fun i (v:bY ca)=>c4 M m xid ca a (bl (ba.put e b1 ⟨.int .i64,(i:Int)⟩) ca v) v) 0 (cm (dk.den M e)).toNat (b9 _ (dE e ca))with
      |inl r=>rfl
      |inr v=>exact(jg k o (eB v aw)).2.1
    · rw[cr]at ag
      cases aw:bo (fun i (v:bY ca)=>c4 M m xid ca a (bl (ba.put e b1 ⟨.int .i64,(i:Int)⟩) ca v) v) 0 (cm (dk.den M e)).toNat (b9 _ (dE e ca))with
      |inl r=>
        rw[aw]at ag
        have ag:r=some (.cj,S,ay):=ag
        subst ag;exact fQ _ 0 _ (by omega) i0 S ay aw
      |inr v=>
        rw[aw]at ag;exact(jg k o (eB v aw)).2.2 S ay ag
  | .e0 m xid ca a k,o,e,h=>by
    obtain⟨⟨I,i0,bW⟩,he,aj⟩:=h
    have key: ∀(v:bY ca),I v→a.safe M (bl e ca v)∧
        c4 M m xid ca (a.eJ f (some fun x=>!(x.bT m)&&(!(x.cY xid)&&pn o x))) (bl e ca v) v=h9 (iB M f) (c4 M m xid ca a (bl e ca v) v)∧
        (∀bh,c4 M m xid ca a (bl e ca v) v= .br bh→I bh)∧
        ∀S ay,c4 M m xid ca a (bl e ca v) v= .ret (some (.cj,S,ay))→(f S).safe M ay∧∀p,o=some p→(f S).ft p=true:=by
      intro v aw;obtain⟨s1,s2⟩:=bW v aw;obtain⟨b6,a2,a3⟩:=jg a _ s1
      have ah:=SL (m:=m) (xid:=xid) (ca:=ca) (v:=v) a2 fun S ay ag=>by
        obtain⟨y,dP,bf,g1,g2⟩:=jh (M:=M) (e:=ay) ((a3 S ay ag).2 _ rfl);simp only[Bool.and_eq_true,Bool.not_eq_true']at g2;exact⟨y,dP,bf,g1,g2.1,g2.2.1⟩
      refine⟨b6,ah,fun bh gQ=>s2 bh ?_,fun S ay ag=>?_⟩
      · rw[iV,ah,gQ]
        rfl
      · unfold c4 at ag
        cases po:run M a (bl e ca v)with
        |none=>rw[po]at ag;cases ag
        |some l=>
          obtain⟨x,dc,An⟩:=l;rw[po]at ag;simp only at ag
          cases hx:x.bT m with
          |true=>rw[n7 hx]at ag;cases ag
          |false=>
            cases ax:x.cY xid with
            |true=>rw[n8 hx ax]at ag;cases ag
            |false=>
              rw[ke hx ax]at ag;cases ag;obtain⟨f1,f2⟩:=a3 S ay po;refine⟨f1,fun p ak=>?_⟩
              subst ak;exact nj (f2 _ rfl) fun x hx=>by simp only[Bool.and_eq_true]at hx;exact hx.2.2
    have sy:=K8 (b:=fun(v:bY ca)=>(a.fold M (bl e ca v) (eh m xid ca fun _ _ _=>()) (.cO v):Step Unit (bY ca))) (c:=fun(v:bY ca)=>((a.eJ f (some fun x=>!(x.bT m)&&(!(x.cY xid)&&pn o x))).fold M (bl e ca v) (eh m xid ca fun _ _ _=>()) (.cO v):Step Unit (bY ca))) I (fun v aw=>by
        obtain⟨_,g2,g3,_⟩:=key v aw;refine⟨?_,fun bh gQ=>g3 bh ?_⟩
        · rw[iV,iV,g2]
          cases c4 M m xid ca a (bl e ca v) v<;>rfl
        · rw[iV]at gQ
          exact ti gQ) dV _ i0
    rw[sy.1]at aj
    have he:=sy.2.1 he
    have fL:=(K8 (b:=fun(v:bY ca)=>h9 (iB M f) (c4 M m xid ca a (bl e ca v) v)) (c:=fun(v:bY ca)=>(a.eJ f (some fun x=>!(x.bT m)&&(!(x.cY xid)&&pn o x))).fold M (bl e ca v) (eh m xid ca fun x S e=>some (x,S,e)) (.cO v)) I (fun v aw=>by
        obtain⟨_,g2,g3,_⟩:=key v aw;refine⟨?_,fun bh gQ=>g3 bh (ti gQ)⟩
        rw[xr,g2]) dV _ i0).1
    have fQ: ∀(n:Nat) (v:bY ca),I v→∀S ay,c5 (fun(v:bY ca)=>c4 M m xid ca a (bl e ca v) v) n v= .inl (some (.cj,S,ay))→(f S).safe M ay∧∀p,o=some p→(f S).ft p=true:=by
      intro n
      induction n with
      |zero=>intro v _ S ay h;cases h
      |succ n aY=>
        intro v aw S ay h;obtain⟨_,_,g3,g4⟩:=key v aw;simp only[c5]at h
        cases ag:c4 M m xid ca a (bl e ca v) v with
        |ret r=>rw[ag]at h;cases h;exact g4 S ay ag
        |cO bh=>rw[ag]at h;cases h
        |br bh=>rw[ag]at h;exact aY bh (g3 bh ag) S ay h
    have cr:run M (.e0 m xid ca a k) e=Sum.elim (fun r=>r) (fun v=>run M k (bl e ca v)) (c5 (fun(v:bY ca)=>c4 M m xid ca a (bl e ca v) v) dV (b9 _ (dE e ca))):=by
      simp only[run,aC.fold,xr]
    have K9:run M ((aC.e0 m xid ca a k).eJ f o) e=Sum.elim (fun r=>r) (fun v=>run M (k.eJ f o) (bl e ca v)) (Sum.map (iB M f) id (c5 (fun(v:bY ca)=>c4 M m xid ca a (bl e ca v) v) dV (b9 _ (dE e ca)))):=by
      rw[←xp (iB M f) (c:=fun(v:bY ca)=>h9 (iB M f) (c4 M m xid ca a (bl e ca v) v)) (fun _=>rfl),←fL];rfl
    have eB: ∀v,c5 (fun(v:bY ca)=>c4 M m xid ca a (bl e ca v) v) dV (b9 _ (dE e ca))= .inr v→(k.eJ f o).safe M (bl e ca v):=fun v aw=>by
      simp only[iV]at aj;rw[xp (fun _=>()) (fun _=>rfl),aw]at aj;exact aj
    refine⟨⟨⟨I,i0,fun v aw=>?_⟩,he,?_⟩,?_,fun S ay ag=>?_⟩
    · obtain⟨g1,_,g3,_⟩:=key v aw
      exact⟨g1,fun bh gQ=>g3 bh (ti (by rw[iV]at gQ;exact gQ))⟩
    · simp only[iV]
      rw[xp (fun _=>()) (fun _=>rfl)]
      cases aw:c5 (fun(v:bY ca)=>c4 M m xid ca a (bl e ca v) v) dV (b9 _ (dE e ca))with
      |inl r=>trivial
      |inr v=>exact(jg k o (eB v aw)).1
    · rw[cr,K9]
      cases aw:c5 (fun(v:bY ca)=>c4 M m xid ca a (bl e ca v) v) dV (b9 _ (dE e ca))with
      |inl r=>rfl
      |inr v=>exact(jg k o (eB v aw)).2.1
    · rw[cr]at ag
      cases aw:c5 (fun(v:bY ca)=>c4 M m xid ca a (bl e ca v) v) dV (b9 _ (dE e ca))with
      |inl r=>
        rw[aw]at ag
        have ag:r=some (.cj,S,ay):=ag
        subst ag;exact fQ _ _ i0 S ay aw
      |inr v=>
        rw[aw]at ag;exact(jg k o (eB v aw)).2.2 S ay ag
  | .bad _,_,_,h=>h.elim
end
end Go.aL
namespace Go.aL
open Go
theorem n9(G:a8)(e:Env)(l:ba ab): ∀(n i j:Nat),(kd G e l i n)[j]? =if j<n then some (match l.get (i+j)with|some x=>x.den G e|none=>.top)else none
 |0,_,_=>by simp[kd]
 |n+1,i,0=>by simp only[kd,List.getElem?_cons_zero,Nat.add_zero,Nat.zero_lt_succ,if_true]<;>rfl
 |n+1,i,j+1=>by
  simp only[kd,List.getElem?_cons_succ,n9 G e l n (i+1) j]
  rw[show i+1+j=i+(j+1)by omega]
  simp
theorem D8(G:a8)(e:Env)(l:ba ab): ∀(n i:Nat),(kd G e l i n).length=n
 |0,_=>rfl
 |n+1,i=>by simp[kd,D8 G e l n (i+1)]
theorem vk(G:a8)(N B:Nat)(e:Env)(S:ao)(j:Nat):(S.den G N B e).cS[j]? =if j<N then some ((S.at j).den G e)else none:=by
 simp only[ao.den,n9,Nat.zero_add]
 by_cases h:j<N
 ·simp only[h,if_true,Option.some.injEq]
  unfold ao.at
  cases S.l.get j<;>rfl
 ·simp[h]
def Aw:ab→ab→Bool
 | .aU r i,.aU q j=>Nat.beq i j&&hT r q
 | .fd c i k r,.fd d j m q=>(Nat.beq i j&&Nat.beq k m)&&(decide (c=d)&&hT r q)
 |_,_=>false
theorem La{x y:ab}(h:Aw x y=true):x=y:=by
 unfold Aw at h
 split at h
 ·simp only[Bool.and_eq_true]at h
  rw[Nat.eq_of_beq_eq_true h.1,hs h.2]
 ·simp only[Bool.and_eq_true,decide_eq_true_eq]at h
  rw[Nat.eq_of_beq_eq_true h.1.1,Nat.eq_of_beq_eq_true h.1.2,h.2.1,hs h.2.2]
 ·cases h
def lu(g:ab):List b5→Option Bool
 |[]=>none
 | .dU h b::r=>match Aw h g with
  |true=>some b
  |false=>lu g r
 |_::r=>lu g r
theorem qF{e:Env}{g:ab}{b:Bool}: ∀{l:List b5},lu g l=some b→(∀c∈l,c.ok e)→g.az e .bool=b
 | .dU h b'::r,aj,hc=>by
  simp only[lu]at aj
  split at aj
  ·rename_i ai
   cases aj;rw[←La ai];exact hc (.dU h b) (by simp)
  ·exact qF aj fun c hm=>hc c (by simp[hm])
 | .d1 _ _ _::r,aj,hc=>qF (l:=r) aj fun c hm=>hc c (by simp[hm])
 | .d2 _ _ _ _::r,aj,hc=>qF (l:=r) aj fun c hm=>hc c (by simp[hm])
 | .rg _ _::r,aj,hc=>qF (l:=r) aj fun c hm=>hc c (by simp[hm])
def ab.res(l:List b5):ab→ab
 | .fJ g b v=>match lu g l with
  |some c=>match decide (c=b)with
   |true=>v.res l
   |false=>.tp []
  |none=>.fJ g b (v.res l)
 | .fj g id off=>match lu g l,id with
  |some true,some id=>.ee id off
  |some false,_=>.cs (.pointer none)
  |_,_=>.fj g id off
 |x=>x
theorem SN{l:List b5}{g v:ab}{b:Bool}:(ab.fJ g b v).res l=match lu g l with
 |some c=>match decide (c=b)with
  |true=>v.res l
  |false=>.tp []
 |none=>.fJ g b (v.res l):=by rw[ab.res]
theorem SO{l:List b5}{g:ab}{id:Option Nat}{off:Nat}:(ab.fj g id off).res l=match lu g l,id with
 |some true,some id=>.ee id off
 |some false,_=>.cs (.pointer none)
 |_,_=>.fj g id off:=by
 cases aj:lu g l with
 |none=>simp only[ab.res,aj]
 |some b=>cases b<;>cases id<;>simp only[ab.res,aj]
theorem Lb{G:a8}{e:Env}{l:List b5}(hc: ∀c∈l,c.ok e): ∀{x:ab},(x.res l).den G e=x.den G e
 | .fJ g b v=>by
  have aY:=Lb (G:=G) hc (x:=v)
  rw[SN]
  split
  ·rename_i c aj
   have:=qF aj hc
   split
   ·rename_i hd
    have hd:=of_decide_eq_true hd
    subst hd;rw[aY];simp only[ab.den,this]
    cases c<;>rfl
   ·rename_i hd
    have hd:=of_decide_eq_false hd
    simp only[ab.den,this]
    cases c<;>cases b<;>first|rfl|exact absurd rfl hd
  ·simp only[ab.den,aY]
 | .aU _ _=>rfl
 | .fd _ _ _ _=>rfl
 | .cs _=>rfl
 | .ip _ _ _=>rfl
 | .ch _=>rfl
 | .tp _=>rfl
 | .ee _ _=>rfl
 | .gN _ _ _=>rfl
 | .aO _=>rfl
 | .fn _ _ _=>rfl
 | .gZ _=>rfl
 | .lR _ _=>rfl
 | .gX _ _ _ _=>rfl
 | .cC _ _=>rfl
 | .fj g id off=>by
  rw[SO]
  cases aj:lu g l with
  |none=>rfl
  |some c=>
   have:=qF aj hc
   cases c with
   |true=>cases id with
    |none=>rfl
    |some id=>simp only[ab.den,this]
   |false=>simp only[ab.den,this]
 | .et _ _ _ _=>rfl
 | .top=>rfl
theorem Lc{l:List b5}{k:Nat}: ∀{x:ab},x.lt k=true→(x.res l).lt k=true
 | .fJ g b v,h=>by
  simp only[ab.lt,Bool.and_eq_true]at h;rw[SN]
  split
  ·split
   ·exact Lc h.2
   ·rfl
  ·simp only[ab.lt,h.1,Lc h.2,Bool.and_self]
 | .aU _ _,h=>h
 | .fd _ _ _ _,h=>h
 | .cs _,h=>h
 | .ip _ _ _,h=>h
 | .ch _,h=>h
 | .tp _,h=>h
 | .ee _ _,h=>h
 | .gN _ _ _,h=>h
 | .aO _,h=>h
 | .fn _ _ _,h=>h
 | .gZ _,h=>h
 | .lR _ _,h=>h
 | .gX _ _ _ _,h=>h
 | .cC _ _,h=>h
 | .fj g id off,h=>by
  rw[SO]
  cases lu g l with
  |none=>exact h
  |some c=>cases c with
   |true=>cases id with
    |none=>exact h
    |some id=>rfl
   |false=>rfl
 | .et _ _ _ _,h=>h
 | .top,h=>h
def ao.aZ(N:Nat)(S:ao):Operand→ab
 | .tmp t=>match Nat.blt t N with
  |true=>(S.at t).res S.g
  |false=>.top
 | .const v=>match v.oneCell' with
  |true=>.cs v
  |false=>.top
 | .global g=>.lR g 0
 | .func f=>.fn (.func f) [] []
section
variable {G:a8} {N B:Nat} {e:Env} {S:ao}
theorem bI(hf: ∀c∈S.g,c.ok e)(x:Operand):aJ G (S.den G N B e) x=(S.aZ N x).den G e:=by
 cases x with
 |tmp t=>
  simp only[aJ,ao.aZ,List.getD_eq_getElem?_getD,vk]
  cases h:Nat.blt t N with
  |true=>
   have:t<N:=e7 h
   simp[this,Lb hf]
  |false=>
   have: ¬t<N:=fun h'=>by rw[jS h']at h;cases h
   simp[this,ab.den]
 |const v=>
  simp only[aJ,ao.aZ]
  cases v.oneCell'<;>simp[ab.den]
 |global g=>
  simp only[aJ,ao.aZ,ab.den]
  cases G g with
  |none=>rfl
  |some l=>simp
 |func f=>simp[aJ,ao.aZ,ab.den,ab.bQ]
def ao.put(S:ao)(dst:Option Nat)(v:ab):ao:=
 match dst with
 |some d=>{S with l:=S.l.put d v}
 |none=>S
theorem Ld(d:Nat)(v:ab)(l:ba ab):kd G e (l.put d v) 0 N=(kd G e l 0 N).set d (v.den G e):=by
 apply List.ext_getElem?
 intro j
 rw[n9,List.getElem?_set,n9,D8,Nat.zero_add,ba.h0]
 by_cases hd:d=j
 ·subst hd
  by_cases af:d<N<;>simp[af]
 ·simp[hd]
theorem fb(dst:Option Nat)(v:ab):(S.put dst v).den G N B e=(S.den G N B e).put dst (v.den G e):=by
 cases dst with
 |none=>rfl
 |some d=>simp only[ao.put,ao.den,aP.put,Ld]
theorem ei: ∀(h:List (Nat × bG)) (id:Nat),aE (cy G e h) id=(da h id).map (bG.den G e)
 |[],_=>rfl
 |(i,o)::r,id=>by
  simp only[cy,aE,da,qC]
  by_cases h:i=id
  ·simp[h]
  ·simp only[h,if_false,decide_false]
   exact ei r id
theorem tj: ∀(h:List (Nat × bG)) (id:Nat) (o:bG),cy G e (jv h id o)=eN (cy G e h) id (o.den G e)
 |[],_,_=>rfl
 |(i,p)::r,id,o=>by
  simp only[jv,cy,eN,qC]
  by_cases h:i=id
  ·simp[h,cy]
  ·simp only[h,decide_false,if_false,cy,tj r id o]
end
def bG.lt(k:Nat):bG→Bool
 | .dj _ l=>ab.cL k l
 | .rw _ _ x=>x.lt k
 | .it _ x p=>x.lt k&&p.lt k
def eH(k:Nat):List (Nat × bG)→Bool
 |[]=>true
 |(_,o)::r=>o.lt k&&eH k r
def b5.lt(k:Nat):b5→Bool
 | .d1 i _ x=>Nat.blt i k&&x.lt k
 | .d2 i _ x y=>Nat.blt i k&&(x.lt k&&y.lt k)
 | .rg i b=>Nat.blt i k&&b.lt k
 | .dU g _=>g.lt k
def fk(k:Nat):List b5→Bool
 |[]=>true
 |c::r=>c.lt k&&fk k r
structure ao.ct (S:ao):Prop where
 l: ∀i x,S.l.get i=some x→x.lt S.k=true
 h:eH S.k S.h=true
 g:fk S.k S.g=true
mutual
theorem gE{k m:Nat}(h:k≤m): ∀{x:ab},x.lt k=true→x.lt m=true:=fun {x} hx=>by
 cases x with
 |aU r i=>exact jS (Nat.lt_of_lt_of_le (e7 hx) h)
 |fd c i j r=>exact jS (Nat.lt_of_lt_of_le (e7 (i:=i) hx) h)
 |ip c i j=>exact jS (Nat.lt_of_lt_of_le (e7 (i:=i) hx) h)
 |ch l=>exact vl (l:=l) h hx
 |tp l=>exact vl (l:=l) h hx
 |gN id x off=>exact gE (x:=x) h hx
 |gX id off x n=>exact gE (x:=x) h hx
 |fj g id off=>exact gE (x:=g) h hx
 |et t a rs l=>exact vl h (l:=l) hx
 |fn f a b=>
  simp only[ab.lt,Bool.and_eq_true]at hx⊢;exact⟨vl h hx.1,vl h hx.2⟩
 |fJ g b x=>
  simp only[ab.lt,Bool.and_eq_true]at hx⊢;exact⟨gE h hx.1,gE h hx.2⟩
 |_=>rfl
theorem vl{k m:Nat}(h:k≤m): ∀{l:List ab},ab.cL k l=true→ab.cL m l=true:=fun {l} aq=>by
 match l with
 |[]=>rfl
 |x::r=>
  simp only[ab.cL,Bool.and_eq_true]at aq⊢;exact⟨gE h aq.1,vl h aq.2⟩
end
theorem tk{k m:Nat}(h:k≤m): ∀{l:List (Nat × bG)},eH k l=true→eH m l=true
 |[],_=>rfl
 |(_,o)::r,aq=>by
  simp only[eH,Bool.and_eq_true]at aq⊢;refine⟨?_,tk h aq.2⟩
  cases o with
  |dj t l=>exact vl h (l:=l) aq.1
  |rw t c x=>exact gE h (x:=x) aq.1
  |it q x p=>
   have aa:=aq.1
   simp only[bG.lt,Bool.and_eq_true]at aa⊢;exact⟨gE h aa.1,gE h aa.2⟩
theorem oa{k m:Nat}(h:k≤m): ∀{l:List b5},fk k l=true→fk m l=true
 |[],_=>rfl
 |c::r,aq=>by
  simp only[fk,Bool.and_eq_true]at aq⊢;refine⟨?_,oa h aq.2⟩
  cases c with
  |d1 i f x=>
   have:=aq.1
   simp only[b5.lt,Bool.and_eq_true]at this⊢;exact⟨jS (Nat.lt_of_lt_of_le (e7 this.1) h),gE h this.2⟩
  |d2 i f x y=>
   have:=aq.1
   simp only[b5.lt,Bool.and_eq_true]at this⊢;exact⟨jS (Nat.lt_of_lt_of_le (e7 this.1) h),gE h this.2.1,gE h this.2.2⟩
  |rg i b=>
   have:=aq.1
   simp only[b5.lt,Bool.and_eq_true]at this⊢;exact⟨jS (Nat.lt_of_lt_of_le (e7 this.1) h),gE h this.2⟩
  |dU g b=>exact gE h (x:=g) aq.1
section
variable {G:a8} {N B:Nat} {e ay:Env} {S:ao} {k:Nat}
theorem xu(h:bX k e ay): ∀{l:List (Nat × bG)},eH k l=true→cy G ay l=cy G e l
 |[],_=>rfl
 |(_,o)::r,aq=>by
  simp only[eH,Bool.and_eq_true]at aq;simp only[cy,xu h aq.2]
  congr 2
  cases o with
  |dj t l=>simp only[bG.den,xk h (l:=l) aq.1]
  |rw t c x=>simp only[bG.den,eF h (x:=x) aq.1]
  |it q x p=>
   have aa:=aq.1
   simp only[bG.lt,Bool.and_eq_true]at aa;simp only[bG.den,eF h (x:=x) aa.1,eF h (x:=p) aa.2]
theorem lv(h:bX S.k e ay)(ad:S.ct):S.den G N B ay=S.den G N B e:=by
 simp only[ao.den,aP.mk.injEq,and_true,true_and]
 refine⟨?_,xu h ad.h⟩
 apply List.ext_getElem?
 intro j
 rw[n9,n9]
 by_cases af:j<N
 ·simp only[af,if_true,Option.some.injEq]
  cases ah:S.l.get (0+j)with
  |none=>rfl
  |some x=>exact ta h (ad.l _ x ah)
 ·simp[af]
theorem ik(h:bX k e ay): ∀{l:List b5},fk k l=true→(∀c∈l,c.ok e)→∀c∈l,c.ok ay
 |[],_,_,_,hc=>by cases hc
 |d::r,aq,hf,c,hc=>by
  simp only[fk,Bool.and_eq_true]at aq
  rcases List.mem_cons.1 hc with rfl|hc
  ·have aM:=hf c (by simp)
   cases c with
   |d1 i f x=>
    have aa:=aq.1
    simp only[b5.lt,Bool.and_eq_true]at aa;simp only[b5.ok]at aM⊢;rw[h i (e7 aa.1),eF h aa.2];exact aM
   |d2 i f x y=>
    have aa:=aq.1
    simp only[b5.lt,Bool.and_eq_true]at aa;simp only[b5.ok]at aM⊢;rw[h i (e7 aa.1),eF h aa.2.1,eF h aa.2.2];exact aM
   |rg i b=>
    have aa:=aq.1
    simp only[b5.lt,Bool.and_eq_true]at aa;simp only[b5.ok]at aM⊢;rw[h i (e7 aa.1),rQ h aa.2];exact aM
   |dU g b=>
    simp only[b5.ok]at aM⊢;rw[eF h (x:=g) aq.1];exact aM
  ·exact ik h aq.2 (fun c hc=>hf c (by simp[hc])) c hc
theorem D9(ad:S.ct)(x:Operand):(S.aZ N x).lt S.k=true:=by
 cases x with
 |tmp t=>
  simp only[ao.aZ]
  split
  ·refine Lc ?_
   unfold ao.at
   split
   ·rename_i x hx;exact ad.l _ x hx
   ·rfl
  ·rfl
 |const v=>simp only[ao.aZ];split<;>rfl
 |global g=>rfl
 |func f=>rfl
end
def bK.lt(k:Nat):bK→Bool
 | .rS _ x=>x.lt k
 | .f1 _ x=>x.lt k
 | .f2 _ x y=>x.lt k&&y.lt k
 | .eC _ x lo hi=>x.lt k&&(ab.cL k lo.toList&&ab.cL k hi.toList)
 | .vi x lo hi=>x.lt k&&(ab.cL k lo.toList&&ab.cL k hi.toList)
 | .D3 _ g x y=>g.lt k&&(x.lt k&&y.lt k)
 | .At _ _ l m=>ab.cL k l&&ab.cL k m
 | .qD _ l=>ab.cL k l
 | .up _ l i x=>l.lt k&&(i.lt k&&x.lt k)
 | .nth _ l i=>ab.cL k l&&i.lt k
 | .D4 _ x=>x.lt k
 | .D5 _ _=>true
 | .D6 _ _ m x y=>m.lt k&&(x.lt k&&y.lt k)
 | .xo _ _ m x=>m.lt k&&x.lt k
 | .vj _ _ m x=>m.lt k&&x.lt k
 | .ca _ l=>ab.cL k l
 | .rT _ p _=>Nat.blt p k
section
variable {e ay:Env} {k:Nat}
theorem xv(h:bX k e ay): ∀{rs:List aV} {l:List ab},ab.cL k l=true→gD ay rs l=gD e rs l
 |[],_,_=>by simp[gD]
 |_::_,[],_=>by simp[gD]
 |r::rs,x::xs,hx=>by
  simp only[ab.cL,Bool.and_eq_true]at hx;simp only[gD,vf h hx.1,xv h hx.2]
theorem Ea(h:bX k e ay){o:Option ab}(an:ab.cL k o.toList=true):mB ay o=mB e o:=by
 cases o with
 |none=>rfl
 |some x=>
  simp only[Option.toList,ab.cL,Bool.and_true]at an;simp only[mB,rQ h an]
theorem SP(h:bX k e ay): ∀{rs:List aV} {l m:List ab},ab.cL k l=true→ab.cL k m=true→kK ay rs l m=kK e rs l m
 |[r],[x],[y],aq,hm=>by
  simp only[ab.cL,Bool.and_eq_true]at aq hm;simp only[kK,eF h aq.1,eF h hm.1]
 |r::s::rs,x::xs,y::ys,aq,hm=>by
  simp only[ab.cL,Bool.and_eq_true]at aq hm
  have:=SP h (rs:=s::rs) aq.2 hm.2
  cases xs<;>cases ys<;>simp only[kK,eF h aq.1,eF h hm.1,this]
 |[r],x::iN::xs,y::ys,aq,hm=>by
  simp only[ab.cL,Bool.and_eq_true]at aq hm;simp only[kK,eF h aq.1,eF h hm.1]
 |[r],[x],y::s5::ys,aq,hm=>by
  simp only[ab.cL,Bool.and_eq_true]at aq hm;simp only[kK,eF h aq.1,eF h hm.1]
 |[],_,_,_,_=>by simp[kK]
 |_::_,[],_,_,_=>by simp[kK]
 |_::_,_::_,[],_,_=>by simp[kK]
theorem SQ(h:bX k e ay){c:bL}: ∀{l:List ab},ab.cL k l=true→mC ay c l=mC e c l
 |[],_=>rfl
 |x::r,aq=>by
  simp only[ab.cL,Bool.and_eq_true]at aq;simp only[mC,vf h aq.1,SQ h aq.2]
theorem SR(h:bX k e ay){r:aV}: ∀{l:List ab} {n:Nat},ab.cL k l=true→te ay r l n=te e r l n
 |[],_,_=>rfl
 |[x],_,aq=>by
  simp only[ab.cL,Bool.and_eq_true]at aq;simp only[te,eF h aq.1]
 |x::y::l,n,aq=>by
  simp only[ab.cL,Bool.and_eq_true]at aq
  have:=SR h (l:=y::l) (n:=n-1) (r:=r) (by simp only[ab.cL,Bool.and_eq_true];exact aq.2)
  simp only[te,eF h aq.1,this]
theorem zeM(M:List aR)(h:bX k e ay){x:bK}(hx:x.lt k=true):x.den M ay=x.den M e:=by
 cases x with
 |rS r x=>simp only[bK.den,vf h (x:=x) hx]
 |f1 f x=>simp only[bK.den,eF h (x:=x) hx]
 |f2 f x y=>
  simp only[bK.lt,Bool.and_eq_true]at hx;simp only[bK.den,eF h hx.1,eF h hx.2]
 |eC c x lo hi=>
  simp only[bK.lt,Bool.and_eq_true]at hx;simp only[bK.den,eF h hx.1,Ea h hx.2.1,Ea h hx.2.2]
 |vi x lo hi=>
  simp only[bK.lt,Bool.and_eq_true]at hx;simp only[bK.den,eF h hx.1,Ea h hx.2.1,Ea h hx.2.2]
 |D3 r g x y=>
  simp only[bK.lt,Bool.and_eq_true]at hx;simp only[bK.den,eF h hx.1,vf h hx.2.1,vf h hx.2.2]
 |At n rs l m=>
  simp only[bK.lt,Bool.and_eq_true]at hx;simp only[bK.den,SP h hx.1 hx.2]
 |qD c l=>simp only[bK.den,SQ h (l:=l) hx]
 |D4 c x=>simp only[bK.den,eF h (x:=x) hx]
 |D5 r s=>rfl
 |D6 r s m x y=>
  simp only[bK.lt,Bool.and_eq_true]at hx;simp only[bK.den,eF h hx.1,eF h hx.2.1,vf h hx.2.2]
 |xo r s m x=>
  simp only[bK.lt,Bool.and_eq_true]at hx;simp only[bK.den,eF h hx.1,eF h hx.2]
 |vj r s m x=>
  simp only[bK.lt,Bool.and_eq_true]at hx;simp only[bK.den,eF h hx.1,eF h hx.2]
 |up c l i x=>
  simp only[bK.lt,Bool.and_eq_true]at hx;simp only[bK.den,eF h hx.1,rQ h hx.2.1,vf h hx.2.2]
 |nth r l i=>
  simp only[bK.lt,Bool.and_eq_true]at hx;simp only[bK.den,SR h hx.1,rQ h hx.2]
 |ca j l=>simp only[bK.den,xv h (l:=l) hx]
 |rT rs p i=>simp only[bK.den,h p (e7 hx)]
end
end Go.aL
namespace Go.aL
open Go
section
variable {P:Program} {G:a8} {o:Oper} {s:aP}
theorem cQ.sub{v bh:aD}(h:cQ P G o s v)(ai:Sub v bh):cQ P G o s bh:=fun E a w β ro ag=>by
 obtain⟨c,aa,ae⟩:=h E a w β ro ag
 exact⟨c,aa,ai _ _ _ _ _ _ ae⟩
def Le(op:BinOp)(k bk:IntKind):Bool:=
 match op with
 | .add=>decide (k=bk)
 | .sub=>decide (k=bk)
 | .mul=>decide (k=bk)
 | .quo=>decide (k=bk)
 | .rem=>decide (k=bk)
 | .and=>decide (k=bk)
 | .or=>decide (k=bk)
 | .xor=>decide (k=bk)
 | .shl=>true
 | .shr=>true
 |_=>false
def xw:BinOp→Bool
 | .eql=>true
 | .neq=>true
 | .lss=>true
 | .leq=>true
 | .gtr=>true
 | .geq=>true
 |_=>false
theorem zeN{op:BinOp}{cw ty:TypeId}{x y:Operand}{k bk:IntKind}{a b:Int}(an:o.op= .binOp op cw x y ty)(hx:aJ G s x= .av (.v (.int k a)))(ax:aJ G s y= .av (.v (.int bk b)))(h:Le op k bk=true)(hn:D1 op b):
 cQ P G o s (.av (.v (.int k (bA op k a b)))):=by
 cases op<;>simp only[Le,Bool.false_eq_true,decide_eq_true_eq]at h
 case add=>subst h;exact o2 _ cw ty x y an hx ax (by simp[j5,bA])
 case sub=>subst h;exact o2 _ cw ty x y an hx ax (by simp[j5,bA])
 case mul=>subst h;exact o2 _ cw ty x y an hx ax (by simp[j5,bA])
 case quo=>subst h;exact o2 _ cw ty x y an hx ax (by have: ¬b=0:=hn;simp[j5,bA,this])
 case rem=>subst h;exact o2 _ cw ty x y an hx ax (by have: ¬b=0:=hn;simp[j5,bA,this])
 case and=>subst h;exact xg cw ty x y an hx ax fun w=>by simp[binOp,Op.intBits,bA,aL.lA]
 case or=>subst h;exact xg cw ty x y an hx ax fun w=>by simp[binOp,Op.intBits,bA,aL.kS]
 case xor=>subst h;exact xg cw ty x y an hx ax fun w=>by simp[binOp,Op.intBits,bA,aL.jE]
 case shl=>exact o2 _ cw ty x y an hx ax (by have hn:0≤b:=hn;have: ¬b<0:=(by omega);simp[j5,bA,this])
 case shr=>exact o2 _ cw ty x y an hx ax (by have hn:0≤b:=hn;have: ¬b<0:=(by omega);simp[j5,bA,this])
theorem zeO{op:BinOp}{cw ty:TypeId}{x y:Operand}{k:IntKind}{a b:Int}(an:o.op= .binOp op cw x y ty)(hx:aJ G s x= .av (.v (.int k a)))(ax:aJ G s y= .av (.v (.int k b)))(h:xw op=true):
 cQ P G o s (.av (.v (.bool (As op a b)))):=by
 cases op<;>simp only[xw,Bool.false_eq_true]at h
 all_goals exact o2 _ cw ty x y an hx ax (by simp[j5,Dm,As])
theorem zeP{op:BinOp}{cw ty:TypeId}{x y:Operand}{a b:ByteArray}(an:o.op= .binOp op cw x y ty)(hx:aJ G s x= .av (.v (.string a)))(ax:aJ G s y= .av (.v (.string b)))(h:xw op=true):
 cQ P G o s (.av (.v (.bool (cN op a b)))):=by
 cases op<;>simp only[xw,Bool.false_eq_true]at h
 all_goals exact o2 _ cw ty x y an hx ax (by simp[j5,cN])
def Ax(G:a8)(s:aP)(o:Option Operand)(z:Option Int):Prop:=
 match o,z with
 |none,none=>True
 |some y,some z=>∃k,aJ G s y= .av (.v (.int k z))
 |_,_=>False
theorem SS(i:bL)(ls:List (fO i)){t:TypeId}{x:Operand}{lo hi:Option Operand}{pq lS:Option Int}(an:o.op= .slice t x lo hi none)(aH:j7 P t=some (bZ i))(hx:aJ G s x= .av (.li i ls))(aB:Ax G s lo pq)(bf:Ax G s hi lS)
 (hn:ja ls.length pq lS):mz P G o s (.av (.li i (iL ls pq lS))):=by
 cases lo with
 |none=>
  cases pq with
  |some _=>exact aB.elim
  |none=>
  cases hi with
  |none=>
   cases lS with
   |some _=>exact bf.elim
   |none=>
   have:=DX i ls (l:=0) (h:=ls.length) an aH hx (.inl ⟨rfl,rfl⟩) (.inl ⟨rfl,rfl⟩) (Nat.zero_le _) (Nat.le_refl _)
   rw[List.take_length,List.drop_zero]at this;exact this
  |some y=>
   cases lS with
   |none=>exact bf.elim
   |some h=>
   obtain⟨k,ax⟩:=bf
   have hn:0≤h∧h≤(ls.length:Int):=hn
   obtain⟨n,rfl⟩: ∃n:Nat,h=(n:Int):=⟨h.toNat,by omega⟩
   have:=DX i ls (l:=0) (h:=n) an aH hx (.inl ⟨rfl,rfl⟩) (.inr ⟨y,k,rfl,ax⟩) (Nat.zero_le _) (by omega)
   rw[List.drop_zero]at this;exact this
 |some y=>
  cases pq with
  |none=>exact aB.elim
  |some a=>
  obtain⟨k,ax⟩:=aB
  cases hi with
  |none=>
   cases lS with
   |some _=>exact bf.elim
   |none=>
   have hn:0≤a∧a≤(ls.length:Int):=hn
   obtain⟨n,rfl⟩: ∃n:Nat,a=(n:Int):=⟨a.toNat,by omega⟩
   have:=DX i ls (l:=n) (h:=ls.length) an aH hx (.inr ⟨y,k,rfl,ax⟩) (.inl ⟨rfl,rfl⟩) (by omega) (Nat.le_refl _)
   rw[List.take_length]at this;exact this
  |some rY=>
   cases lS with
   |none=>exact bf.elim
   |some h=>
   obtain⟨gH,Lf⟩:=bf
   have hn:0≤a∧a≤h∧h≤(ls.length:Int):=hn
   obtain⟨n,rfl⟩: ∃n:Nat,a=(n:Int):=⟨a.toNat,by omega⟩
   obtain⟨m,rfl⟩: ∃n:Nat,h=(n:Int):=⟨h.toNat,by omega⟩
   exact DX i ls (l:=n) (h:=m) an aH hx (.inr ⟨y,k,rfl,ax⟩) (.inr ⟨rY,gH,rfl,Lf⟩) (by omega) (by omega)
theorem zeQ(b:ByteArray){t:TypeId}{x:Operand}{lo hi:Option Operand}{pq lS:Option Int}(an:o.op= .slice t x lo hi none)(aH:P.underlying t=some .string)(hx:aJ G s x= .av (.v (.string b)))(aB:Ax G s lo pq)(bf:Ax G s hi lS)
 (hn:ja b.size pq lS):cQ P G o s (.av (.v (.string (mV b pq lS)))):=by
 cases lo with
 |none=>
  cases pq with
  |some _=>exact aB.elim
  |none=>
  cases hi with
  |none=>
   cases lS with
   |some _=>exact bf.elim
   |none=>exact DC t x none none an aH hx (l:=0) (h:=b.size) (.inl ⟨rfl,rfl⟩) (.inl ⟨rfl,rfl⟩) (Nat.zero_le _) (Nat.le_refl _)
  |some y=>
   cases lS with
   |none=>exact bf.elim
   |some h=>
   obtain⟨k,ax⟩:=bf
   have hn:0≤h∧h≤(b.size:Int):=hn
   obtain⟨n,rfl⟩: ∃n:Nat,h=(n:Int):=⟨h.toNat,by omega⟩
   exact DC t x none _ an aH hx (l:=0) (h:=n) (.inl ⟨rfl,rfl⟩) (.inr ⟨y,k,rfl,ax⟩) (Nat.zero_le _) (by omega)
 |some y=>
  cases pq with
  |none=>exact aB.elim
  |some a=>
  obtain⟨k,ax⟩:=aB
  cases hi with
  |none=>
   cases lS with
   |some _=>exact bf.elim
   |none=>
   have hn:0≤a∧a≤(b.size:Int):=hn
   obtain⟨n,rfl⟩: ∃n:Nat,a=(n:Int):=⟨a.toNat,by omega⟩
   exact DC t x _ none an aH hx (l:=n) (h:=b.size) (.inr ⟨y,k,rfl,ax⟩) (.inl ⟨rfl,rfl⟩) (by omega) (Nat.le_refl _)
  |some rY=>
   cases lS with
   |none=>exact bf.elim
   |some h=>
   obtain⟨gH,Lf⟩:=bf
   have hn:0≤a∧a≤h∧h≤(b.size:Int):=hn
   obtain⟨n,rfl⟩: ∃n:Nat,a=(n:Int):=⟨a.toNat,by omega⟩
   obtain⟨m,rfl⟩: ∃n:Nat,h=(n:Int):=⟨h.toNat,by omega⟩
   exact DC t x _ _ an aH hx (l:=n) (h:=m) (.inr ⟨y,k,rfl,ax⟩) (.inr ⟨rY,gH,rfl,Lf⟩) (by omega) (by omega)
end
def Eb(P:Program)(t:TypeId):Option aV:=
 match P.underlying t with
 |some (.int k)=>some (.int k)
 |some .bool=>some .bool
 |some .string=>some .str
 |_=>none
def pr(P:Program):Nat→Nat→List Field→Option (List aV)
 |0,_,_=>none
 |_+1,_,[]=>some []
 |d+1,k,f::fs=>
  if f.name= "_" ||f.offset != k then none
  else match m2 P f.type with
   |some gs=>match P.info? f.type with
    |some inf=>match pr P d 0 gs,pr P d (k+inf.size) fs with
     |some a,some b=>match Nat.beq a.length inf.size with
      |true=>some (a++b)
      |false=>none
     |_,_=>none
    |none=>none
   |none=>match Eb P f.type with
    |some r=>match pr P d (k+1) fs with
     |some l=>some (r::l)
     |none=>none
    |none=>none
def tl:(r:aV)→r.den→Value
 | .int k,n=>.int k n
 | .bool,b=>.bool b
 | .str,x=>.string x
 |_,_=>undef
def aV.cmp:aV→Bool
 | .int _=>true
 | .bool=>true
 | .str=>true
 |_=>false
def Ay(d:aF):Value:=tl d.r d.v
def nk:List aF→List aF→Bool
 |d::ds,c::cs=>rU d.r d.v (c.aG d.r)&&nk ds cs
 |_,_=>true
theorem zeR{P:Program}{t:TypeId}{r:aV}(h:Eb P t=some r)(x y:r.den):rB P t (tl r x)=true∧m1 (tl r x) (tl r y)=some (rU r x y):=by
 unfold Eb at h
 split at h
 ·rename_i k hu;cases h;simp[tl,rB,hu,m1,rU]
 ·rename_i hu;cases h;simp[tl,rB,hu,m1,rU]
 ·rename_i hu;cases h;simp[tl,rB,hu,m1,rU]
 ·cases h
theorem SU: ∀{a c:List aF} (b d:List aF),a.length=c.length→nk (a++b) (c++d)=(nk a c&&nk b d)
 |[],[],_,_,_=>by simp[nk]
 |x::a,y::c,b,d,h=>by
  simp only[List.cons_append,nk,SU (a:=a) (c:=c) b d (by simpa using h),Bool.and_assoc]
 |[],_::_,_,_,h=>by cases h
 |_::_,[],_,_,h=>by cases h
theorem Ec{P:Program}: ∀(d k:Nat) (fs:List Field) (rs:List aV),pr P d k fs=some rs→∀(aG cC:List aF),aG.map aF.r=rs→cC.map aF.r=rs→qn P d k fs (aG.map Ay) (cC.map Ay)=some (nk aG cC)
 |0,_,_,_,h,_,_,_,_=>by cases h
 |d+1,k,[],rs,h,aG,cC,a1,ad=>by
  simp only[pr,Option.some.injEq]at h;subst h
  cases my a1
  cases my ad
  rfl
 |d+1,k,f::fs,rs,h,aG,cC,a1,ad=>by
  simp only[pr]at h;simp only[qn]
  split at h
  ·cases h
  ·rename_i hc
   rw[if_neg hc]
   cases ai:m2 P f.type with
   |some gs=>
    rw[ai]at h;simp only at h⊢
    cases hi:P.info? f.type with
    |none=>rw[hi]at h;cases h
    |some inf=>
     rw[hi]at h;simp only at h⊢
     split at h
     ·rename_i u v aa ae
      split at h
      ·rename_i aq
       simp only[Option.some.injEq]at h;subst h
       have aq:=Nat.eq_of_beq_eq_true aq
       have SV:(aG.take inf.size).map aF.r=u:=by rw[List.map_take,a1,←aq,List.take_left]
       have zeS:(aG.drop inf.size).map aF.r=v:=by rw[List.map_drop,a1,←aq,List.drop_left]
       have tb:(cC.take inf.size).map aF.r=u:=by rw[List.map_take,ad,←aq,List.take_left]
       have zeT:(cC.drop inf.size).map aF.r=v:=by rw[List.map_drop,ad,←aq,List.drop_left]
       rw[←List.map_take,←List.map_take,←List.map_drop,←List.map_drop,Ec d 0 gs u aa _ _ SV tb,Ec d _ fs v ae _ _ zeS zeT];simp only[Option.some.injEq];rw[←SU _ _ (by have aa:=congrArg List.length SV;have ae:=congrArg List.length tb;simp only[List.length_map]at aa ae;omega),List.take_append_drop,List.take_append_drop]
      ·cases h
     ·cases h
   |none=>
    rw[ai]at h;simp only at h⊢
    split at h
    ·rename_i r ag
     split at h
     ·rename_i l aq
      simp only[Option.some.injEq]at h;subst h;obtain⟨a,zjS,rfl,SW,yG⟩:=lO a1;obtain⟨b,zjT,rfl,ih,pb⟩:=lO ad;obtain⟨zjU,aU⟩:=a;obtain⟨zjV,pM⟩:=b;simp only at SW ih;subst SW;subst ih;obtain⟨g1,g2⟩:=zeR ag aU pM;simp only[List.map_cons,Ay,g1,g2,if_true,nk,cB];rw[Ec d _ fs l aq _ _ yG pb]
     ·cases h
    ·cases h
theorem Ed{P:Program}: ∀(d k:Nat) (fs:List Field) (rs:List aV),pr P d k fs=some rs→∀r∈rs,r.cmp=true
 |0,_,_,_,h,_,_=>by cases h
 |d+1,k,[],rs,h,r,ag=>by
  simp only[pr,Option.some.injEq]at h;subst h;cases ag
 |d+1,k,f::fs,rs,h,r,ag=>by
  simp only[pr]at h
  split at h
  ·cases h
  ·cases ai:m2 P f.type with
   |some gs=>
    rw[ai]at h;simp only at h
    cases hi:P.info? f.type with
    |none=>rw[hi]at h;cases h
    |some inf=>
     rw[hi]at h;simp only at h
     split at h
     ·rename_i u v aa ae
      split at h
      ·simp only[Option.some.injEq]at h
       subst h
       rcases List.mem_append.1 ag with q|q
       ·exact Ed d 0 gs u aa r q
       ·exact Ed d _ fs v ae r q
      ·cases h
     ·cases h
   |none=>
    rw[ai]at h;simp only at h
    split at h
    ·rename_i eQ dX
     split at h
     ·rename_i l aq
      simp only[Option.some.injEq]at h;subst h
      rcases List.mem_cons.1 ag with rfl|q
      ·unfold Eb at dX
       split at dX<;>first|(cases dX;rfl)|cases dX
      ·exact Ed d _ fs l aq r q
     ·cases h
    ·cases h
theorem zeU{r:aV}(h:r.cmp=true)(x:r.den):fH r x= .v (tl r x):=by
 cases r<;>first|rfl|cases h
theorem Az{G:a8}{e:Env}: ∀{rs:List aV} {l:List ab},ht rs l=true→(∀r∈rs,r.cmp=true)→hC (ab.bQ G e l)=some ((fV e rs l).map Ay)
 |[],[],_,_=>rfl
 |[],_::_,h,_=>by cases h
 |_::_,[],h,_=>by cases h
 |r::rs,x::xs,h,hc=>by
  simp only[ht,Bool.and_eq_true]at h
  have aa:x.den G e= .av (fH r (x.az e r)):=xl h.1 (by have:=hc r (by simp);cases r<;>first|rfl|cases this)
  simp only[ab.bQ,fV,aa,zeU (hc r (by simp)),hC,Az h.2 fun r ag=>hc r (by simp[ag]),List.map_cons,Ay]
theorem SX{e:Env}: ∀{rs:List aV} {l m:List ab},ht rs l=true→ht rs m=true→kK e rs l m=nk (fV e rs l) (fV e rs m)
 |[],[],[],_,_=>rfl
 |[],_::_,_,h,_=>by cases h
 |[],[],_::_,_,h=>by cases h
 |_::_,[],_,h,_=>by cases h
 |_::_,_::_,[],_,h=>by cases h
 |[r],[x],[y],_,_=>by simp[kK,fV,nk,cB]
 |[r],x::iN::xs,_::_,h,_=>by simp[ht]at h
 |[r],[x],y::s5::ys,_,h=>by simp[ht]at h
 |r::s::rs,x::xs,y::ys,h,h'=>by
  simp only[ht,Bool.and_eq_true]at h h'
  have:=SX (e:=e) (rs:=s::rs) (l:=xs) (m:=ys) h.2 h'.2
  cases xs with
  |nil=>simp[ht]at h
  |cons iN xs=>
   cases ys with
   |nil=>simp[ht]at h'
   |cons s5 ys=>
    have au:nk (fV e (r::s::rs) (x::iN::xs)) (fV e (r::s::rs) (y::s5::ys))=(rU r (x.az e r) (y.az e r)&&nk (fV e (s::rs) (iN::xs)) (fV e (s::rs) (s5::ys))):=by
     simp only[fV,nk,cB]
    rw[au,←this];simp only[kK]
    cases rU r (x.az e r) (y.az e r)<;>rfl
section
variable {P:Program} {G:a8} {o:Oper} {N B:Nat} {e:Env} {S:ao}
theorem SY(hf: ∀c∈S.g,c.ok e){n:Bool}{op:BinOp}(AA:op=bif n then .neq else .eql){cw ty:TypeId}{x y:Operand}(an:o.op= .binOp op cw x y ty){fs:List Field}{rs:List aV}(h:m2 P cw=some fs)(ag:pr P 64 0 fs=some rs){l m:List ab}(hx:S.aZ N x= .ch l)(ax:S.aZ N y= .ch m)
 (aq:ht rs l=true)(hm:ht rs m=true):cQ P G o (S.den G N B e) (.av (.v (.bool (bif n then !kK e rs l m else kK e rs l m)))):=by
 have hc:=Ed 64 0 fs rs ag
 have fS:aJ G (S.den G N B e) x= .agg (ab.bQ G e l):=by rw[bI hf,hx];rfl
 have mE:aJ G (S.den G N B e) y= .agg (ab.bQ G e m):=by rw[bI hf,ax];rfl
 have ad:=Ec 64 0 fs rs ag _ _ (Ap G e aq).1 (Ap G e hm).1
 rw[←SX aq hm]at ad
 cases n with
 |true=>
  subst AA;exact Rp cw ty x y an h fS mE (Az aq hc) (Az hm hc) ad
 |false=>
  subst AA;exact Ro cw ty x y an h fS mE (Az aq hc) (Az hm hc) ad
end
end Go.aL
