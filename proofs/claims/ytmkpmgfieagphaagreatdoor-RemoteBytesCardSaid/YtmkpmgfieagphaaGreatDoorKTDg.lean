/- TD, part B: expressions, needs, states, trees: what they are and what they stand for. Conditions: none. -/
import Derived.Test.YtmkpmgfieagphaaGreatDoorKTDa
namespace Go.aK
open Go
inductive gF where
 |n5
 |iT (c:bK)
 |o9 (k bj:IntKind)
 |nd
 |Aq (k:IntKind)
 |uL (k:IntKind)
 |cB
 |xl
 deriving DecidableEq
@[reducible] def gF.a:gF→aU
 | .n5=>.str
 | .iT c=>.li c
 | .o9 k _=>.int k
 | .nd=>.bool
 | .Aq k=>.int k
 | .uL k=>.int k
 | .cB=>.li .u8
 | .xl=>.str
@[reducible] def gF.c:gF→aU
 | .n5=>.int .i64
 | .iT _=>.int .i64
 | .o9 _ bj=>.int bj
 | .nd=>.bool
 | .Aq k=>.int k
 | .uL k=>.int k
 | .cB=>.str
 | .xl=>.li .u8
def gF.den:(f:gF)→f.a.den→f.c.den
 | .n5,x=>(ByteArray.size x:Int)
 | .iT _,x=>(List.length x:Int)
 | .o9 _ bj,x=>bj.wrap x
 | .nd,x=>!x
 | .Aq k,x=>k.wrap (0-x)
 | .uL k,x=>jD k (if k.signed then -1 else k.max) x
 | .cB,x=>bytesOf x
 | .xl,x=>(ByteArray.data x).toList.map fun u=>(u.toNat:Int)
def bz(op:BinOp)(k:IntKind)(a b:Int):Int:=
 match op with
 | .add=>k.wrap (a+b)
 | .sub=>k.wrap (a-b)
 | .mul=>k.wrap (a*b)
 | .quo=>k.wrap (a.tdiv b)
 | .rem=>a.tmod b
 | .shl=>k.wrap (a*2^(min b.toNat k.bits))
 | .shr=>a.fdiv (2^(min b.toNat k.bits))
 | .and=>lz k a b
 | .or=>kR k a b
 | .xor=>jD k a b
 |_=>0
def D0(op:BinOp)(b:Int):Prop:=
 match op with
 | .quo=>b≠0
 | .rem=>b≠0
 | .shl=>0≤b
 | .shr=>0≤b
 |_=>True
def Ar(op:BinOp)(a b:Int):Bool:=
 match op with
 | .eql=>a==b
 | .neq=>a != b
 | .lss=>decide (a<b)
 | .leq=>decide (a≤b)
 | .gtr=>decide (a>b)
 |_=>decide (a≥b)
def cM(op:BinOp)(a b:ByteArray):Bool:=
 match op with
 | .eql=>dE a b
 | .neq=>!dE a b
 | .lss=>rz a b
 | .leq=>rz a b||dE a b
 | .gtr=>!(rz a b||dE a b)
 |_=>!rz a b
inductive cC where
 |jt (op:BinOp) (k bj:IntKind)
 |pg (op:BinOp) (k:IntKind)
 |mz (op:BinOp)
 |nM (n:Bool)
 |tc
 |uM (k:IntKind)
 |mx (k:IntKind)
 |kb (c:bK) (k:IntKind)
 |rQ (k:IntKind)
 |ap (c:bK)
 |l6
 |l8
 |l7
 |kX
 |xm
 deriving DecidableEq
@[reducible] def cC.a:cC→aU
 | .jt _ k _=>.int k
 | .pg _ k=>.int k
 | .mz _=>.str
 | .nM _=>.bool
 | .tc=>.str
 | .uM k=>.int k
 | .mx k=>.int k
 | .kb c _=>.li c
 | .rQ _=>.str
 | .ap c=>.li c
 | .l6=>.str
 | .l8=>.str
 | .l7=>.str
 | .kX=>.str
 | .xm=>.str
@[reducible] def cC.b:cC→aU
 | .jt _ _ bj=>.int bj
 | .pg _ k=>.int k
 | .mz _=>.str
 | .nM _=>.bool
 | .tc=>.str
 | .uM k=>.int k
 | .mx k=>.int k
 | .kb _ k=>.int k
 | .rQ k=>.int k
 | .ap c=>.li c
 | .l6=>.int .i64
 | .l8=>.int .i64
 | .l7=>.int .i64
 | .kX=>.int .i64
 | .xm=>.int .u8
@[reducible] def cC.c:cC→aU
 | .jt _ k _=>.int k
 | .pg _ _=>.bool
 | .mz _=>.bool
 | .nM _=>.bool
 | .tc=>.str
 | .uM k=>.int k
 | .mx k=>.int k
 | .kb c _=>.st c
 | .rQ _=>.int .u8
 | .ap c=>.li c
 | .l6=>.bool
 | .l8=>.int .i64
 | .l7=>.int .i32
 | .kX=>.int .i64
 | .xm=>.int .i64
def D1(b:ByteArray)(c:Int):Int:=
 match(List.range b.size).find? fun i=>b[i]! ==c.toNat.toUInt8 with
 |some i=>(i:Int)
 |none=> -1
def cC.den:(f:cC)→f.a.den→f.b.den→f.c.den
 | .jt op k _,x,y=>bz op k x y
 | .pg op _,x,y=>Ar op x y
 | .mz op,x,y=>cM op x y
 | .nM n,x,y=>bif n then !(x==y)else x==y
 | .tc,x,y=>ByteArray.append x y
 | .uM _,x,y=>if y<x then y else x
 | .mx _,x,y=>if y>x then y else x
 | .kb c _,x,y=>List.getD x (Int.toNat y) (aA c)
 | .rQ _,x,y=>ei x y
 | .ap _,x,y=>List.append x y
 | .l6,x,y=>decide (Int.toNat y<ByteArray.size x)
 | .l8,_,y=>(Int.toNat y:Int)
 | .l7,x,y=>((Utf8.decode x (Int.toNat y)).1:Int)
 | .xm,x,y=>D1 x y
 | .kX,x,y=>((Int.toNat y+(Utf8.decode x (Int.toNat y)).2:Nat):Int)
def cC.vg(bytes:Nat):(f:cC)→f.a.den→f.b.den→Prop
 | .jt op _ _,_,y=>D0 op y
 | .tc,x,y=>ByteArray.size x+ByteArray.size y≤9223372036854775807
 | .kb _ _,x,y=>0≤y∧y<(List.length x:Int)
 | .rQ _,x,y=>0≤y∧y<(ByteArray.size x:Int)
 | .ap _,x,y=>List.length x+List.length y≤maxLen∧(List.length x+List.length y)*bytes≤140737488355328
 |_,_,_=>True
@[reducible] def fb:List aU→aU
 |[]=>.un
 |[r]=>r
 |r::s::l=>.Ag r (fb (s::l))
def b8:(rs:List aU)→List aF→(fb rs).den
 |[],_=>()
 |[r],d::_=>d.as r
 |[r],[]=>r.fy
 |r::s::l,d::ds=>(d.as r,b8 (s::l) ds)
 |r::s::l,[]=>(r.fy,b8 (s::l) [])
def dx:(rs:List aU)→(fb rs).den→List aF
 |[],_=>[]
 |[r],x=>[⟨r,x⟩]
 |r::s::l,x=>⟨r,x.1⟩::dx (s::l) x.2
structure aQ where
 ps:List aU
 rs:List aU
 pre:Option ((fb ps).den→Prop)
 m:(fb ps).den→(fb rs).den
def aQ.d:aQ:=⟨[],[],none,fun x=>x⟩
def eT{α:Type _}(d:α):List α→Nat→α
 |[],_=>d
 |x::r,n=>match Nat.beq n 0 with
  |true=>x
  |false=>eT d r (Nat.sub n 1)
def gC(e:Env):List aU→List ab→List aF
 |r::rs,x::xs=>⟨r,x.get e r⟩::gC e rs xs
 |_,_=>[]
inductive bJ where
 |rR (r:aU) (x:ab)
 |f1 (f:gF) (x:ab)
 |f2 (f:cC) (x y:ab)
 |eB (c:bK) (x:ab) (lo hi:Option ab)
 |vh (x:ab) (lo hi:Option ab)
 |D2 (r:aU) (g x y:ab)
 |As (n:Bool) (rs:List aU) (l m:List ab)
 |qC (c:bK) (rows:List ab)
 |up (c:bK) (l i x:ab)
 |nth (r:aU) (l:List ab) (i:ab)
 |D3 (c:bK) (x:ab)
 |D4 (k v:aU)
 |D5 (k v:aU) (m x y:ab)
 |xn (k v:aU) (m x:ab)
 |vi (k v:aU) (m x:ab)
 |ca (j:Nat) (as:List ab)
 |rS (rs:List aU) (p i:Nat)
def mA(e:Env):Option ab→Option Int
 |none=>none
 |some x=>some (cl (x.dyn e))
def iK{α:Type}(l:List α):Option Int→Option Int→List α
 |none,none=>l
 |some a,none=>l.drop a.toNat
 |none,some h=>l.take h.toNat
 |some a,some h=>(l.take h.toNat).drop a.toNat
def mU(b:ByteArray):Option Int→Option Int→ByteArray
 |none,none=>b.extract 0 b.size
 |some a,none=>b.extract a.toNat b.size
 |none,some h=>b.extract 0 h.toNat
 |some a,some h=>b.extract a.toNat h.toNat
def iZ(n:Nat):Option Int→Option Int→Prop
 |none,none=>True
 |some a,none=>0≤a∧a≤(n:Int)
 |none,some h=>0≤h∧h≤(n:Int)
 |some a,some h=>0≤a∧a≤h∧h≤(n:Int)
def rT:(r:aU)→r.den→r.den→Bool
 | .int _,x,y=>(show Int from x)==y
 | .bool,x,y=>(show Bool from x)==y
 | .str,x,y=>dE x y
 |_,_,_=>false
def kJ(e:Env):List aU→List ab→List ab→Bool
 |[r],[x],[y]=>rT r (x.az e r) (y.az e r)
 |r::rs,x::xs,y::ys=>bif rT r (x.az e r) (y.az e r)then kJ e rs xs ys else false
 |_,_,_=>true
def mB(e:Env)(c:bK):List ab→List (fN c)
 |[]=>[]
 |x::r=>x.get e (.st c)::mB e c r
def td(e:Env)(r:aU):List ab→Nat→r.den
 |[],_=>r.fy
 |[x],_=>x.az e r
 |x::l,n=>bif Nat.beq n 0 then x.az e r else td e r l (n-1)
def jF{V:Type}:(k:aU)→List (k.den × V)→k.den→Option V
 | .int _,l,x=>hX (K:=Int) l x
 | .str,l,x=>hX (K:=ByteArray) l x
 |_,_,_=>none
def sH{V:Type}:(k:aU)→List (k.den × V)→k.den→V→List (k.den × V)
 | .int _,l,x,v=>ja (K:=Int) l x v
 | .str,l,x,v=>ja (K:=ByteArray) l x v
 |_,l,_,_=>l
def bJ.den(M:List aQ)(e:Env):bJ→aF
 | .rR r x=>⟨r,x.get e r⟩
 | .f1 f x=>⟨f.c,f.den (x.az e f.a)⟩
 | .f2 f x y=>⟨f.c,f.den (x.az e f.a) (y.az e f.b)⟩
 | .eB c x lo hi=>⟨.li c,iK (x.az e (.li c)) (mA e lo) (mA e hi)⟩
 | .vh x lo hi=>⟨.str,mU (x.az e .str) (mA e lo) (mA e hi)⟩
 | .D2 r g x y=>⟨r,bif g.az e .bool then x.get e r else y.get e r⟩
 | .As n rs l m=>⟨.bool,bif n then !kJ e rs l m else kJ e rs l m⟩
 | .qC c rows=>⟨.li c,mB e c rows⟩
 | .up c l i x=>⟨.li c,List.set (l.az e (.li c)) (cl (i.dyn e)).toNat (x.get e (.st c))⟩
 | .nth r l i=>⟨r,td e r l (cl (i.dyn e)).toNat⟩
 | .D3 c x=>⟨.li c,List.replicate (Int.toNat (x.az e (.int .i64))) (aA c)⟩
 | .D4 k v=>⟨.mp k v,([]:List (k.den × v.den))⟩
 | .D5 k v m x y=>⟨.mp k v,sH k (m.az e (.mp k v)) (x.az e k) (y.get e v)⟩
 | .xn k v m x=>⟨.bool,(jF k (show List (k.den × v.den)from m.az e (.mp k v)) (x.az e k)).isSome⟩
 | .vi k v m x=>⟨v,(jF k (show List (k.den × v.den)from m.az e (.mp k v)) (x.az e k)).getD v.fy⟩
 | .ca j as=>⟨fb (eT aQ.d M j).rs,(eT aQ.d M j).m (b8 _ (gC e (eT aQ.d M j).ps as))⟩
 | .rS rs p i=>eT aF.d (dx rs ((Env.at e p).as (fb rs))) i
inductive fe where
 |f2 (bytes:Nat) (f:cC) (x y:ab)
 |eB (c:bK) (x:ab) (lo hi:Option ab)
 |vh (x:ab) (lo hi:Option ab)
 |up (c:bK) (l i:ab)
 |nth (n:Nat) (i:ab)
 |mk (bytes:Nat) (x y:ab)
 |ca (j:Nat) (as:List ab)
 |SH (g:ab) (b:Bool) (n:fe)
def kO{α:Type}(p:Option (α→Prop))(x:α):Prop:=
 match p with
 |none=>True
 |some q=>q x
def fe.ok(M:List aQ)(e:Env):fe→Prop
 | .f2 n f x y=>f.vg n (x.az e f.a) (y.az e f.b)
 | .eB c x lo hi=>iZ (List.length (x.az e (.li c))) (mA e lo) (mA e hi)
 | .vh x lo hi=>iZ (ByteArray.size (x.az e .str)) (mA e lo) (mA e hi)
 | .up c l i=>0≤cl (i.dyn e)∧cl (i.dyn e)<(List.length (l.az e (.li c)):Int)
 | .nth n i=>0≤cl (i.dyn e)∧cl (i.dyn e)<(n:Int)
 | .mk n x y=>0≤x.az e (.int .i64)∧x.az e (.int .i64)≤y.az e (.int .i64)∧y.az e (.int .i64)≤(maxLen:Int)∧(n:Int)*y.az e (.int .i64)≤281474976710656
 | .ca j as=>kO (eT aQ.d M j).pre (b8 _ (gC e (eT aQ.d M j).ps as))
 | .SH g b n=>g.az e .bool=b→n.ok M e
inductive te where
 |st
 |mp (k v:aU)
 deriving DecidableEq
@[reducible] def te.rt:te→aU
 | .st=>.int .i64
 | .mp k v=>.mp k v
def te.den:(q:te)→ByteArray→q.rt.den→wQ
 | .st,s,p=>qu s (Int.toNat p)
 | .mp k v,_,l=>jP v.agg (gf (lh k) (ix v) l)
inductive bF where
 |di (t:TypeId) (l:List ab)
 |rw (t:TypeId) (c:bK) (x:ab)
 |it (q:te) (x p:ab)
def bF.den(G:a7)(e:Env):bF→ej
 | .di t l=>.box t (ab.bP G e l)
 | .rw t c x=>.row false t (bY c) (List.map (b9 c) (x.az e (.li c)))
 | .it q x p=>.bL (q.den (x.az e .str) (p.az e q.rt))
def cx(G:a7)(e:Env):List (Nat × bF)→Heap
 |[]=>[]
 |(i,o)::r=>(i,o.den G e)::cx G e r
def c9:List (Nat × bF)→Nat→Option bF
 |[],_=>none
 |(i,o)::r,k=>match Nat.beq i k with
  |true=>some o
  |false=>c9 r k
def ju:List (Nat × bF)→Nat→bF→List (Nat × bF)
 |[],k,x=>[(k,x)]
 |(i,o)::r,k,x=>match Nat.beq i k with
  |true=>(i,x)::r
  |false=>(i,o)::ju r k x
inductive b4 where
 |d1 (i:Nat) (f:gF) (x:ab)
 |d2 (i:Nat) (f:cC) (x y:ab)
 |rg (i:Nat) (b:ab)
 |dT (g:ab) (b:Bool)
def b4.ok(e:Env):b4→Prop
 | .d1 i f x=>Env.at e i=⟨f.c,f.den (x.az e f.a)⟩
 | .d2 i f x y=>Env.at e i=⟨f.c,f.den (x.az e f.a) (y.az e f.b)⟩
 | .rg i b=>0≤cl (Env.at e i)∧cl (Env.at e i)<cl (b.dyn e)
 | .dT g b=>g.az e .bool=b
structure ao where
 l:a8 ab
 h:List (Nat × bF)
 n:Nat
 k:Nat
 g:List b4
def ao.at(S:ao)(i:Nat):ab:=
 match S.l.get i with
 |some x=>x
 |none=>.top
def kc(G:a7)(e:Env)(l:a8 ab):Nat→Nat→List aD
 |_,0=>[]
 |i,n+1=>(match l.get i with|some x=>x.den G e|none=>.top)::kc G e l (i+1) n
def ao.den(G:a7)(N B:Nat)(e:Env)(S:ao):aO:=⟨kc G e S.l 0 N,cx G e S.h,S.n,B⟩
inductive ez where
 |slot (i:Nat) (p:List Nat)
 |box (id off:Nat) (p:List Nat)
 |row (id:Nat)
 |kK (p:ez)
def ab.kK:ab→ab
 | .ed _ _=>.cs (.bool true)
 | .cs (.pointer none)=>.cs (.bool false)
 | .fi (.aT .bool i) _ _=>.aT .bool i
 |_=>.top
def ab.sub:ab→List Nat→ab
 |x,[]=>x
 | .cg l,i::p=>(eT .top l i).sub p
 | .tp l,i::p=>(eT .top l i).sub p
 |_,_::_=>.top
def ez.dc(S:ao):ez→ab
 | .slot i p=>(S.at i).sub p
 | .box id off p=>match c9 S.h id with
  |some (.di _ l)=>(eT .top l off).sub p
  |_=>.top
 | .row id=>match c9 S.h id with
  |some (.rw _ _ x)=>x
  |some (.it _ _ p)=>p
  |_=>.top
 | .kK p=>(p.dc S).kK
inductive bZ where
 |ch
 |ext (n:Nat)
 |ret
 |lq (n:Nat)
def bZ.bS(n:Nat):bZ→Bool
 | .lq m=>Nat.beq m n
 |_=>false
def bZ.cX(n:Nat):bZ→Bool
 | .ext m=>Nat.beq m n
 |_=>false
structure hD where
 i:Nat
 r:aU
 x:ab
 p:ez
inductive aC where
 |cG (x:bZ) (S:ao)
 |lt (i:Nat) (x:bJ) (t:aC)
 |eF (n:fe) (t:aC)
 |it (g:ab) (a b:aC)
 |dB (n:Nat) (a:aC) (ps:List (Nat × aU × ez)) (k:aC)
 |en (m xid:Nat) (dj:bJ) (b0:Nat) (ca:List hD) (a k:aC)
 |eZ (m xid:Nat) (ca:List hD) (a k:aC)
 |bad (n:Nat)
def aC.fr:aC→(bZ→Bool)→Bool
 | .cG x _,f=>f x
 | .lt _ _ t,f=>t.fr f
 | .eF _ t,f=>t.fr f
 | .it _ a b,f=>a.fr f&&b.fr f
 | .dB n a _ k,f=>a.fr (fun x=>x.bS n||f x)&&k.fr f
 | .en m xid _ _ _ a k,f=>a.fr (fun x=>x.bS m||(x.cX xid||f x))&&k.fr f
 | .eZ m xid _ a k,f=>a.fr (fun x=>x.bS m||(x.cX xid||f x))&&k.fr f
 | .bad _,_=>false
def aC.jv(t:aC)(n:Nat):Bool:=t.fr (bZ.bS n)
def rU:List hD→List aU
 |[]=>[]
 |a::l=>a.r::rU l
def dD(e:Env):List hD→List aF
 |[]=>[]
 |a::l=>⟨a.r,a.x.get e a.r⟩::dD e l
def fz(S:ao)(e:Env):List hD→List aF
 |[]=>[]
 |a::l=>⟨a.r,(a.p.dc S).get e a.r⟩::fz S e l
def rV(e:Env):List hD→List aF→Env
 |a::l,d::ds=>rV (a8.put e a.i d) l ds
 |_,_=>e
abbrev bX(ca:List hD):Type:=(fb (rU ca)).den
def bk(e:Env)(ca:List hD)(v:bX ca):Env:=rV e ca (dx (rU ca) v)
def fQ(e:Env)(f:aU→ez→aF):List (Nat × aU × ez)→Env
 |[]=>e
 |(i,r,p)::l=>fQ (a8.put e i (f r p)) f l
def dU:Nat:=18446744073709551616
def eg{X:Type}(m xid:Nat)(ca:List hD)(K:bZ→ao→Env→X)(x:bZ)(S:ao)(e:Env):Step X (bX ca):=
 match x.bS m with
 |true=>.bq (b8 _ (fz S e ca))
 |false=>match x.cX xid with
  |true=>.cN (b8 _ (fz S e ca))
  |false=>.ret (K x S e)
def aC.fold(M:List aQ):aC→{X:Type}→Env→(bZ→ao→Env→X)→X→X
  | .cG x S,_,e,K,_=>K x S e
  | .lt i x t,_,e,K,d=>t.fold M (a8.put e i (x.den M e)) K d
  | .eF _ t,_,e,K,d=>t.fold M e K d
  | .it g a b,_,e,K,d=>bif g.az e .bool then a.fold M e K d else b.fold M e K d
  | .dB n a ps k,_,e,K,d=>bif a.jv n
    then k.fold M (fQ e (fun r p=>⟨r,a.fold M e (fun _ S ay=>(p.dc S).get ay r) r.fy⟩) ps) K d
    else bif a.fold M e (fun x _ _=>x.bS n) false
      then k.fold M (fQ e (fun r p=>⟨r,a.fold M e (fun x S ay=>bif x.bS n then(p.dc S).get ay r else r.fy) r.fy⟩) ps) K d
      else a.fold M e K d
  | .en m xid dj b0 ca a k,X,e,K,d=>Sum.elim (fun r=>r) (fun v=>k.fold M (bk e ca v) K d) (bn (fun i (v:bX ca)=>bif a.jv m
        then(.bq (a.fold M (bk (a8.put e b0 ⟨.int .i64,(i:Int)⟩) ca v) (fun _ S ay=>b8 _ (fz S ay ca)) v):Step X (bX ca))
        else a.fold M (bk (a8.put e b0 ⟨.int .i64,(i:Int)⟩) ca v) (eg m xid ca K) (.cN v)) 0 (cl (dj.den M e)).toNat (b8 _ (dD e ca)))
  | .eZ m xid ca a k,X,e,K,d=>Sum.elim (fun r=>r) (fun v=>k.fold M (bk e ca v) K d) (c4 (fun v=>(a.fold M (bk e ca v) (eg m xid ca K) (.cN v):Step X (bX ca))) dU (b8 _ (dD e ca)))
  | .bad _,_,_,_,d=>d
def aC.safe(M:List aQ):aC→Env→Prop
  | .cG _ _,_=>True
  | .lt i x t,e=>t.safe M (a8.put e i (x.den M e))
  | .eF n t,e=>n.ok M e∧t.safe M e
  | .it g a b,e=>(g.az e .bool=true→a.safe M e)∧(g.az e .bool=false→b.safe M e)
  | .dB n a ps k,e=>a.safe M e∧(a.fold M e (fun x _ _=>x.bS n) false=true→k.safe M (fQ e (fun r p=>⟨r,bif a.jv n
      then a.fold M e (fun _ S ay=>(p.dc S).get ay r) r.fy
      else a.fold M e (fun x S ay=>bif x.bS n then(p.dc S).get ay r else r.fy) r.fy⟩) ps))
  | .en m xid dj b0 ca a k,e=>(∃I:Nat→bX ca→Prop,I 0 (b8 _ (dD e ca))∧∀(i:Nat) (v:bX ca),i<(cl (dj.den M e)).toNat→I i v→
      a.safe M (bk (a8.put e b0 ⟨.int .i64,(i:Int)⟩) ca v)∧∀bg,a.fold M (bk (a8.put e b0 ⟨.int .i64,(i:Int)⟩) ca v) (eg m xid ca fun _ _ _=>()) (.cN v)= .bq bg→I (i+1) bg)∧
      Sum.elim (fun _=>True) (fun v=>k.safe M (bk e ca v)) (bn (fun i (v:bX ca)=>a.fold M (bk (a8.put e b0 ⟨.int .i64,(i:Int)⟩) ca v) (eg m xid ca fun _ _ _=>()) (.cN v)) 0 (cl (dj.den M e)).toNat (b8 _ (dD e ca)))
  | .eZ m xid ca a k,e=>(∃I:bX ca→Prop,I (b8 _ (dD e ca))∧∀(v:bX ca),I v→
      a.safe M (bk e ca v)∧∀bg,a.fold M (bk e ca v) (eg m xid ca fun _ _ _=>()) (.cN v)= .bq bg→I bg)∧
      ka (fun v=>(a.fold M (bk e ca v) (eg m xid ca fun _ _ _=>()) (.cN v):Step Unit (bX ca))) dU (b8 _ (dD e ca))∧
      Sum.elim (fun _=>True) (fun v=>k.safe M (bk e ca v)) (c4 (fun v=>(a.fold M (bk e ca v) (eg m xid ca fun _ _ _=>()) (.cN v):Step Unit (bX ca))) dU (b8 _ (dD e ca)))
  | .bad _,_=>False
def aC.clean:aC→Bool
 | .cG _ _=>true
 | .lt _ _ t=>t.clean
 | .eF _ _=>false
 | .it _ a b=>a.clean&&b.clean
 | .dB _ a _ k=>a.clean&&k.clean
 | .en _ _ _ _ _ a k=>a.clean&&k.clean
 | .eZ _ _ _ _ _=>false
 | .bad _=>false
theorem rW(M:List aQ): ∀{t:aC} {e:Env},t.clean=true→t.safe M e
 | .cG _ _,_,_=>trivial
 | .lt _ _ t,_,h=>rW M (t:=t) h
 | .eF _ _,_,h=>by cases h
 | .it _ a b,_,h=>by
  simp only[aC.clean,Bool.and_eq_true]at h;exact⟨fun _=>rW M h.1,fun _=>rW M h.2⟩
 | .dB _ a _ k,_,h=>by
  simp only[aC.clean,Bool.and_eq_true]at h;exact⟨rW M h.1,fun _=>rW M h.2⟩
 | .en _ _ _ _ _ a k,_,h=>by
  simp only[aC.clean,Bool.and_eq_true]at h;refine⟨⟨fun _ _=>True,trivial,fun _ _ _ _=>⟨rW M h.1,fun _ _=>trivial⟩⟩,?_⟩
  generalize bn _ _ _ _=L
  cases L with
  |inl r=>trivial
  |inr v=>exact rW M h.2
 | .eZ _ _ _ _ _,_,h=>by cases h
 | .bad _,_,h=>by cases h
end Go.aK
namespace Go.aK
open Go
def h8{R A X:Type}(f:R→X):Step R A→Step X A
 | .ret r=>.ret (f r)
 | .cN a=>.cN a
 | .bq a=>.bq a
theorem ug{R A X:Type}(f:R→X){b:Nat→A→Step R A}{c:Nat→A→Step X A}(h: ∀i a,c i a=h8 f (b i a)): ∀(m k:Nat) (a:A),bn c k m a=Sum.map f id (bn b k m a)
 |0,_,_=>rfl
 |m+1,k,a=>by
  simp only[bn,h]
  cases b k a with
  |ret r=>rfl
  |cN a=>rfl
  |bq a=>exact ug f h m (k+1) a
theorem xo{R A X:Type}(f:R→X){b:A→Step R A}{c:A→Step X A}(h: ∀a,c a=h8 f (b a)): ∀(m:Nat) (a:A),c4 c m a=Sum.map f id (c4 b m a)
 |0,_=>rfl
 |m+1,a=>by
  simp only[c4,h]
  cases b a with
  |ret r=>rfl
  |cN a=>rfl
  |bq a=>exact xo f h m a
theorem K4{R A X:Type}(f:R→X){b:A→Step R A}{c:A→Step X A}(h: ∀a,c a=h8 f (b a)): ∀(m:Nat) (a:A),ka c m a↔ka b m a
 |0,_=>Iff.rfl
 |m+1,a=>by
  simp only[ka,h]
  cases b a with
  |ret r=>exact Iff.rfl
  |cN a=>exact Iff.rfl
  |bq a=>exact K4 f h m a
theorem xp{X Y:Type}(g:X→Y)(m xid:Nat)(ca:List hD)(K:bZ→ao→Env→X)(x:bZ)(S:ao)(e:Env):h8 g (eg m xid ca K x S e)=eg m xid ca (fun x S e=>g (K x S e)) x S e:=by
 unfold eg
 split
 ·rfl
 ·split<;>rfl
section
variable {X:Type} {m xid:Nat} {ca:List hD} {K:bZ→ao→Env→X} {x:bZ} {S:ao} {e:Env}
theorem n6(h:x.bS m=true):eg m xid ca K x S e= .bq (b8 _ (fz S e ca)):=by unfold eg;rw[h]
theorem n7(h:x.bS m=false)(h':x.cX xid=true):eg m xid ca K x S e= .cN (b8 _ (fz S e ca)):=by unfold eg;rw[h,h']
theorem kd(h:x.bS m=false)(h':x.cX xid=false):eg m xid ca K x S e= .ret (K x S e):=by unfold eg;rw[h,h']
end
section
variable {M:List aQ}
theorem fold_map: ∀(t:aC) {X Y:Type} (g:X→Y) (e:Env) (K:bZ→ao→Env→X) (d:X),g (t.fold M e K d)=t.fold M e (fun x S ay=>g (K x S ay)) (g d)
  | .cG _ _,_,_,_,_,_,_=>rfl
  | .lt _ _ t,_,_,g,_,K,d=>fold_map t g _ K d
  | .eF _ t,_,_,g,_,K,d=>fold_map t g _ K d
  | .it c a b,_,_,g,e,K,d=>by
    simp only[aC.fold]
    cases c.az e .bool with
    |true=>exact fold_map a g e K d
    |false=>exact fold_map b g e K d
  | .dB n a ps k,_,_,g,e,K,d=>by
    simp only[aC.fold]
    cases a.jv n with
    |true=>exact fold_map k g _ K d
    |false=>cases a.fold M e (fun x _ _=>x.bS n) false with
      |true=>exact fold_map k g _ K d
      |false=>exact fold_map a g e K d
  | .en m xid dj b0 ca a k,X,Y,g,e,K,d=>by
    simp only[aC.fold]
    rw[ug g (c:=fun i (v:bX ca)=>bif a.jv m
        then(.bq (a.fold M (bk (a8.put e b0 ⟨.int .i64,(i:Int)⟩) ca v) (fun _ S ay=>b8 _ (fz S ay ca)) v):Step Y (bX ca))
        else a.fold M (bk (a8.put e b0 ⟨.int .i64,(i:Int)⟩) ca v) (eg m xid ca fun x S e=>g (K x S e)) (.cN v))
      (b:=fun i (v:bX ca)=>bif a.jv m
        then(.bq (a.fold M (bk (a8.put e b0 ⟨.int .i64,(i:Int)⟩) ca v) (fun _ S ay=>b8 _ (fz S ay ca)) v):Step X (bX ca))
        else a.fold M (bk (a8.put e b0 ⟨.int .i64,(i:Int)⟩) ca v) (eg m xid ca K) (.cN v))
      (fun i v=>by
        cases a.jv m with
        |true=>rfl
        |false=>
          simp only[cond_false];rw[fold_map a (h8 g)];simp only[xp]
          rfl)]
    generalize bn _ _ _ _=L
    cases L with
    |inl r=>rfl
    |inr v=>exact fold_map k g _ K d
  | .eZ m xid ca a k,X,Y,g,e,K,d=>by
    simp only[aC.fold]
    rw[xo g (c:=fun(v:bX ca)=>a.fold M (bk e ca v) (eg m xid ca fun x S e=>g (K x S e)) (.cN v))
      (b:=fun(v:bX ca)=>a.fold M (bk e ca v) (eg m xid ca K) (.cN v))
      (fun v=>by
        rw[fold_map a (h8 g)];simp only[xp]
        rfl)]
    generalize c4 _ _ _=L
    cases L with
    |inl r=>rfl
    |inr v=>exact fold_map k g _ K d
  | .bad _,_,_,_,_,_,_=>rfl
abbrev nf:=bZ × ao × Env
def run(M:List aQ)(t:aC)(e:Env):Option nf:=t.fold M e (fun x S ay=>some (x,S,ay)) none
theorem ke{t:aC}{e ay:Env}{x:bZ}{S:ao}(h:run M t e=some (x,S,ay)){X:Type}(K:bZ→ao→Env→X)(d:X):t.fold M e K d=K x S ay:=by
 have:=fold_map (M:=M) t (fun(o:Option nf)=>match o with|some (x,S,ay)=>K x S ay|none=>d) e (fun x S ay=>some (x,S,ay)) none
 simp only at this
 rw[←this]
 unfold run at h
 rw[h]
theorem At{t:aC}{e:Env}(h:run M t e=none){X:Type}(K:bZ→ao→Env→X)(d:X):t.fold M e K d=d:=by
 have:=fold_map (M:=M) t (fun(o:Option nf)=>match o with|some (x,S,ay)=>K x S ay|none=>d) e (fun x S ay=>some (x,S,ay)) none
 simp only at this
 rw[←this]
 unfold run at h
 rw[h]
def c3(M:List aQ)(m xid:Nat)(ca:List hD)(a:aC)(e:Env)(v:bX ca):Step (Option nf) (bX ca):=
 match run M a e with
 |some (x,S,ay)=>eg m xid ca (fun x S e=>some (x,S,e)) x S ay
 |none=>.cN v
theorem xq(m xid:Nat)(ca:List hD)(a:aC)(e:Env)(v:bX ca):a.fold M e (eg m xid ca fun x S e=>some (x,S,e)) (.cN v)=c3 M m xid ca a e v:=by
 unfold c3
 split
 ·rename_i x S ay h
  exact ke h _ _
 ·rename_i h
  exact At h _ _
theorem SI{m xid b0:Nat}{dj:bJ}{ca:List hD}{a k:aC}{e:Env}{X:Type}(K:bZ→ao→Env→X)(d:X)(h:a.jv m=true→∀e,∃x S ay,run M a e=some (x,S,ay)∧x.bS m=true):
 (aC.en m xid dj b0 ca a k).fold M e K d=Sum.elim (fun r=>r) (fun v=>k.fold M (bk e ca v) K d) (bn (fun i (v:bX ca)=>a.fold M (bk (a8.put e b0 ⟨.int .i64,(i:Int)⟩) ca v) (eg m xid ca K) (.cN v)) 0 (cl (dj.den M e)).toNat (b8 _ (dD e ca))):=by
 simp only[aC.fold]
 cases af:a.jv m with
 |false=>rfl
 |true=>
  have:(fun(i:Nat) (v:bX ca)=>(.bq (a.fold M (bk (a8.put e b0 ⟨.int .i64,(i:Int)⟩) ca v) (fun _ S ay=>b8 _ (fz S ay ca)) v):Step X (bX ca)))=fun(i:Nat) (v:bX ca)=>a.fold M (bk (a8.put e b0 ⟨.int .i64,(i:Int)⟩) ca v) (eg m xid ca K) (.cN v):=by
   funext i v
   obtain⟨x,S,ay,aa,ae⟩:=h af (bk (a8.put e b0 ⟨.int .i64,(i:Int)⟩) ca v);simp only[ke aa,eg,ae]
  simp only[cond_true];rw[this]
theorem jg: ∀{t:aC} {f:bZ→Bool} {e:Env},t.fr f=true→∃x S ay,run M t e=some (x,S,ay)∧f x=true
 | .cG x S,_,e,h=>⟨x,S,e,rfl,h⟩
 | .lt _ _ t,_,_,h=>jg (t:=t) h
 | .eF _ t,_,_,h=>jg (t:=t) h
 | .it c a b,f,e,h=>by
  simp only[aC.fr,Bool.and_eq_true]at h;simp only[run,aC.fold]
  cases c.az e .bool with
  |true=>exact jg (t:=a) h.1
  |false=>exact jg (t:=b) h.2
 | .dB n a ps k,f,e,h=>by
  simp only[aC.fr,Bool.and_eq_true]at h;obtain⟨x,S,ay,aa,ae⟩:=jg (t:=a) (e:=e) h.1;simp only[run,aC.fold]
  cases a.jv n with
  |true=>exact jg (t:=k) h.2
  |false=>
   rw[ke aa]
   cases hx:x.bS n with
   |true=>exact jg (t:=k) h.2
   |false=>
    rw[hx,Bool.false_or]at ae;exact⟨x,S,ay,aa,ae⟩
 | .en m xid dj b0 ca a k,f,e,h=>by
  simp only[aC.fr,Bool.and_eq_true]at h
  have key: ∀(n i:Nat) (v:bX ca),(∃bg,bn (fun i (v:bX ca)=>a.fold M (bk (a8.put e b0 ⟨.int .i64,(i:Int)⟩) ca v) (eg m xid ca fun x S e=>some (x,S,e)) (.cN v)) i n v= .inr bg)∨
   ∃x S ay,bn (fun i (v:bX ca)=>a.fold M (bk (a8.put e b0 ⟨.int .i64,(i:Int)⟩) ca v) (eg m xid ca fun x S e=>some (x,S,e)) (.cN v)) i n v= .inl (some (x,S,ay))∧f x=true:=by
   intro n
   induction n with
   |zero=>exact fun i v=>.inl ⟨v,rfl⟩
   |succ n aX=>
    intro i v;obtain⟨x,S,ay,aa,ae⟩:=jg (t:=a) (e:=bk (a8.put e b0 ⟨.int .i64,(i:Int)⟩) ca v) h.1;simp only[bn,ke aa]
    cases hx:x.bS m with
    |true=>
     rw[n6 hx];exact aX (i+1) _
    |false=>
     cases ax:x.cX xid with
     |true=>
      rw[n7 hx ax];exact .inl ⟨_,rfl⟩
     |false=>
      rw[kd hx ax];rw[hx,ax,Bool.false_or,Bool.false_or]at ae;exact .inr ⟨x,S,ay,rfl,ae⟩
  unfold run;rw[SI _ _ fun af e=>jg (t:=a) (e:=e) af]
  rcases key (cl (dj.den M e)).toNat 0 (b8 _ (dD e ca))with⟨bg,aw⟩|⟨x,S,ay,aw,hf⟩
  ·rw[aw];exact jg (t:=k) h.2
  ·rw[aw];exact⟨x,S,ay,rfl,hf⟩
 | .eZ m xid ca a k,f,e,h=>by
  simp only[aC.fr,Bool.and_eq_true]at h
  have key: ∀(n:Nat) (v:bX ca),(∃bg,c4 (fun(v:bX ca)=>(a.fold M (bk e ca v) (eg m xid ca fun x S e=>some (x,S,e)) (.cN v):Step (Option nf) (bX ca))) n v= .inr bg)∨
   ∃x S ay,c4 (fun(v:bX ca)=>(a.fold M (bk e ca v) (eg m xid ca fun x S e=>some (x,S,e)) (.cN v):Step (Option nf) (bX ca))) n v= .inl (some (x,S,ay))∧f x=true:=by
   intro n
   induction n with
   |zero=>exact fun v=>.inl ⟨v,rfl⟩
   |succ n aX=>
    intro v;simp only[c4];obtain⟨x,S,ay,aa,ae⟩:=jg (t:=a) (e:=bk e ca v) h.1;rw[ke aa]
    cases hx:x.bS m with
    |true=>
     rw[n6 hx];exact aX _
    |false=>
     cases ax:x.cX xid with
     |true=>
      rw[n7 hx ax];exact .inl ⟨_,rfl⟩
     |false=>
      rw[kd hx ax];rw[hx,ax,Bool.false_or,Bool.false_or]at ae;exact .inr ⟨x,S,ay,rfl,ae⟩
  simp only[run,aC.fold]
  rcases key dU (b8 _ (dD e ca))with⟨bg,aw⟩|⟨x,S,ay,aw,hf⟩
  ·rw[aw];exact jg (t:=k) h.2
  ·rw[aw];exact⟨x,S,ay,rfl,hf⟩
 | .bad _,_,_,h=>by cases h
theorem qD{n:Nat}{a k:aC}{ps:List (Nat × aU × ez)}{e aB:Env}{x:bZ}{aS:ao}(h:run M a e=some (x,aS,aB))(hx:x.bS n=true){X:Type}(K:bZ→ao→Env→X)(d:X):
 (aC.dB n a ps k).fold M e K d=k.fold M (fQ e (fun r p=>⟨r,(p.dc aS).get aB r⟩) ps) K d:=by
 simp only[aC.fold]
 cases a.jv n with
 |true=>simp only[ke h,cond_true]
 |false=>simp only[ke h,hx,cond_true,cond_false]
theorem ng{n:Nat}{a k:aC}{ps:List (Nat × aU × ez)}{e aB:Env}{x:bZ}{aS:ao}(h:run M a e=some (x,aS,aB))(hx:x.bS n=false){X:Type}(K:bZ→ao→Env→X)(d:X):
 (aC.dB n a ps k).fold M e K d=K x aS aB:=by
 simp only[aC.fold]
 cases af:a.jv n with
 |true=>
  obtain⟨iM,db,ay,aa,ae⟩:=jg (M:=M) (t:=a) (e:=e) af;rw[aa]at h;cases h;rw[hx]at ae;cases ae
 |false=>simp only[ke h,hx,cond_false]
theorem tf{n:Nat}{a k:aC}{ps:List (Nat × aU × ez)}{e:Env}(h:run M a e=none){X:Type}(K:bZ→ao→Env→X)(d:X):
 (aC.dB n a ps k).fold M e K d=d:=by
 simp only[aC.fold]
 cases af:a.jv n with
 |true=>
  obtain⟨iM,db,ay,aa,ae⟩:=jg (M:=M) (t:=a) (e:=e) af;rw[aa]at h;cases h
 |false=>simp only[At h,cond_false]
theorem SJ{n:Nat}{a k:aC}{ps:List (Nat × aU × ez)}{e aB:Env}{x:bZ}{aS:ao}(ai:(aC.dB n a ps k).safe M e)(h:run M a e=some (x,aS,aB))(hx:x.bS n=true):
 k.safe M (fQ e (fun r p=>⟨r,(p.dc aS).get aB r⟩) ps):=by
 have aa:=ai.2 (by rw[ke h];exact hx)
 have ae:(fun(r:aU) (p:ez)=>(⟨r,bif a.jv n
  then a.fold M e (fun _ S ay=>(p.dc S).get ay r) r.fy
  else a.fold M e (fun x S ay=>bif x.bS n then(p.dc S).get ay r else r.fy) r.fy⟩:aF))=fun r p=>⟨r,(p.dc aS).get aB r⟩:=by
  funext r p
  simp only[ke h,hx]
  cases a.jv n<;>rfl
 rw[ae]at aa
 exact aa
theorem xr{m xid b0:Nat}{dj:bJ}{ca:List hD}{a k:aC}{e:Env}{X:Type}(K:bZ→ao→Env→X)(d:X):
 (aC.en m xid dj b0 ca a k).fold M e K d=Sum.elim (fun r=>r) (fun v=>k.fold M (bk e ca v) K d) (bn (fun i (v:bX ca)=>a.fold M (bk (a8.put e b0 ⟨.int .i64,(i:Int)⟩) ca v) (eg m xid ca K) (.cN v)) 0 (cl (dj.den M e)).toNat (b8 _ (dD e ca))):=SI K d fun af _=>jg af
end
end Go.aK
namespace Go.aK
open Go
def aC.rel:aC→(bZ→bZ)→aC
 | .cG x S,f=>.cG (f x) S
 | .lt i x t,f=>.lt i x (t.rel f)
 | .eF n t,f=>.eF n (t.rel f)
 | .it c a b,f=>.it c (a.rel f) (b.rel f)
 | .dB n a ps k,f=>.dB n (a.rel fun x=>bif x.bS n then x else f x) ps (k.rel f)
 | .en m xid dj b0 ca a k,f=>.en m xid dj b0 ca (a.rel fun x=>bif x.bS m||x.cX xid then x else f x) (k.rel f)
 | .eZ m xid ca a k,f=>.eZ m xid ca (a.rel fun x=>bif x.bS m||x.cX xid then x else f x) (k.rel f)
 | .bad n,_=>.bad n
def aC.iz:aC→(bZ→bZ)→Prop
 | .cG _ _,_=>True
 | .lt _ _ t,f=>t.iz f
 | .eF _ t,f=>t.iz f
 | .it _ a b,f=>a.iz f∧b.iz f
 | .dB n a _ k,f=>(∀x,x.bS n=false→(f x).bS n=false)∧(a.iz fun x=>bif x.bS n then x else f x)∧k.iz f
 | .en m xid _ _ _ a k,f=>(∀x,x.bS m=false→x.cX xid=false→(f x).bS m=false∧(f x).cX xid=false)∧(a.iz fun x=>bif x.bS m||x.cX xid then x else f x)∧k.iz f
 | .eZ m xid _ a k,f=>(∀x,x.bS m=false→x.cX xid=false→(f x).bS m=false∧(f x).cX xid=false)∧(a.iz fun x=>bif x.bS m||x.cX xid then x else f x)∧k.iz f
 | .bad _,_=>True
section
variable {M:List aQ}
theorem D6{X:Type}{m xid:Nat}{ca:List hD}{K:bZ→ao→Env→X}{f:bZ→bZ}(h: ∀x,x.bS m=false→x.cX xid=false→(f x).bS m=false∧(f x).cX xid=false)(x:bZ)(S:ao)(e:Env):
 eg m xid ca K (bif x.bS m||x.cX xid then x else f x) S e=eg m xid ca (fun x S e=>K (f x) S e) x S e:=by
 cases hx:x.bS m with
 |true=>rw[Bool.true_or,cond_true,n6 hx,n6 hx]
 |false=>
  cases ax:x.cX xid with
  |true=>rw[Bool.false_or,cond_true,n7 hx ax,n7 hx ax]
  |false=>
   obtain⟨aa,ae⟩:=h x hx ax;rw[Bool.false_or,cond_false,kd hx ax,kd aa ae]
theorem K5: ∀{t:aC} {f g:bZ→Bool},(∀x,f x=g x)→t.fr f=t.fr g:=fun {t f g} h=>by
 have:f=g:=funext h
 rw[this]
theorem ph: ∀{t:aC} {f:bZ→bZ} {g:bZ→Bool},t.iz f→(t.rel f).fr g=t.fr fun x=>g (f x)
 | .cG _ _,_,_,_=>rfl
 | .lt _ _ t,_,_,h=>ph (t:=t) h
 | .eF _ t,_,_,h=>ph (t:=t) h
 | .it _ a b,f,g,h=>by simp only[aC.rel,aC.fr,ph (t:=a) h.1,ph (t:=b) h.2]
 | .dB n a ps k,f,g,h=>by
  simp only[aC.rel,aC.fr,ph (t:=a) h.2.1,ph (t:=k) h.2.2]
  congr 1
  refine K5 fun x=>?_
  cases hx:x.bS n with
  |true=>simp[hx]
  |false=>simp[h.1 x hx]
 | .en m xid dj b0 ca a k,f,g,h=>by
  simp only[aC.rel,aC.fr,ph (t:=a) h.2.1,ph (t:=k) h.2.2]
  congr 1
  refine K5 fun x=>?_
  cases hx:x.bS m with
  |true=>simp[hx]
  |false=>
   cases ax:x.cX xid with
   |true=>simp[ax]
   |false=>simp[(h.1 x hx ax).1,(h.1 x hx ax).2]
 | .eZ m xid ca a k,f,g,h=>by
  simp only[aC.rel,aC.fr,ph (t:=a) h.2.1,ph (t:=k) h.2.2]
  congr 1
  refine K5 fun x=>?_
  cases hx:x.bS m with
  |true=>simp[hx]
  |false=>
   cases ax:x.cX xid with
   |true=>simp[ax]
   |false=>simp[(h.1 x hx ax).1,(h.1 x hx ax).2]
 | .bad _,_,_,_=>rfl
theorem mC: ∀{t:aC} {f:bZ→bZ},t.iz f→∀{X:Type} (e:Env) (K:bZ→ao→Env→X) (d:X),(t.rel f).fold M e K d=t.fold M e (fun x S ay=>K (f x) S ay) d
 | .cG _ _,_,_,_,_,_,_=>rfl
 | .lt _ _ t,_,h,_,_,K,d=>mC (t:=t) h _ K d
 | .eF _ t,_,h,_,_,K,d=>mC (t:=t) h _ K d
 | .it c a b,f,h,_,e,K,d=>by
  simp only[aC.rel,aC.fold,mC (t:=a) h.1,mC (t:=b) h.2]
 | .dB n a ps k,f,h,_,e,K,d=>by
  have ag:run M (a.rel fun x=>bif x.bS n then x else f x) e=(run M a e).map fun l=>(bif l.1.bS n then l.1 else f l.1,l.2):=by
   unfold run;rw[mC (t:=a) h.2.1];rw[fold_map a (fun o:Option nf=>o.map fun l=>(bif l.1.bS n then l.1 else f l.1,l.2))]
   rfl
  show(aC.dB n (a.rel fun x=>bif x.bS n then x else f x) ps (k.rel f)).fold M e K d=_
  cases cq:run M a e with
  |none=>rw[tf (by rw[ag,cq];rfl),tf cq]
  |some l=>
   obtain⟨x,aS,aB⟩:=l
   have aa:run M (a.rel fun x=>bif x.bS n then x else f x) e=some (bif x.bS n then x else f x,aS,aB):=by rw[ag,cq];rfl
   cases hx:x.bS n with
   |true=>
    rw[hx,cond_true]at aa;rw[qD aa hx,qD cq hx];exact mC (t:=k) h.2.2 _ K d
   |false=>
    rw[hx,cond_false]at aa;rw[ng aa (h.1 x hx),ng cq hx]
 | .en m xid dj b0 ca a k,f,h,X,e,K,d=>by
  show(aC.en m xid dj b0 ca (a.rel fun x=>bif x.bS m||x.cX xid then x else f x) (k.rel f)).fold M e K d=_
  rw[xr,xr]
  have:(fun(i:Nat) (v:bX ca)=>(a.rel fun x=>bif x.bS m||x.cX xid then x else f x).fold M (bk (a8.put e b0 ⟨.int .i64,(i:Int)⟩) ca v) (eg m xid ca K) (.cN v))=fun(i:Nat) (v:bX ca)=>a.fold M (bk (a8.put e b0 ⟨.int .i64,(i:Int)⟩) ca v) (eg m xid ca fun x S ay=>K (f x) S ay) (.cN v):=by
   funext i v
   rw[mC (t:=a) h.2.1];simp only[D6 h.1]
  rw[this];generalize bn _ _ _ _=L
  cases L with
  |inl r=>rfl
  |inr v=>exact mC (t:=k) h.2.2 _ K d
 | .eZ m xid ca a k,f,h,X,e,K,d=>by
  simp only[aC.rel,aC.fold]
  have:(fun(v:bX ca)=>(a.rel fun x=>bif x.bS m||x.cX xid then x else f x).fold M (bk e ca v) (eg m xid ca K) (.cN v))=fun(v:bX ca)=>a.fold M (bk e ca v) (eg m xid ca fun x S ay=>K (f x) S ay) (.cN v):=by
   funext v
   rw[mC (t:=a) h.2.1];simp only[D6 h.1]
  rw[this];generalize c4 _ _ _=L
  cases L with
  |inl r=>rfl
  |inr v=>exact mC (t:=k) h.2.2 _ K d
 | .bad _,_,_,_,_,_,_=>rfl
theorem wH{t:aC}{f:bZ→bZ}(h:t.iz f)(e:Env):run M (t.rel f) e=(run M t e).map fun l=>(f l.1,l.2):=by
 unfold run
 rw[mC h,fold_map t (fun o:Option nf=>o.map fun l=>(f l.1,l.2))]
 rfl
theorem k6: ∀{t:aC} {f:bZ→bZ},t.iz f→∀{e:Env},(t.rel f).safe M e↔t.safe M e
 | .cG _ _,_,_,_=>Iff.rfl
 | .lt _ _ t,_,h,_=>k6 (t:=t) h
 | .eF _ t,_,h,_=>by simp only[aC.rel,aC.safe,k6 (t:=t) h]
 | .it c a b,f,h,e=>by simp only[aC.rel,aC.safe,k6 (t:=a) h.1,k6 (t:=b) h.2]
 | .dB n a ps k,f,h,e=>by
  have af: ∀x,(bif bZ.bS n x then x else f x).bS n=x.bS n:=fun x=>by
   cases hx:x.bS n with
   |true=>exact hx
   |false=>exact h.1 x hx
  simp only[aC.rel,aC.safe,k6 (t:=a) h.2.1,k6 (t:=k) h.2.2,aC.jv,ph h.2.1,mC h.2.1,af]
 | .en m xid dj b0 ca a k,f,h,e=>by
  simp only[aC.rel,aC.safe,k6 (t:=a) h.2.1,k6 (t:=k) h.2.2,mC h.2.1,D6 h.1]
 | .eZ m xid ca a k,f,h,e=>by
  simp only[aC.rel,aC.safe,k6 (t:=a) h.2.1,k6 (t:=k) h.2.2,mC h.2.1,D6 h.1]
 | .bad _,_,_,_=>Iff.rfl
end
def aC.lvl:aC→Nat
 | .lt _ _ t=>t.lvl
 | .eF _ t=>t.lvl
 | .it _ a b=>Nat.max a.lvl b.lvl
 | .dB n a _ k=>Nat.max n (Nat.max a.lvl k.lvl)
 | .en m _ _ _ _ a k=>Nat.max m (Nat.max a.lvl k.lvl)
 | .eZ m _ _ a k=>Nat.max m (Nat.max a.lvl k.lvl)
 |_=>0
def fJ(n:Nat):bZ→bZ
 | .ch=>.lq n
 |x=>x
def pj(i:Nat):bZ→bZ
 | .ext m=>match Nat.beq m i with
  |true=>.ch
  |false=>.ext m
 |x=>x
theorem zeH(i n:Nat)(x:bZ)(h:x.bS n=false):(pj i x).bS n=false:=by
 unfold pj
 split
 ·split
  ·rfl
  ·exact h
 ·exact h
theorem zeI(i n:Nat)(x:bZ)(h:x.cX n=false):(pj i x).cX n=false:=by
 unfold pj
 split
 ·split
  ·rfl
  ·exact h
 ·exact h
theorem zeJ(i n:Nat)(hn:i≠n)(x:bZ)(h:x.bS n=false):(fJ i x).bS n=false:=by
 unfold fJ
 split
 ·show Nat.beq i n=false
  rw[qB];exact decide_eq_false hn
 ·exact h
theorem zeK(i n:Nat)(x:bZ)(h:x.cX n=false):(fJ i x).cX n=false:=by
 unfold fJ
 split
 ·rfl
 ·exact h
theorem nh: ∀{t:aC} {f:bZ→bZ} (N:Nat),t.lvl<N→(∀n,n<N→∀x,x.bS n=false→(f x).bS n=false)→(∀n x,x.cX n=false→(f x).cX n=false)→t.iz f
 | .cG _ _,_,_,_,_,_=>trivial
 | .lt _ _ t,_,N,aq,aa,ae=>nh (t:=t) N aq aa ae
 | .eF _ t,_,N,aq,aa,ae=>nh (t:=t) N aq aa ae
 | .it _ a b,f,N,aq,aa,ae=>by
  have aq:Nat.max a.lvl b.lvl<N:=aq
  have g1:a.lvl≤Nat.max a.lvl b.lvl:=Nat.le_max_left _ _
  have g2:b.lvl≤Nat.max a.lvl b.lvl:=Nat.le_max_right _ _
  exact⟨nh (t:=a) N (by omega) aa ae,nh (t:=b) N (by omega) aa ae⟩
 | .dB n a _ k,f,N,aq,aa,ae=>by
  have aq:Nat.max n (Nat.max a.lvl k.lvl)<N:=aq
  have g0:n≤Nat.max n (Nat.max a.lvl k.lvl):=Nat.le_max_left _ _
  have g3:Nat.max a.lvl k.lvl≤Nat.max n (Nat.max a.lvl k.lvl):=Nat.le_max_right _ _
  have g1:a.lvl≤Nat.max a.lvl k.lvl:=Nat.le_max_left _ _
  have g2:k.lvl≤Nat.max a.lvl k.lvl:=Nat.le_max_right _ _
  refine⟨aa n (by omega),nh (t:=a) N (by omega) (fun p ak x hx=>?_) (fun p x hx=>?_),nh (t:=k) N (by omega) aa ae⟩
  ·cases x.bS n with
   |true=>exact hx
   |false=>exact aa p ak x hx
  ·cases x.bS n with
   |true=>exact hx
   |false=>exact ae p x hx
 | .en m xid _ _ _ a k,f,N,aq,aa,ae=>by
  have aq:Nat.max m (Nat.max a.lvl k.lvl)<N:=aq
  have g0:m≤Nat.max m (Nat.max a.lvl k.lvl):=Nat.le_max_left _ _
  have g3:Nat.max a.lvl k.lvl≤Nat.max m (Nat.max a.lvl k.lvl):=Nat.le_max_right _ _
  have g1:a.lvl≤Nat.max a.lvl k.lvl:=Nat.le_max_left _ _
  have g2:k.lvl≤Nat.max a.lvl k.lvl:=Nat.le_max_right _ _
  refine⟨fun x hx ax=>⟨aa m (by omega) x hx,ae xid x ax⟩,nh (t:=a) N (by omega) (fun p ak x hx=>?_) (fun p x hx=>?_),nh (t:=k) N (by omega) aa ae⟩
  ·cases x.bS m||x.cX xid with
   |true=>exact hx
   |false=>exact aa p ak x hx
  ·cases x.bS m||x.cX xid with
   |true=>exact hx
   |false=>exact ae p x hx
 | .eZ m xid _ a k,f,N,aq,aa,ae=>by
  have aq:Nat.max m (Nat.max a.lvl k.lvl)<N:=aq
  have g0:m≤Nat.max m (Nat.max a.lvl k.lvl):=Nat.le_max_left _ _
  have g3:Nat.max a.lvl k.lvl≤Nat.max m (Nat.max a.lvl k.lvl):=Nat.le_max_right _ _
  have g1:a.lvl≤Nat.max a.lvl k.lvl:=Nat.le_max_left _ _
  have g2:k.lvl≤Nat.max a.lvl k.lvl:=Nat.le_max_right _ _
  refine⟨fun x hx ax=>⟨aa m (by omega) x hx,ae xid x ax⟩,nh (t:=a) N (by omega) (fun p ak x hx=>?_) (fun p x hx=>?_),nh (t:=k) N (by omega) aa ae⟩
  ·cases x.bS m||x.cX xid with
   |true=>exact hx
   |false=>exact aa p ak x hx
  ·cases x.bS m||x.cX xid with
   |true=>exact hx
   |false=>exact ae p x hx
 | .bad _,_,_,_,_,_=>trivial
theorem zeL(t:aC)(i:Nat):t.iz (pj i):=nh (t.lvl+1) (Nat.lt_succ_self _) (fun n _ x=>zeH i n x) (fun n x=>zeI i n x)
theorem K6{t:aC}{n:Nat}(h:t.lvl<n):t.iz (fJ n):=nh n h (fun m hm x=>zeJ n m (by omega) x) (fun m x=>zeK n m x)
def pk(o:Option (bZ→Bool))(x:bZ):Bool:=
 match o with
 |none=>true
 |some f=>f x
def aC.eI(f:ao→aC):aC→Option (bZ→Bool)→aC
 | .cG .ch S,none=>f S
 | .cG .ch S,some o=>match(f S).fr o with
  |true=>f S
  |false=>.bad 9
 | .cG x S,_=>.cG x S
 | .lt i x t,o=>.lt i x (t.eI f o)
 | .eF n t,o=>.eF n (t.eI f o)
 | .it c a b,o=>.it c (a.eI f o) (b.eI f o)
 | .dB n a ps k,o=>.dB n (a.eI f (some fun x=>!(x.bS n)&&pk o x)) ps (k.eI f o)
 | .en m xid dj b0 ca a k,o=>.en m xid dj b0 ca (a.eI f (some fun x=>!(x.bS m)&&(!(x.cX xid)&&pk o x))) (k.eI f o)
 | .eZ m xid ca a k,o=>.eZ m xid ca (a.eI f (some fun x=>!(x.bS m)&&(!(x.cX xid)&&pk o x))) (k.eI f o)
 | .bad n,_=>.bad n
end Go.aK
namespace Go.aK
open Go
theorem yN{R A:Type}{b c:Nat→A→Step R A}(I:Nat→A→Prop)(n:Nat)(h: ∀i v,i<n→I i v→c i v=b i v∧∀bg,b i v= .bq bg→I (i+1) bg): ∀(m k:Nat) (a:A),k+m=n→I k a→bn c k m a=bn b k m a
 |0,_,_,_,_=>rfl
 |m+1,k,a,hn,hi=>by
  obtain⟨aa,ae⟩:=h k a (by omega) hi
  simp only[bn,aa]
  cases ad:b k a with
  |ret r=>rfl
  |cN a=>rfl
  |bq v=>exact yN I n h m (k+1) v (by omega) (ae v ad)
theorem K7{R A:Type}{b c:A→Step R A}(I:A→Prop)(h: ∀v,I v→c v=b v∧∀bg,b v= .bq bg→I bg): ∀(m:Nat) (a:A),I a→c4 c m a=c4 b m a∧(ka c m a↔ka b m a)
 |0,_,_=>⟨rfl,Iff.rfl⟩
 |m+1,a,hi=>by
  obtain⟨aa,ae⟩:=h a hi;simp only[c4,ka,aa]
  cases ad:b a with
  |ret r=>exact⟨rfl,Iff.rfl⟩
  |cN a=>exact⟨rfl,Iff.rfl⟩
  |bq v=>exact K7 I h m v (ae v ad)
def iA(M:List aQ)(f:ao→aC)(o:Option nf):Option nf:=
 match o with
 |some (.ch,S,e)=>run M (f S) e
 |o=>o
section
variable {M:List aQ} {f:ao→aC}
theorem Au{x:bZ}{S:ao}{e:Env}(h:x≠ .ch):iA M f (some (x,S,e))=some (x,S,e):=by
 unfold iA
 split
 ·rename_i hx;cases hx;exact absurd rfl h
 ·rfl
theorem iU(m xid:Nat)(ca:List hD)(a:aC)(e:Env)(v:bX ca):a.fold M e (eg m xid ca fun _ _ _=>()) (.cN v)=h8 (fun _=>()) (c3 M m xid ca a e v):=by
 unfold c3
 split
 ·rename_i x S ay h
  rw[ke h,xp]
 ·rename_i h
  rw[At h];rfl
theorem th{R A X:Type}{f:R→X}{s:Step R A}{v:A}(h:h8 f s= .bq v):s= .bq v:=by
 cases s<;>simp_all[h8]
theorem SK{m xid:Nat}{ca:List hD}{a bb:aC}{e:Env}{v:bX ca}(h:run M bb e=iA M f (run M a e))(aq: ∀S ay,run M a e=some (.ch,S,ay)→∃x aS aB,run M (f S) ay=some (x,aS,aB)∧x.bS m=false∧x.cX xid=false):
 c3 M m xid ca bb e v=h8 (iA M f) (c3 M m xid ca a e v):=by
 unfold c3
 rw[h]
 cases ag:run M a e with
 |none=>rfl
 |some l=>
  obtain⟨x,S,ay⟩:=l
  cases x with
  |ch=>
   obtain⟨x,aS,aB,aa,ae,au⟩:=aq S ay ag;simp only[iA,aa];rw[kd ae au,kd (x:=.ch) rfl rfl];simp only[h8,iA,aa]
  |ext n=>
   simp only[iA];rw[xp]
   cases hx:bZ.cX xid (.ext n)with
   |true=>rw[n7 rfl hx,n7 rfl hx]
   |false=>rw[kd rfl hx,kd rfl hx];rfl
  |ret=>
   simp only[iA];rw[xp,kd rfl rfl,kd rfl rfl];rfl
  |lq n=>
   simp only[iA];rw[xp]
   cases hx:bZ.bS m (.lq n)with
   |true=>rw[n6 hx,n6 hx]
   |false=>rw[kd hx rfl,kd hx rfl];rfl
theorem ni: ∀{t:aC} {p q:bZ→Bool},t.fr p=true→(∀x,p x=true→q x=true)→t.fr q=true
 | .cG x _,_,_,h,aH=>aH x h
 | .lt _ _ t,_,_,h,aH=>ni (t:=t) h aH
 | .eF _ t,_,_,h,aH=>ni (t:=t) h aH
 | .it _ a b,_,_,h,aH=>by
  simp only[aC.fr,Bool.and_eq_true]at h⊢;exact⟨ni h.1 aH,ni h.2 aH⟩
 | .dB n a _ k,_,_,h,aH=>by
  simp only[aC.fr,Bool.and_eq_true]at h⊢;refine⟨ni h.1 fun x hx=>?_,ni h.2 aH⟩
  simp only[Bool.or_eq_true]at hx⊢;exact hx.imp id (aH x)
 | .en m xid _ _ _ a k,_,_,h,aH=>by
  simp only[aC.fr,Bool.and_eq_true]at h⊢;refine⟨ni h.1 fun x hx=>?_,ni h.2 aH⟩
  simp only[Bool.or_eq_true]at hx⊢;exact hx.imp id (Or.imp id (aH x))
 | .eZ m xid _ a k,_,_,h,aH=>by
  simp only[aC.fr,Bool.and_eq_true]at h⊢;refine⟨ni h.1 fun x hx=>?_,ni h.2 aH⟩
  simp only[Bool.or_eq_true]at hx⊢;exact hx.imp id (Or.imp id (aH x))
 | .bad _,_,_,h,_=>by cases h
theorem jf: ∀(t:aC) (o:Option (bZ→Bool)) {e:Env},(t.eI f o).safe M e→
    t.safe M e∧run M (t.eI f o) e=iA M f (run M t e)∧∀S ay,run M t e=some (.ch,S,ay)→(f S).safe M ay∧∀p,o=some p→(f S).fr p=true
  | .cG x S,o,e,h=>by
    cases x with
    |ch=>
      cases o with
      |none=>exact⟨trivial,rfl,fun db ay ag=>by cases ag;exact⟨h,fun _ ak=>by cases ak⟩⟩
      |some p=>
        simp only[aC.eI]at h
        split at h
        · rename_i aq
          have ah:(aC.cG .ch S).eI f (some p)=f S:=by simp only[aC.eI,aq]
          rw[ah];exact⟨trivial,rfl,fun db ay ag=>by cases ag;exact⟨h,fun _ ak=>by cases ak;exact aq⟩⟩
        · exact h.elim
    |_=>exact⟨trivial,rfl,fun db ay ag=>by cases ag⟩
  | .lt i x t,o,_,h=>jf t o (e:=a8.put _ i _) h
  | .eF n t,o,e,h=>by
    obtain⟨aa,ae,au⟩:=jf t o h.2;exact⟨⟨h.1,aa⟩,ae,au⟩
  | .it c a b,o,e,h=>by
    have aZ:=fun hc=>jf a o (h.1 hc)
    have ad:=fun hc=>jf b o (h.2 hc)
    refine⟨⟨fun hc=>(aZ hc).1,fun hc=>(ad hc).1⟩,?_⟩
    simp only[run,aC.eI,aC.fold]
    cases hc:c.az e .bool with
    |true=>exact(aZ hc).2
    |false=>exact(ad hc).2
  | .dB n a ps k,o,e,h=>by
    obtain⟨b5,a2,a3⟩:=jf a _ h.1
    have ai:(aC.dB n a ps k).safe M e∧run M ((aC.dB n a ps k).eI f o) e=iA M f (run M (aC.dB n a ps k) e)∧∀S ay,run M (aC.dB n a ps k) e=some (.ch,S,ay)→(f S).safe M ay∧∀p,o=some p→(f S).fr p=true:=by
      show _∧run M (.dB n (a.eI f (some fun x=>!(x.bS n)&&pk o x)) ps (k.eI f o)) e=_∧_
      cases ag:run M a e with
      |none=>
        rw[ag]at a2
        have a2:run M _ e=none:=a2
        refine⟨⟨b5,fun af=>by rw[At ag]at af;cases af⟩,?_,fun S ay af=>by unfold run at af;rw[tf ag]at af;cases af⟩
        unfold run;rw[tf a2,tf ag];rfl
      |some l=>
        obtain⟨x,aS,aB⟩:=l
        cases hx:x.bS n with
        |true=>
          have b3:x≠ .ch:=fun e=>by rw[e]at hx;cases hx
          rw[ag,Au b3]at a2
          have aj:=SJ h a2 hx
          obtain⟨fx,gG,k7⟩:=jf k o aj;refine⟨⟨b5,fun _=>?_⟩,?_,fun S ay af=>?_⟩
          · have:(fun(r:aU) (p:ez)=>(⟨r,bif a.jv n
      then a.fold M e (fun _ S ay=>(p.dc S).get ay r) r.fy
      else a.fold M e (fun x S ay=>bif x.bS n then(p.dc S).get ay r else r.fy) r.fy⟩:aF))=fun r p=>⟨r,(p.dc aS).get aB r⟩:=by
              funext r p
              simp only[ke ag,hx]
              cases a.jv n<;>rfl
            rw[this];exact fx
          · unfold run
            rw[qD a2 hx,qD ag hx];exact gG
          · unfold run at af
            rw[qD ag hx]at af;exact k7 S ay af
        |false=>
          have SL:(aC.dB n a ps k).safe M e:=⟨b5,fun af=>by rw[ke ag,hx]at af;cases af⟩
          by_cases b3:x= .ch
          · subst b3
            obtain⟨f1,f2⟩:=a3 aS aB ag
            have f2:=f2 _ rfl
            obtain⟨y,dO,bd,g1,g2⟩:=jg (M:=M) (e:=aB) f2;simp only[Bool.and_eq_true,Bool.not_eq_true']at g2;rw[ag]at a2
            have a2:run M _ e=run M (f aS) aB:=a2
            rw[g1]at a2;refine⟨SL,?_,fun S ay af=>?_⟩
            · have aa:run M (aC.dB n a ps k) e=some (.ch,aS,aB):=by unfold run;rw[ng ag hx]
              rw[aa];show _=run M (f aS) aB;rw[g1];unfold run;rw[ng a2 g2.1]
            · unfold run at af
              rw[ng ag hx]at af;cases af;refine⟨f1,fun p ak=>?_⟩
              subst ak;exact ni f2 fun x hx=>by simp only[Bool.and_eq_true]at hx;exact hx.2
          · rw[ag,Au b3]at a2
            refine⟨SL,?_,fun S ay af=>?_⟩
            · unfold run
              rw[ng a2 hx,ng ag hx,Au b3]
            · unfold run at af
              rw[ng ag hx]at af;cases af;exact absurd rfl b3
    exact ai
  | .en m xid dj b0 ca a k,o,e,h=>by
    obtain⟨⟨I,i0,bV⟩,aj⟩:=h
    have key: ∀(i:Nat) (v:bX ca),i<(cl (dj.den M e)).toNat→I i v→a.safe M (bk (a8.put e b0 ⟨.int .i64,(i:Int)⟩) ca v)∧
        c3 M m xid ca (a.eI f (some fun x=>!(x.bS m)&&(!(x.cX xid)&&pk o x))) (bk (a8.put e b0 ⟨.int .i64,(i:Int)⟩) ca v) v=h8 (iA M f) (c3 M m xid ca a (bk (a8.put e b0 ⟨.int .i64,(i:Int)⟩) ca v) v)∧
        (∀bg,c3 M m xid ca a (bk (a8.put e b0 ⟨.int .i64,(i:Int)⟩) ca v) v= .bq bg→I (i+1) bg)∧
        ∀S ay,c3 M m xid ca a (bk (a8.put e b0 ⟨.int .i64,(i:Int)⟩) ca v) v= .ret (some (.ch,S,ay))→(f S).safe M ay∧∀p,o=some p→(f S).fr p=true:=by
      intro i v hi aw;obtain⟨s1,s2⟩:=bV i v hi aw;obtain⟨b5,a2,a3⟩:=jf a _ s1
      have ah:=SK (m:=m) (xid:=xid) (ca:=ca) (v:=v) a2 fun S ay ag=>by
        obtain⟨y,dO,bd,g1,g2⟩:=jg (M:=M) (e:=ay) ((a3 S ay ag).2 _ rfl);simp only[Bool.and_eq_true,Bool.not_eq_true']at g2;exact⟨y,dO,bd,g1,g2.1,g2.2.1⟩
      refine⟨b5,ah,fun bg gP=>s2 bg ?_,fun S ay ag=>?_⟩
      · rw[iU,ah,gP]
        rfl
      · unfold c3 at ag
        cases pn:run M a (bk (a8.put e b0 ⟨.int .i64,(i:Int)⟩) ca v)with
        |none=>rw[pn]at ag;cases ag
        |some l=>
          obtain⟨x,db,Am⟩:=l;rw[pn]at ag;simp only at ag
          cases hx:x.bS m with
          |true=>rw[n6 hx]at ag;cases ag
          |false=>
            cases ax:x.cX xid with
            |true=>rw[n7 hx ax]at ag;cases ag
            |false=>
              rw[kd hx ax]at ag;cases ag;obtain⟨f1,f2⟩:=a3 S ay pn;refine⟨f1,fun p ak=>?_⟩
              subst ak;exact ni (f2 _ rfl) fun x hx=>by simp only[Bool.and_eq_true]at hx;exact hx.2.2
    have sx:bn (fun i (v:bX ca)=>(a.eI f (some fun x=>!(x.bS m)&&(!(x.cX xid)&&pk o x))).fold M (bk (a8.put e b0 ⟨.int .i64,(i:Int)⟩) ca v) (eg m xid ca fun _ _ _=>()) (.cN v)) 0 (cl (dj.den M e)).toNat (b8 _ (dD e ca))=
        bn (fun i (v:bX ca)=>a.fold M (bk (a8.put e b0 ⟨.int .i64,(i:Int)⟩) ca v) (eg m xid ca fun _ _ _=>()) (.cN v)) 0 (cl (dj.den M e)).toNat (b8 _ (dD e ca)):=
      yN I _ (fun i v hi aw=>by
        obtain⟨_,g2,g3,_⟩:=key i v hi aw;refine⟨?_,fun bg gP=>g3 bg ?_⟩
        · rw[iU,iU,g2]
          cases c3 M m xid ca a (bk (a8.put e b0 ⟨.int .i64,(i:Int)⟩) ca v) v<;>rfl
        · rw[iU]at gP
          exact th gP) _ 0 _ (by omega) i0
    rw[sx]at aj
    have fK:bn (fun i (v:bX ca)=>(a.eI f (some fun x=>!(x.bS m)&&(!(x.cX xid)&&pk o x))).fold M (bk (a8.put e b0 ⟨.int .i64,(i:Int)⟩) ca v) (eg m xid ca fun x S e=>some (x,S,e)) (.cN v)) 0 (cl (dj.den M e)).toNat (b8 _ (dD e ca))=
        bn (fun i (v:bX ca)=>h8 (iA M f) (c3 M m xid ca a (bk (a8.put e b0 ⟨.int .i64,(i:Int)⟩) ca v) v)) 0 (cl (dj.den M e)).toNat (b8 _ (dD e ca)):=
      yN I _ (fun i v hi aw=>by
        obtain⟨_,g2,g3,_⟩:=key i v hi aw;refine⟨?_,fun bg gP=>g3 bg (th gP)⟩
        rw[xq,g2]) _ 0 _ (by omega) i0
    have fP: ∀(n i:Nat) (v:bX ca),i+n=(cl (dj.den M e)).toNat→I i v→∀S ay,bn (fun i (v:bX ca)=>c3 M m xid ca a (bk (a8.put e b0 ⟨.int .i64,(i:Int)⟩) ca v) v) i n v= .inl (some (.ch,S,ay))→(f S).safe M ay∧∀p,o=some p→(f S).fr p=true:=by
      intro n
      induction n with
      |zero=>intro i v _ _ S ay h;cases h
      |succ n aX=>
        intro i v k0 aw S ay h;obtain⟨_,_,g3,g4⟩:=key i v (by omega) aw
        simp only[bn]at h
        cases ag:c3 M m xid ca a (bk (a8.put e b0 ⟨.int .i64,(i:Int)⟩) ca v) v with
        |ret r=>rw[ag]at h;cases h;exact g4 S ay ag
        |cN bg=>rw[ag]at h;cases h
        |bq bg=>rw[ag]at h;exact aX (i+1) bg (by omega) (g3 bg ag) S ay h
    have cq:run M (.en m xid dj b0 ca a k) e=Sum.elim (fun r=>r) (fun v=>run M k (bk e ca v)) (bn (fun i (v:bX ca)=>c3 M m xid ca a (bk (a8.put e b0 ⟨.int .i64,(i:Int)⟩) ca v) v) 0 (cl (dj.den M e)).toNat (b8 _ (dD e ca))):=by
      unfold run;rw[xr];simp only[xq]
    have K8:run M ((aC.en m xid dj b0 ca a k).eI f o) e=Sum.elim (fun r=>r) (fun v=>run M (k.eI f o) (bk e ca v)) (Sum.map (iA M f) id (bn (fun i (v:bX ca)=>c3 M m xid ca a (bk (a8.put e b0 ⟨.int .i64,(i:Int)⟩) ca v) v) 0 (cl (dj.den M e)).toNat (b8 _ (dD e ca)))):=by
      show aC.fold M (.en m xid dj b0 ca (a.eI f (some fun x=>!(x.bS m)&&(!(x.cX xid)&&pk o x))) (k.eI f o)) e _ none=_;rw[xr,fK,ug (iA M f) (fun _ _=>rfl)];rfl
    have eA: ∀v,bn (fun i (v:bX ca)=>c3 M m xid ca a (bk (a8.put e b0 ⟨.int .i64,(i:Int)⟩) ca v) v) 0 (cl (dj.den M e)).toNat (b8 _ (dD e ca))= .inr v→(k.eI f o).safe M (bk e ca v):=fun v aw=>by
      simp only[iU]at aj;rw[ug (fun _=>()) (fun _ _=>rfl),aw]at aj;exact aj
    refine⟨⟨⟨I,i0,fun i v hi aw=>?_⟩,?_⟩,?_,fun S ay ag=>?_⟩
    · obtain⟨g1,_,g3,_⟩:=key i v hi aw
      exact⟨g1,fun bg gP=>g3 bg (th (by rw[iU]at gP;exact gP))⟩
    · simp only[iU]
      rw[ug (fun _=>()) (fun _ _=>rfl)]
      cases aw:bn (fun i (v:bX ca)=>c3 M m xid ca a (bk (a8.put e b0 ⟨.int .i64,(i:Int)⟩) ca v) v) 0 (cl (dj.den M e)).toNat (b8 _ (dD e ca))with
      |inl r=>trivial
      |inr v=>exact(jf k o (eA v aw)).1
    · rw[cq,K8]
      cases aw:bn (fun i (v:bX ca)=>c3 M m xid ca a (bk (a8.put e b0 ⟨.int .i64,(i:Int)⟩) ca v) v) 0 (cl (dj.den M e)).toNat (b8 _ (dD e ca))with
      |inl r=>rfl
      |inr v=>exact(jf k o (eA v aw)).2.1
    · rw[cq]at ag
      cases aw:bn (fun i (v:bX ca)=>c3 M m xid ca a (bk (a8.put e b0 ⟨.int .i64,(i:Int)⟩) ca v) v) 0 (cl (dj.den M e)).toNat (b8 _ (dD e ca))with
      |inl r=>
        rw[aw]at ag
        have ag:r=some (.ch,S,ay):=ag
        subst ag;exact fP _ 0 _ (by omega) i0 S ay aw
      |inr v=>
        rw[aw]at ag;exact(jf k o (eA v aw)).2.2 S ay ag
  | .eZ m xid ca a k,o,e,h=>by
    obtain⟨⟨I,i0,bV⟩,he,aj⟩:=h
    have key: ∀(v:bX ca),I v→a.safe M (bk e ca v)∧
        c3 M m xid ca (a.eI f (some fun x=>!(x.bS m)&&(!(x.cX xid)&&pk o x))) (bk e ca v) v=h8 (iA M f) (c3 M m xid ca a (bk e ca v) v)∧
        (∀bg,c3 M m xid ca a (bk e ca v) v= .bq bg→I bg)∧
        ∀S ay,c3 M m xid ca a (bk e ca v) v= .ret (some (.ch,S,ay))→(f S).safe M ay∧∀p,o=some p→(f S).fr p=true:=by
      intro v aw;obtain⟨s1,s2⟩:=bV v aw;obtain⟨b5,a2,a3⟩:=jf a _ s1
      have ah:=SK (m:=m) (xid:=xid) (ca:=ca) (v:=v) a2 fun S ay ag=>by
        obtain⟨y,dO,bd,g1,g2⟩:=jg (M:=M) (e:=ay) ((a3 S ay ag).2 _ rfl);simp only[Bool.and_eq_true,Bool.not_eq_true']at g2;exact⟨y,dO,bd,g1,g2.1,g2.2.1⟩
      refine⟨b5,ah,fun bg gP=>s2 bg ?_,fun S ay ag=>?_⟩
      · rw[iU,ah,gP]
        rfl
      · unfold c3 at ag
        cases pn:run M a (bk e ca v)with
        |none=>rw[pn]at ag;cases ag
        |some l=>
          obtain⟨x,db,Am⟩:=l;rw[pn]at ag;simp only at ag
          cases hx:x.bS m with
          |true=>rw[n6 hx]at ag;cases ag
          |false=>
            cases ax:x.cX xid with
            |true=>rw[n7 hx ax]at ag;cases ag
            |false=>
              rw[kd hx ax]at ag;cases ag;obtain⟨f1,f2⟩:=a3 S ay pn;refine⟨f1,fun p ak=>?_⟩
              subst ak;exact ni (f2 _ rfl) fun x hx=>by simp only[Bool.and_eq_true]at hx;exact hx.2.2
    have sx:=K7 (b:=fun(v:bX ca)=>(a.fold M (bk e ca v) (eg m xid ca fun _ _ _=>()) (.cN v):Step Unit (bX ca))) (c:=fun(v:bX ca)=>((a.eI f (some fun x=>!(x.bS m)&&(!(x.cX xid)&&pk o x))).fold M (bk e ca v) (eg m xid ca fun _ _ _=>()) (.cN v):Step Unit (bX ca))) I (fun v aw=>by
        obtain⟨_,g2,g3,_⟩:=key v aw;refine⟨?_,fun bg gP=>g3 bg ?_⟩
        · rw[iU,iU,g2]
          cases c3 M m xid ca a (bk e ca v) v<;>rfl
        · rw[iU]at gP
          exact th gP) dU _ i0
    rw[sx.1]at aj
    have he:=sx.2.1 he
    have fK:=(K7 (b:=fun(v:bX ca)=>h8 (iA M f) (c3 M m xid ca a (bk e ca v) v)) (c:=fun(v:bX ca)=>(a.eI f (some fun x=>!(x.bS m)&&(!(x.cX xid)&&pk o x))).fold M (bk e ca v) (eg m xid ca fun x S e=>some (x,S,e)) (.cN v)) I (fun v aw=>by
        obtain⟨_,g2,g3,_⟩:=key v aw;refine⟨?_,fun bg gP=>g3 bg (th gP)⟩
        rw[xq,g2]) dU _ i0).1
    have fP: ∀(n:Nat) (v:bX ca),I v→∀S ay,c4 (fun(v:bX ca)=>c3 M m xid ca a (bk e ca v) v) n v= .inl (some (.ch,S,ay))→(f S).safe M ay∧∀p,o=some p→(f S).fr p=true:=by
      intro n
      induction n with
      |zero=>intro v _ S ay h;cases h
      |succ n aX=>
        intro v aw S ay h;obtain⟨_,_,g3,g4⟩:=key v aw;simp only[c4]at h
        cases ag:c3 M m xid ca a (bk e ca v) v with
        |ret r=>rw[ag]at h;cases h;exact g4 S ay ag
        |cN bg=>rw[ag]at h;cases h
        |bq bg=>rw[ag]at h;exact aX bg (g3 bg ag) S ay h
    have cq:run M (.eZ m xid ca a k) e=Sum.elim (fun r=>r) (fun v=>run M k (bk e ca v)) (c4 (fun(v:bX ca)=>c3 M m xid ca a (bk e ca v) v) dU (b8 _ (dD e ca))):=by
      simp only[run,aC.fold,xq]
    have K8:run M ((aC.eZ m xid ca a k).eI f o) e=Sum.elim (fun r=>r) (fun v=>run M (k.eI f o) (bk e ca v)) (Sum.map (iA M f) id (c4 (fun(v:bX ca)=>c3 M m xid ca a (bk e ca v) v) dU (b8 _ (dD e ca)))):=by
      rw[←xo (iA M f) (c:=fun(v:bX ca)=>h8 (iA M f) (c3 M m xid ca a (bk e ca v) v)) (fun _=>rfl),←fK];rfl
    have eA: ∀v,c4 (fun(v:bX ca)=>c3 M m xid ca a (bk e ca v) v) dU (b8 _ (dD e ca))= .inr v→(k.eI f o).safe M (bk e ca v):=fun v aw=>by
      simp only[iU]at aj;rw[xo (fun _=>()) (fun _=>rfl),aw]at aj;exact aj
    refine⟨⟨⟨I,i0,fun v aw=>?_⟩,he,?_⟩,?_,fun S ay ag=>?_⟩
    · obtain⟨g1,_,g3,_⟩:=key v aw
      exact⟨g1,fun bg gP=>g3 bg (th (by rw[iU]at gP;exact gP))⟩
    · simp only[iU]
      rw[xo (fun _=>()) (fun _=>rfl)]
      cases aw:c4 (fun(v:bX ca)=>c3 M m xid ca a (bk e ca v) v) dU (b8 _ (dD e ca))with
      |inl r=>trivial
      |inr v=>exact(jf k o (eA v aw)).1
    · rw[cq,K8]
      cases aw:c4 (fun(v:bX ca)=>c3 M m xid ca a (bk e ca v) v) dU (b8 _ (dD e ca))with
      |inl r=>rfl
      |inr v=>exact(jf k o (eA v aw)).2.1
    · rw[cq]at ag
      cases aw:c4 (fun(v:bX ca)=>c3 M m xid ca a (bk e ca v) v) dU (b8 _ (dD e ca))with
      |inl r=>
        rw[aw]at ag
        have ag:r=some (.ch,S,ay):=ag
        subst ag;exact fP _ _ i0 S ay aw
      |inr v=>
        rw[aw]at ag;exact(jf k o (eA v aw)).2.2 S ay ag
  | .bad _,_,_,h=>h.elim
end
end Go.aK
namespace Go.aK
open Go
theorem n8(G:a7)(e:Env)(l:a8 ab): ∀(n i j:Nat),(kc G e l i n)[j]? =if j<n then some (match l.get (i+j)with|some x=>x.den G e|none=>.top)else none
 |0,_,_=>by simp[kc]
 |n+1,i,0=>by simp only[kc,List.getElem?_cons_zero,Nat.add_zero,Nat.zero_lt_succ,if_true];rfl
 |n+1,i,j+1=>by
  simp only[kc,List.getElem?_cons_succ,n8 G e l n (i+1) j]
  rw[show i+1+j=i+(j+1)by omega]
  simp
theorem D7(G:a7)(e:Env)(l:a8 ab): ∀(n i:Nat),(kc G e l i n).length=n
 |0,_=>rfl
 |n+1,i=>by simp[kc,D7 G e l n (i+1)]
theorem vj(G:a7)(N B:Nat)(e:Env)(S:ao)(j:Nat):(S.den G N B e).cR[j]? =if j<N then some ((S.at j).den G e)else none:=by
 simp only[ao.den,n8,Nat.zero_add]
 by_cases h:j<N
 ·simp only[h,if_true,Option.some.injEq]
  unfold ao.at
  cases S.l.get j<;>rfl
 ·simp[h]
def Av:ab→ab→Bool
 | .aT r i,.aT q j=>Nat.beq i j&&hR r q
 | .fd c i k r,.fd d j m q=>(Nat.beq i j&&Nat.beq k m)&&(decide (c=d)&&hR r q)
 |_,_=>false
theorem K9{x y:ab}(h:Av x y=true):x=y:=by
 unfold Av at h
 split at h
 ·simp only[Bool.and_eq_true]at h
  rw[Nat.eq_of_beq_eq_true h.1,hr h.2]
 ·simp only[Bool.and_eq_true,decide_eq_true_eq]at h
  rw[Nat.eq_of_beq_eq_true h.1.1,Nat.eq_of_beq_eq_true h.1.2,h.2.1,hr h.2.2]
 ·cases h
def lr(g:ab):List b4→Option Bool
 |[]=>none
 | .dT h b::r=>match Av h g with
  |true=>some b
  |false=>lr g r
 |_::r=>lr g r
theorem qE{e:Env}{g:ab}{b:Bool}: ∀{l:List b4},lr g l=some b→(∀c∈l,c.ok e)→g.az e .bool=b
 | .dT h b'::r,aj,hc=>by
  simp only[lr]at aj
  split at aj
  ·rename_i ai
   cases aj;rw[←K9 ai];exact hc (.dT h b) (by simp)
  ·exact qE aj fun c hm=>hc c (by simp[hm])
 | .d1 _ _ _::r,aj,hc=>qE (l:=r) aj fun c hm=>hc c (by simp[hm])
 | .d2 _ _ _ _::r,aj,hc=>qE (l:=r) aj fun c hm=>hc c (by simp[hm])
 | .rg _ _::r,aj,hc=>qE (l:=r) aj fun c hm=>hc c (by simp[hm])
def ab.res(l:List b4):ab→ab
 | .fI g b v=>match lr g l with
  |some c=>match decide (c=b)with
   |true=>v.res l
   |false=>.tp []
  |none=>.fI g b (v.res l)
 | .fi g id off=>match lr g l,id with
  |some true,some id=>.ed id off
  |some false,_=>.cs (.pointer none)
  |_,_=>.fi g id off
 |x=>x
theorem SM{l:List b4}{g v:ab}{b:Bool}:(ab.fI g b v).res l=match lr g l with
 |some c=>match decide (c=b)with
  |true=>v.res l
  |false=>.tp []
 |none=>.fI g b (v.res l):=by rw[ab.res]
theorem SN{l:List b4}{g:ab}{id:Option Nat}{off:Nat}:(ab.fi g id off).res l=match lr g l,id with
 |some true,some id=>.ed id off
 |some false,_=>.cs (.pointer none)
 |_,_=>.fi g id off:=by
 cases aj:lr g l with
 |none=>simp only[ab.res,aj]
 |some b=>cases b<;>cases id<;>simp only[ab.res,aj]
theorem La{G:a7}{e:Env}{l:List b4}(hc: ∀c∈l,c.ok e): ∀{x:ab},(x.res l).den G e=x.den G e
 | .fI g b v=>by
  have aX:=La (G:=G) hc (x:=v)
  rw[SM]
  split
  ·rename_i c aj
   have:=qE aj hc
   split
   ·rename_i hd
    have hd:=of_decide_eq_true hd
    subst hd;rw[aX];simp only[ab.den,this]
    cases c<;>rfl
   ·rename_i hd
    have hd:=of_decide_eq_false hd
    simp only[ab.den,this]
    cases c<;>cases b<;>first|rfl|exact absurd rfl hd
  ·simp only[ab.den,aX]
 | .aT _ _=>rfl
 | .fd _ _ _ _=>rfl
 | .cs _=>rfl
 | .ip _ _ _=>rfl
 | .cg _=>rfl
 | .tp _=>rfl
 | .ed _ _=>rfl
 | .gM _ _ _=>rfl
 | .aN _=>rfl
 | .fn _ _ _=>rfl
 | .gY _=>rfl
 | .lQ _ _=>rfl
 | .gW _ _ _ _=>rfl
 | .cB _ _=>rfl
 | .fi g id off=>by
  rw[SN]
  cases aj:lr g l with
  |none=>rfl
  |some c=>
   have:=qE aj hc
   cases c with
   |true=>cases id with
    |none=>rfl
    |some id=>simp only[ab.den,this]
   |false=>simp only[ab.den,this]
 | .er _ _ _ _=>rfl
 | .top=>rfl
theorem Lb{l:List b4}{k:Nat}: ∀{x:ab},x.lt k=true→(x.res l).lt k=true
 | .fI g b v,h=>by
  simp only[ab.lt,Bool.and_eq_true]at h;rw[SM]
  split
  ·split
   ·exact Lb h.2
   ·rfl
  ·simp only[ab.lt,h.1,Lb h.2,Bool.and_self]
 | .aT _ _,h=>h
 | .fd _ _ _ _,h=>h
 | .cs _,h=>h
 | .ip _ _ _,h=>h
 | .cg _,h=>h
 | .tp _,h=>h
 | .ed _ _,h=>h
 | .gM _ _ _,h=>h
 | .aN _,h=>h
 | .fn _ _ _,h=>h
 | .gY _,h=>h
 | .lQ _ _,h=>h
 | .gW _ _ _ _,h=>h
 | .cB _ _,h=>h
 | .fi g id off,h=>by
  rw[SN]
  cases lr g l with
  |none=>exact h
  |some c=>cases c with
   |true=>cases id with
    |none=>exact h
    |some id=>rfl
   |false=>rfl
 | .er _ _ _ _,h=>h
 | .top,h=>h
def ao.aY(N:Nat)(S:ao):Operand→ab
 | .tmp t=>match Nat.blt t N with
  |true=>(S.at t).res S.g
  |false=>.top
 | .const v=>match v.oneCell' with
  |true=>.cs v
  |false=>.top
 | .global g=>.lQ g 0
 | .func f=>.fn (.func f) [] []
section
variable {G:a7} {N B:Nat} {e:Env} {S:ao}
theorem bH(hf: ∀c∈S.g,c.ok e)(x:Operand):aI G (S.den G N B e) x=(S.aY N x).den G e:=by
 cases x with
 |tmp t=>
  simp only[aI,ao.aY,List.getD_eq_getElem?_getD,vj]
  cases h:Nat.blt t N with
  |true=>
   have:t<N:=e6 h
   simp[this,La hf]
  |false=>
   have: ¬t<N:=fun h'=>by rw[jR h']at h;cases h
   simp[this,ab.den]
 |const v=>
  simp only[aI,ao.aY]
  cases v.oneCell'<;>simp[ab.den]
 |global g=>
  simp only[aI,ao.aY,ab.den]
  cases G g with
  |none=>rfl
  |some l=>simp
 |func f=>simp[aI,ao.aY,ab.den,ab.bP]
def ao.put(S:ao)(dst:Option Nat)(v:ab):ao:=
 match dst with
 |some d=>{S with l:=S.l.put d v}
 |none=>S
theorem Lc(d:Nat)(v:ab)(l:a8 ab):kc G e (l.put d v) 0 N=(kc G e l 0 N).set d (v.den G e):=by
 apply List.ext_getElem?
 intro j
 rw[n8,List.getElem?_set,n8,D7,Nat.zero_add,a8.hZ]
 by_cases hd:d=j
 ·subst hd
  by_cases af:d<N<;>simp[af]
 ·simp[hd]
theorem fa(dst:Option Nat)(v:ab):(S.put dst v).den G N B e=(S.den G N B e).put dst (v.den G e):=by
 cases dst with
 |none=>rfl
 |some d=>simp only[ao.put,ao.den,aO.put,Lc]
theorem eh: ∀(h:List (Nat × bF)) (id:Nat),aE (cx G e h) id=(c9 h id).map (bF.den G e)
 |[],_=>rfl
 |(i,o)::r,id=>by
  simp only[cx,aE,c9,qB]
  by_cases h:i=id
  ·simp[h]
  ·simp only[h,if_false,decide_false]
   exact eh r id
theorem ti: ∀(h:List (Nat × bF)) (id:Nat) (o:bF),cx G e (ju h id o)=eM (cx G e h) id (o.den G e)
 |[],_,_=>rfl
 |(i,p)::r,id,o=>by
  simp only[ju,cx,eM,qB]
  by_cases h:i=id
  ·simp[h,cx]
  ·simp only[h,decide_false,if_false,cx,ti r id o]
end
def bF.lt(k:Nat):bF→Bool
 | .di _ l=>ab.cK k l
 | .rw _ _ x=>x.lt k
 | .it _ x p=>x.lt k&&p.lt k
def eG(k:Nat):List (Nat × bF)→Bool
 |[]=>true
 |(_,o)::r=>o.lt k&&eG k r
def b4.lt(k:Nat):b4→Bool
 | .d1 i _ x=>Nat.blt i k&&x.lt k
 | .d2 i _ x y=>Nat.blt i k&&(x.lt k&&y.lt k)
 | .rg i b=>Nat.blt i k&&b.lt k
 | .dT g _=>g.lt k
def fj(k:Nat):List b4→Bool
 |[]=>true
 |c::r=>c.lt k&&fj k r
structure ao.cr (S:ao):Prop where
 l: ∀i x,S.l.get i=some x→x.lt S.k=true
 h:eG S.k S.h=true
 g:fj S.k S.g=true
mutual
theorem gD{k m:Nat}(h:k≤m): ∀{x:ab},x.lt k=true→x.lt m=true:=fun {x} hx=>by
 cases x with
 |aT r i=>exact jR (Nat.lt_of_lt_of_le (e6 hx) h)
 |fd c i j r=>exact jR (Nat.lt_of_lt_of_le (e6 (i:=i) hx) h)
 |ip c i j=>exact jR (Nat.lt_of_lt_of_le (e6 (i:=i) hx) h)
 |cg l=>exact vk (l:=l) h hx
 |tp l=>exact vk (l:=l) h hx
 |gM id x off=>exact gD (x:=x) h hx
 |gW id off x n=>exact gD (x:=x) h hx
 |fi g id off=>exact gD (x:=g) h hx
 |er t a rs l=>exact vk h (l:=l) hx
 |fn f a b=>
  simp only[ab.lt,Bool.and_eq_true]at hx⊢;exact⟨vk h hx.1,vk h hx.2⟩
 |fI g b x=>
  simp only[ab.lt,Bool.and_eq_true]at hx⊢;exact⟨gD h hx.1,gD h hx.2⟩
 |_=>rfl
theorem vk{k m:Nat}(h:k≤m): ∀{l:List ab},ab.cK k l=true→ab.cK m l=true:=fun {l} aq=>by
 match l with
 |[]=>rfl
 |x::r=>
  simp only[ab.cK,Bool.and_eq_true]at aq⊢;exact⟨gD h aq.1,vk h aq.2⟩
end
theorem tj{k m:Nat}(h:k≤m): ∀{l:List (Nat × bF)},eG k l=true→eG m l=true
 |[],_=>rfl
 |(_,o)::r,aq=>by
  simp only[eG,Bool.and_eq_true]at aq⊢;refine⟨?_,tj h aq.2⟩
  cases o with
  |di t l=>exact vk h (l:=l) aq.1
  |rw t c x=>exact gD h (x:=x) aq.1
  |it q x p=>
   have aa:=aq.1
   simp only[bF.lt,Bool.and_eq_true]at aa⊢;exact⟨gD h aa.1,gD h aa.2⟩
theorem n9{k m:Nat}(h:k≤m): ∀{l:List b4},fj k l=true→fj m l=true
 |[],_=>rfl
 |c::r,aq=>by
  simp only[fj,Bool.and_eq_true]at aq⊢;refine⟨?_,n9 h aq.2⟩
  cases c with
  |d1 i f x=>
   have:=aq.1
   simp only[b4.lt,Bool.and_eq_true]at this⊢;exact⟨jR (Nat.lt_of_lt_of_le (e6 this.1) h),gD h this.2⟩
  |d2 i f x y=>
   have:=aq.1
   simp only[b4.lt,Bool.and_eq_true]at this⊢;exact⟨jR (Nat.lt_of_lt_of_le (e6 this.1) h),gD h this.2.1,gD h this.2.2⟩
  |rg i b=>
   have:=aq.1
   simp only[b4.lt,Bool.and_eq_true]at this⊢;exact⟨jR (Nat.lt_of_lt_of_le (e6 this.1) h),gD h this.2⟩
  |dT g b=>exact gD h (x:=g) aq.1
section
variable {G:a7} {N B:Nat} {e ay:Env} {S:ao} {k:Nat}
theorem xt(h:bW k e ay): ∀{l:List (Nat × bF)},eG k l=true→cx G ay l=cx G e l
 |[],_=>rfl
 |(_,o)::r,aq=>by
  simp only[eG,Bool.and_eq_true]at aq;simp only[cx,xt h aq.2]
  congr 2
  cases o with
  |di t l=>simp only[bF.den,xj h (l:=l) aq.1]
  |rw t c x=>simp only[bF.den,eE h (x:=x) aq.1]
  |it q x p=>
   have aa:=aq.1
   simp only[bF.lt,Bool.and_eq_true]at aa;simp only[bF.den,eE h (x:=x) aa.1,eE h (x:=p) aa.2]
theorem lu(h:bW S.k e ay)(ad:S.cr):S.den G N B ay=S.den G N B e:=by
 simp only[ao.den,aO.mk.injEq,and_true,true_and]
 refine⟨?_,xt h ad.h⟩
 apply List.ext_getElem?
 intro j
 rw[n8,n8]
 by_cases af:j<N
 ·simp only[af,if_true,Option.some.injEq]
  cases ah:S.l.get (0+j)with
  |none=>rfl
  |some x=>exact s9 h (ad.l _ x ah)
 ·simp[af]
theorem ij(h:bW k e ay): ∀{l:List b4},fj k l=true→(∀c∈l,c.ok e)→∀c∈l,c.ok ay
 |[],_,_,_,hc=>by cases hc
 |d::r,aq,hf,c,hc=>by
  simp only[fj,Bool.and_eq_true]at aq
  rcases List.mem_cons.1 hc with rfl|hc
  ·have aL:=hf c (by simp)
   cases c with
   |d1 i f x=>
    have aa:=aq.1
    simp only[b4.lt,Bool.and_eq_true]at aa;simp only[b4.ok]at aL⊢;rw[h i (e6 aa.1),eE h aa.2];exact aL
   |d2 i f x y=>
    have aa:=aq.1
    simp only[b4.lt,Bool.and_eq_true]at aa;simp only[b4.ok]at aL⊢;rw[h i (e6 aa.1),eE h aa.2.1,eE h aa.2.2];exact aL
   |rg i b=>
    have aa:=aq.1
    simp only[b4.lt,Bool.and_eq_true]at aa;simp only[b4.ok]at aL⊢;rw[h i (e6 aa.1),rP h aa.2];exact aL
   |dT g b=>
    simp only[b4.ok]at aL⊢;rw[eE h (x:=g) aq.1];exact aL
  ·exact ij h aq.2 (fun c hc=>hf c (by simp[hc])) c hc
theorem D8(ad:S.cr)(x:Operand):(S.aY N x).lt S.k=true:=by
 cases x with
 |tmp t=>
  simp only[ao.aY]
  split
  ·refine Lb ?_
   unfold ao.at
   split
   ·rename_i x hx;exact ad.l _ x hx
   ·rfl
  ·rfl
 |const v=>simp only[ao.aY];split<;>rfl
 |global g=>rfl
 |func f=>rfl
end
def bJ.lt(k:Nat):bJ→Bool
 | .rR _ x=>x.lt k
 | .f1 _ x=>x.lt k
 | .f2 _ x y=>x.lt k&&y.lt k
 | .eB _ x lo hi=>x.lt k&&(ab.cK k lo.toList&&ab.cK k hi.toList)
 | .vh x lo hi=>x.lt k&&(ab.cK k lo.toList&&ab.cK k hi.toList)
 | .D2 _ g x y=>g.lt k&&(x.lt k&&y.lt k)
 | .As _ _ l m=>ab.cK k l&&ab.cK k m
 | .qC _ l=>ab.cK k l
 | .up _ l i x=>l.lt k&&(i.lt k&&x.lt k)
 | .nth _ l i=>ab.cK k l&&i.lt k
 | .D3 _ x=>x.lt k
 | .D4 _ _=>true
 | .D5 _ _ m x y=>m.lt k&&(x.lt k&&y.lt k)
 | .xn _ _ m x=>m.lt k&&x.lt k
 | .vi _ _ m x=>m.lt k&&x.lt k
 | .ca _ l=>ab.cK k l
 | .rS _ p _=>Nat.blt p k
section
variable {e ay:Env} {k:Nat}
theorem xu(h:bW k e ay): ∀{rs:List aU} {l:List ab},ab.cK k l=true→gC ay rs l=gC e rs l
 |[],_,_=>by simp[gC]
 |_::_,[],_=>by simp[gC]
 |r::rs,x::xs,hx=>by
  simp only[ab.cK,Bool.and_eq_true]at hx;simp only[gC,ve h hx.1,xu h hx.2]
theorem D9(h:bW k e ay){o:Option ab}(an:ab.cK k o.toList=true):mA ay o=mA e o:=by
 cases o with
 |none=>rfl
 |some x=>
  simp only[Option.toList,ab.cK,Bool.and_true]at an;simp only[mA,rP h an]
theorem SO(h:bW k e ay): ∀{rs:List aU} {l m:List ab},ab.cK k l=true→ab.cK k m=true→kJ ay rs l m=kJ e rs l m
 |[r],[x],[y],aq,hm=>by
  simp only[ab.cK,Bool.and_eq_true]at aq hm;simp only[kJ,eE h aq.1,eE h hm.1]
 |r::s::rs,x::xs,y::ys,aq,hm=>by
  simp only[ab.cK,Bool.and_eq_true]at aq hm
  have:=SO h (rs:=s::rs) aq.2 hm.2
  cases xs<;>cases ys<;>simp only[kJ,eE h aq.1,eE h hm.1,this]
 |[r],x::iM::xs,y::ys,aq,hm=>by
  simp only[ab.cK,Bool.and_eq_true]at aq hm;simp only[kJ,eE h aq.1,eE h hm.1]
 |[r],[x],y::s4::ys,aq,hm=>by
  simp only[ab.cK,Bool.and_eq_true]at aq hm;simp only[kJ,eE h aq.1,eE h hm.1]
 |[],_,_,_,_=>by simp[kJ]
 |_::_,[],_,_,_=>by simp[kJ]
 |_::_,_::_,[],_,_=>by simp[kJ]
theorem SP(h:bW k e ay){c:bK}: ∀{l:List ab},ab.cK k l=true→mB ay c l=mB e c l
 |[],_=>rfl
 |x::r,aq=>by
  simp only[ab.cK,Bool.and_eq_true]at aq;simp only[mB,ve h aq.1,SP h aq.2]
theorem SQ(h:bW k e ay){r:aU}: ∀{l:List ab} {n:Nat},ab.cK k l=true→td ay r l n=td e r l n
 |[],_,_=>rfl
 |[x],_,aq=>by
  simp only[ab.cK,Bool.and_eq_true]at aq;simp only[td,eE h aq.1]
 |x::y::l,n,aq=>by
  simp only[ab.cK,Bool.and_eq_true]at aq
  have:=SQ h (l:=y::l) (n:=n-1) (r:=r) (by simp only[ab.cK,Bool.and_eq_true];exact aq.2)
  simp only[td,eE h aq.1,this]
theorem zeM(M:List aQ)(h:bW k e ay){x:bJ}(hx:x.lt k=true):x.den M ay=x.den M e:=by
 cases x with
 |rR r x=>simp only[bJ.den,ve h (x:=x) hx]
 |f1 f x=>simp only[bJ.den,eE h (x:=x) hx]
 |f2 f x y=>
  simp only[bJ.lt,Bool.and_eq_true]at hx;simp only[bJ.den,eE h hx.1,eE h hx.2]
 |eB c x lo hi=>
  simp only[bJ.lt,Bool.and_eq_true]at hx;simp only[bJ.den,eE h hx.1,D9 h hx.2.1,D9 h hx.2.2]
 |vh x lo hi=>
  simp only[bJ.lt,Bool.and_eq_true]at hx;simp only[bJ.den,eE h hx.1,D9 h hx.2.1,D9 h hx.2.2]
 |D2 r g x y=>
  simp only[bJ.lt,Bool.and_eq_true]at hx;simp only[bJ.den,eE h hx.1,ve h hx.2.1,ve h hx.2.2]
 |As n rs l m=>
  simp only[bJ.lt,Bool.and_eq_true]at hx;simp only[bJ.den,SO h hx.1 hx.2]
 |qC c l=>simp only[bJ.den,SP h (l:=l) hx]
 |D3 c x=>simp only[bJ.den,eE h (x:=x) hx]
 |D4 r s=>rfl
 |D5 r s m x y=>
  simp only[bJ.lt,Bool.and_eq_true]at hx;simp only[bJ.den,eE h hx.1,eE h hx.2.1,ve h hx.2.2]
 |xn r s m x=>
  simp only[bJ.lt,Bool.and_eq_true]at hx;simp only[bJ.den,eE h hx.1,eE h hx.2]
 |vi r s m x=>
  simp only[bJ.lt,Bool.and_eq_true]at hx;simp only[bJ.den,eE h hx.1,eE h hx.2]
 |up c l i x=>
  simp only[bJ.lt,Bool.and_eq_true]at hx;simp only[bJ.den,eE h hx.1,rP h hx.2.1,ve h hx.2.2]
 |nth r l i=>
  simp only[bJ.lt,Bool.and_eq_true]at hx;simp only[bJ.den,SQ h hx.1,rP h hx.2]
 |ca j l=>simp only[bJ.den,xu h (l:=l) hx]
 |rS rs p i=>simp only[bJ.den,h p (e6 hx)]
end
end Go.aK
namespace Go.aK
open Go
section
variable {P:Program} {G:a7} {o:Oper} {s:aO}
theorem cP.sub{v bg:aD}(h:cP P G o s v)(ai:Sub v bg):cP P G o s bg:=fun E a w β ro ag=>by
 obtain⟨c,aa,ae⟩:=h E a w β ro ag
 exact⟨c,aa,ai _ _ _ _ _ _ ae⟩
def Ld(op:BinOp)(k bj:IntKind):Bool:=
 match op with
 | .add=>decide (k=bj)
 | .sub=>decide (k=bj)
 | .mul=>decide (k=bj)
 | .quo=>decide (k=bj)
 | .rem=>decide (k=bj)
 | .and=>decide (k=bj)
 | .or=>decide (k=bj)
 | .xor=>decide (k=bj)
 | .shl=>true
 | .shr=>true
 |_=>false
def xv:BinOp→Bool
 | .eql=>true
 | .neq=>true
 | .lss=>true
 | .leq=>true
 | .gtr=>true
 | .geq=>true
 |_=>false
theorem zeN{op:BinOp}{cv ty:TypeId}{x y:Operand}{k bj:IntKind}{a b:Int}(an:o.op= .binOp op cv x y ty)(hx:aI G s x= .av (.v (.int k a)))(ax:aI G s y= .av (.v (.int bj b)))(h:Ld op k bj=true)(hn:D0 op b):
 cP P G o s (.av (.v (.int k (bz op k a b)))):=by
 cases op<;>simp only[Ld,Bool.false_eq_true,decide_eq_true_eq]at h
 case add=>subst h;exact o1 _ cv ty x y an hx ax (by simp[j4,bz])
 case sub=>subst h;exact o1 _ cv ty x y an hx ax (by simp[j4,bz])
 case mul=>subst h;exact o1 _ cv ty x y an hx ax (by simp[j4,bz])
 case quo=>subst h;exact o1 _ cv ty x y an hx ax (by have: ¬b=0:=hn;simp[j4,bz,this])
 case rem=>subst h;exact o1 _ cv ty x y an hx ax (by have: ¬b=0:=hn;simp[j4,bz,this])
 case and=>subst h;exact xf cv ty x y an hx ax fun w=>by simp[binOp,Op.intBits,bz,aK.lz]
 case or=>subst h;exact xf cv ty x y an hx ax fun w=>by simp[binOp,Op.intBits,bz,aK.kR]
 case xor=>subst h;exact xf cv ty x y an hx ax fun w=>by simp[binOp,Op.intBits,bz,aK.jD]
 case shl=>exact o1 _ cv ty x y an hx ax (by have hn:0≤b:=hn;have: ¬b<0:=(by omega);simp[j4,bz,this])
 case shr=>exact o1 _ cv ty x y an hx ax (by have hn:0≤b:=hn;have: ¬b<0:=(by omega);simp[j4,bz,this])
theorem zeO{op:BinOp}{cv ty:TypeId}{x y:Operand}{k:IntKind}{a b:Int}(an:o.op= .binOp op cv x y ty)(hx:aI G s x= .av (.v (.int k a)))(ax:aI G s y= .av (.v (.int k b)))(h:xv op=true):
 cP P G o s (.av (.v (.bool (Ar op a b)))):=by
 cases op<;>simp only[xv,Bool.false_eq_true]at h
 all_goals exact o1 _ cv ty x y an hx ax (by simp[j4,Dl,Ar])
theorem zeP{op:BinOp}{cv ty:TypeId}{x y:Operand}{a b:ByteArray}(an:o.op= .binOp op cv x y ty)(hx:aI G s x= .av (.v (.string a)))(ax:aI G s y= .av (.v (.string b)))(h:xv op=true):
 cP P G o s (.av (.v (.bool (cM op a b)))):=by
 cases op<;>simp only[xv,Bool.false_eq_true]at h
 all_goals exact o1 _ cv ty x y an hx ax (by simp[j4,cM])
def Aw(G:a7)(s:aO)(o:Option Operand)(z:Option Int):Prop:=
 match o,z with
 |none,none=>True
 |some y,some z=>∃k,aI G s y= .av (.v (.int k z))
 |_,_=>False
theorem SR(i:bK)(ls:List (fN i)){t:TypeId}{x:Operand}{lo hi:Option Operand}{po lR:Option Int}(an:o.op= .slice t x lo hi none)(aG:j6 P t=some (bY i))(hx:aI G s x= .av (.li i ls))(aB:Aw G s lo po)(bd:Aw G s hi lR)
 (hn:iZ ls.length po lR):my P G o s (.av (.li i (iK ls po lR))):=by
 cases lo with
 |none=>
  cases po with
  |some _=>exact aB.elim
  |none=>
  cases hi with
  |none=>
   cases lR with
   |some _=>exact bd.elim
   |none=>
   have:=DW i ls (l:=0) (h:=ls.length) an aG hx (.inl ⟨rfl,rfl⟩) (.inl ⟨rfl,rfl⟩) (Nat.zero_le _) (Nat.le_refl _)
   rw[List.take_length,List.drop_zero]at this;exact this
  |some y=>
   cases lR with
   |none=>exact bd.elim
   |some h=>
   obtain⟨k,ax⟩:=bd
   have hn:0≤h∧h≤(ls.length:Int):=hn
   obtain⟨n,rfl⟩: ∃n:Nat,h=(n:Int):=⟨h.toNat,by omega⟩
   have:=DW i ls (l:=0) (h:=n) an aG hx (.inl ⟨rfl,rfl⟩) (.inr ⟨y,k,rfl,ax⟩) (Nat.zero_le _) (by omega)
   rw[List.drop_zero]at this;exact this
 |some y=>
  cases po with
  |none=>exact aB.elim
  |some a=>
  obtain⟨k,ax⟩:=aB
  cases hi with
  |none=>
   cases lR with
   |some _=>exact bd.elim
   |none=>
   have hn:0≤a∧a≤(ls.length:Int):=hn
   obtain⟨n,rfl⟩: ∃n:Nat,a=(n:Int):=⟨a.toNat,by omega⟩
   have:=DW i ls (l:=n) (h:=ls.length) an aG hx (.inr ⟨y,k,rfl,ax⟩) (.inl ⟨rfl,rfl⟩) (by omega) (Nat.le_refl _)
   rw[List.take_length]at this;exact this
  |some rX=>
   cases lR with
   |none=>exact bd.elim
   |some h=>
   obtain⟨gG,Le⟩:=bd
   have hn:0≤a∧a≤h∧h≤(ls.length:Int):=hn
   obtain⟨n,rfl⟩: ∃n:Nat,a=(n:Int):=⟨a.toNat,by omega⟩
   obtain⟨m,rfl⟩: ∃n:Nat,h=(n:Int):=⟨h.toNat,by omega⟩
   exact DW i ls (l:=n) (h:=m) an aG hx (.inr ⟨y,k,rfl,ax⟩) (.inr ⟨rX,gG,rfl,Le⟩) (by omega) (by omega)
theorem zeQ(b:ByteArray){t:TypeId}{x:Operand}{lo hi:Option Operand}{po lR:Option Int}(an:o.op= .slice t x lo hi none)(aG:P.underlying t=some .string)(hx:aI G s x= .av (.v (.string b)))(aB:Aw G s lo po)(bd:Aw G s hi lR)
 (hn:iZ b.size po lR):cP P G o s (.av (.v (.string (mU b po lR)))):=by
 cases lo with
 |none=>
  cases po with
  |some _=>exact aB.elim
  |none=>
  cases hi with
  |none=>
   cases lR with
   |some _=>exact bd.elim
   |none=>exact DB t x none none an aG hx (l:=0) (h:=b.size) (.inl ⟨rfl,rfl⟩) (.inl ⟨rfl,rfl⟩) (Nat.zero_le _) (Nat.le_refl _)
  |some y=>
   cases lR with
   |none=>exact bd.elim
   |some h=>
   obtain⟨k,ax⟩:=bd
   have hn:0≤h∧h≤(b.size:Int):=hn
   obtain⟨n,rfl⟩: ∃n:Nat,h=(n:Int):=⟨h.toNat,by omega⟩
   exact DB t x none _ an aG hx (l:=0) (h:=n) (.inl ⟨rfl,rfl⟩) (.inr ⟨y,k,rfl,ax⟩) (Nat.zero_le _) (by omega)
 |some y=>
  cases po with
  |none=>exact aB.elim
  |some a=>
  obtain⟨k,ax⟩:=aB
  cases hi with
  |none=>
   cases lR with
   |some _=>exact bd.elim
   |none=>
   have hn:0≤a∧a≤(b.size:Int):=hn
   obtain⟨n,rfl⟩: ∃n:Nat,a=(n:Int):=⟨a.toNat,by omega⟩
   exact DB t x _ none an aG hx (l:=n) (h:=b.size) (.inr ⟨y,k,rfl,ax⟩) (.inl ⟨rfl,rfl⟩) (by omega) (Nat.le_refl _)
  |some rX=>
   cases lR with
   |none=>exact bd.elim
   |some h=>
   obtain⟨gG,Le⟩:=bd
   have hn:0≤a∧a≤h∧h≤(b.size:Int):=hn
   obtain⟨n,rfl⟩: ∃n:Nat,a=(n:Int):=⟨a.toNat,by omega⟩
   obtain⟨m,rfl⟩: ∃n:Nat,h=(n:Int):=⟨h.toNat,by omega⟩
   exact DB t x _ _ an aG hx (l:=n) (h:=m) (.inr ⟨y,k,rfl,ax⟩) (.inr ⟨rX,gG,rfl,Le⟩) (by omega) (by omega)
end
def Ea(P:Program)(t:TypeId):Option aU:=
 match P.underlying t with
 |some (.int k)=>some (.int k)
 |some .bool=>some .bool
 |some .string=>some .str
 |_=>none
def pq(P:Program):Nat→Nat→List Field→Option (List aU)
 |0,_,_=>none
 |_+1,_,[]=>some []
 |d+1,k,f::fs=>
  if f.name= "_" ||f.offset != k then none
  else match m1 P f.type with
   |some gs=>match P.info? f.type with
    |some inf=>match pq P d 0 gs,pq P d (k+inf.size) fs with
     |some a,some b=>match Nat.beq a.length inf.size with
      |true=>some (a++b)
      |false=>none
     |_,_=>none
    |none=>none
   |none=>match Ea P f.type with
    |some r=>match pq P d (k+1) fs with
     |some l=>some (r::l)
     |none=>none
    |none=>none
def tk:(r:aU)→r.den→Value
 | .int k,n=>.int k n
 | .bool,b=>.bool b
 | .str,x=>.string x
 |_,_=>undef
def aU.cmp:aU→Bool
 | .int _=>true
 | .bool=>true
 | .str=>true
 |_=>false
def Ax(d:aF):Value:=tk d.r d.v
def nj:List aF→List aF→Bool
 |d::ds,c::cs=>rT d.r d.v (c.as d.r)&&nj ds cs
 |_,_=>true
theorem zeR{P:Program}{t:TypeId}{r:aU}(h:Ea P t=some r)(x y:r.den):rA P t (tk r x)=true∧m0 (tk r x) (tk r y)=some (rT r x y):=by
 unfold Ea at h
 split at h
 ·rename_i k hu;cases h;simp[tk,rA,hu,m0,rT]
 ·rename_i hu;cases h;simp[tk,rA,hu,m0,rT]
 ·rename_i hu;cases h;simp[tk,rA,hu,m0,rT]
 ·cases h
theorem SS: ∀{a c:List aF} (b d:List aF),a.length=c.length→nj (a++b) (c++d)=(nj a c&&nj b d)
 |[],[],_,_,_=>by simp[nj]
 |x::a,y::c,b,d,h=>by
  simp only[List.cons_append,nj,SS (a:=a) (c:=c) b d (by simpa using h),Bool.and_assoc]
 |[],_::_,_,_,h=>by cases h
 |_::_,[],_,_,h=>by cases h
theorem Eb{P:Program}: ∀(d k:Nat) (fs:List Field) (rs:List aU),pq P d k fs=some rs→∀(as cB:List aF),as.map aF.r=rs→cB.map aF.r=rs→qm P d k fs (as.map Ax) (cB.map Ax)=some (nj as cB)
 |0,_,_,_,h,_,_,_,_=>by cases h
 |d+1,k,[],rs,h,as,cB,aZ,ad=>by
  simp only[pq,Option.some.injEq]at h;subst h
  cases mw aZ
  cases mw ad
  rfl
 |d+1,k,f::fs,rs,h,as,cB,aZ,ad=>by
  simp only[pq]at h;simp only[qm]
  split at h
  ·cases h
  ·rename_i hc
   rw[if_neg hc]
   cases ai:m1 P f.type with
   |some gs=>
    rw[ai]at h;simp only at h⊢
    cases hi:P.info? f.type with
    |none=>rw[hi]at h;cases h
    |some inf=>
     rw[hi]at h;simp only at h⊢
     split at h
     ·rename_i u v aa ae
      split at h
      ·rename_i aq
       simp only[Option.some.injEq]at h;subst h
       have aq:=Nat.eq_of_beq_eq_true aq
       have SU:(as.take inf.size).map aF.r=u:=by rw[List.map_take,aZ,←aq,List.take_left]
       have zeS:(as.drop inf.size).map aF.r=v:=by rw[List.map_drop,aZ,←aq,List.drop_left]
       have tb:(cB.take inf.size).map aF.r=u:=by rw[List.map_take,ad,←aq,List.take_left]
       have zeT:(cB.drop inf.size).map aF.r=v:=by rw[List.map_drop,ad,←aq,List.drop_left]
       rw[←List.map_take,←List.map_take,←List.map_drop,←List.map_drop,Eb d 0 gs u aa _ _ SU tb,Eb d _ fs v ae _ _ zeS zeT];simp only[Option.some.injEq];rw[←SS _ _ (by have aa:=congrArg List.length SU;have ae:=congrArg List.length tb;simp only[List.length_map]at aa ae;omega),List.take_append_drop,List.take_append_drop]
      ·cases h
     ·cases h
   |none=>
    rw[ai]at h;simp only at h⊢
    split at h
    ·rename_i r ag
     split at h
     ·rename_i l aq
      simp only[Option.some.injEq]at h;subst h;obtain⟨a,zjS,rfl,SV,yF⟩:=lN aZ;obtain⟨b,zjT,rfl,ig,pa⟩:=lN ad;obtain⟨zjU,aT⟩:=a;obtain⟨zjV,pL⟩:=b;simp only at SV ig;subst SV;subst ig;obtain⟨g1,g2⟩:=zeR ag aT pL;simp only[List.map_cons,Ax,g1,g2,if_true,nj,cA];rw[Eb d _ fs l aq _ _ yF pa]
     ·cases h
    ·cases h
theorem Ec{P:Program}: ∀(d k:Nat) (fs:List Field) (rs:List aU),pq P d k fs=some rs→∀r∈rs,r.cmp=true
 |0,_,_,_,h,_,_=>by cases h
 |d+1,k,[],rs,h,r,ag=>by
  simp only[pq,Option.some.injEq]at h;subst h;cases ag
 |d+1,k,f::fs,rs,h,r,ag=>by
  simp only[pq]at h
  split at h
  ·cases h
  ·cases ai:m1 P f.type with
   |some gs=>
    rw[ai]at h;simp only at h
    cases hi:P.info? f.type with
    |none=>rw[hi]at h;cases h
    |some inf=>
     rw[hi]at h;simp only at h
     split at h
     ·rename_i u v aa ae
      split at h
      ·simp only[Option.some.injEq]at h
       subst h
       rcases List.mem_append.1 ag with q|q
       ·exact Ec d 0 gs u aa r q
       ·exact Ec d _ fs v ae r q
      ·cases h
     ·cases h
   |none=>
    rw[ai]at h;simp only at h
    split at h
    ·rename_i eP dW
     split at h
     ·rename_i l aq
      simp only[Option.some.injEq]at h;subst h
      rcases List.mem_cons.1 ag with rfl|q
      ·unfold Ea at dW
       split at dW<;>first|(cases dW;rfl)|cases dW
      ·exact Ec d _ fs l aq r q
     ·cases h
    ·cases h
theorem zeU{r:aU}(h:r.cmp=true)(x:r.den):fG r x= .v (tk r x):=by
 cases r<;>first|rfl|cases h
theorem Ay{G:a7}{e:Env}: ∀{rs:List aU} {l:List ab},hs rs l=true→(∀r∈rs,r.cmp=true)→hB (ab.bP G e l)=some ((fU e rs l).map Ax)
 |[],[],_,_=>rfl
 |[],_::_,h,_=>by cases h
 |_::_,[],h,_=>by cases h
 |r::rs,x::xs,h,hc=>by
  simp only[hs,Bool.and_eq_true]at h
  have aa:x.den G e= .av (fG r (x.az e r)):=xk h.1 (by have:=hc r (by simp);cases r<;>first|rfl|cases this)
  simp only[ab.bP,fU,aa,zeU (hc r (by simp)),hB,Ay h.2 fun r ag=>hc r (by simp[ag]),List.map_cons,Ax]
theorem SW{e:Env}: ∀{rs:List aU} {l m:List ab},hs rs l=true→hs rs m=true→kJ e rs l m=nj (fU e rs l) (fU e rs m)
 |[],[],[],_,_=>rfl
 |[],_::_,_,h,_=>by cases h
 |[],[],_::_,_,h=>by cases h
 |_::_,[],_,h,_=>by cases h
 |_::_,_::_,[],_,h=>by cases h
 |[r],[x],[y],_,_=>by simp[kJ,fU,nj,cA]
 |[r],x::iM::xs,_::_,h,_=>by simp[hs]at h
 |[r],[x],y::s4::ys,_,h=>by simp[hs]at h
 |r::s::rs,x::xs,y::ys,h,h'=>by
  simp only[hs,Bool.and_eq_true]at h h'
  have:=SW (e:=e) (rs:=s::rs) (l:=xs) (m:=ys) h.2 h'.2
  cases xs with
  |nil=>simp[hs]at h
  |cons iM xs=>
   cases ys with
   |nil=>simp[hs]at h'
   |cons s4 ys=>
    have au:nj (fU e (r::s::rs) (x::iM::xs)) (fU e (r::s::rs) (y::s4::ys))=(rT r (x.az e r) (y.az e r)&&nj (fU e (s::rs) (iM::xs)) (fU e (s::rs) (s4::ys))):=by
     simp only[fU,nj,cA]
    rw[au,←this];simp only[kJ]
    cases rT r (x.az e r) (y.az e r)<;>rfl
section
variable {P:Program} {G:a7} {o:Oper} {N B:Nat} {e:Env} {S:ao}
theorem SX(hf: ∀c∈S.g,c.ok e){n:Bool}{op:BinOp}(Az:op=bif n then .neq else .eql){cv ty:TypeId}{x y:Operand}(an:o.op= .binOp op cv x y ty){fs:List Field}{rs:List aU}(h:m1 P cv=some fs)(ag:pq P 64 0 fs=some rs){l m:List ab}(hx:S.aY N x= .cg l)(ax:S.aY N y= .cg m)
 (aq:hs rs l=true)(hm:hs rs m=true):cP P G o (S.den G N B e) (.av (.v (.bool (bif n then !kJ e rs l m else kJ e rs l m)))):=by
 have hc:=Ec 64 0 fs rs ag
 have fR:aI G (S.den G N B e) x= .agg (ab.bP G e l):=by rw[bH hf,hx];rfl
 have mD:aI G (S.den G N B e) y= .agg (ab.bP G e m):=by rw[bH hf,ax];rfl
 have ad:=Eb 64 0 fs rs ag _ _ (Ao G e aq).1 (Ao G e hm).1
 rw[←SW aq hm]at ad
 cases n with
 |true=>
  subst Az;exact Ro cv ty x y an h fR mD (Ay aq hc) (Ay hm hc) ad
 |false=>
  subst Az;exact Rn cv ty x y an h fR mD (Ay aq hc) (Ay hm hc) ad
end
end Go.aK
