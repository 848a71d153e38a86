/- TD, part B: expressions, needs, states, trees: what they are and what they stand for. Conditions: none. -/
import Derived.Test.YtddeffoppnlafaaGreatKTDa
namespace Go.aK
open Go
inductive cB where
 |pA
 |kd (c:bX)
 |p5 (k a8:IntKind)
 |oJ
 |Ct (k:IntKind)
 |wF (k:IntKind)
 |cE
 |dk
 deriving DecidableEq
@[reducible] def cB.a:cB→aX
 | .pA=>.str
 | .kd c=>.li c
 | .p5 k _=>.int k
 | .oJ=>.bool
 | .Ct k=>.int k
 | .wF k=>.int k
 | .cE=>.li .u8
 | .dk=>.str
@[reducible] def cB.c:cB→aX
 | .pA=>.int .i64
 | .kd _=>.int .i64
 | .p5 _ a8=>.int a8
 | .oJ=>.bool
 | .Ct k=>.int k
 | .wF k=>.int k
 | .cE=>.str
 | .dk=>.li .u8
def cB.den:(f:cB)→f.a.den→f.c.den
 | .pA,x=>(ByteArray.size x:Int)
 | .kd _,x=>(List.length x:Int)
 | .p5 _ a8,x=>a8.wrap x
 | .oJ,x=>!x
 | .Ct k,x=>k.wrap (0-x)
 | .wF k,x=>iO k (if k.signed then -1 else k.max) x
 | .cE,x=>bytesOf x
 | .dk,x=>(ByteArray.data x).toList.map fun u=>(u.toNat:Int)
def dw(op:BinOp)(k:IntKind)(a b:Int):Int:=
 match op with
 | .add=>k.wrap (a+b)
 | .sub=>k.wrap (a-b)
 | .mul=>k.wrap (a*b)
 | .quo=>k.wrap (a.tdiv b)
 | .rem=>a.tmod b
 | .shl=>k.wrap (a*2^(min b.toNat k.bits))
 | .shr=>a.fdiv (2^(min b.toNat k.bits))
 | .and=>l0 k a b
 | .or=>k6 k a b
 | .xor=>iO k a b
 |_=>0
def Gk(op:BinOp)(b:Int):Prop:=
 match op with
 | .quo=>b≠0
 | .rem=>b≠0
 | .shl=>0≤b
 | .shr=>0≤b
 |_=>True
def Cu(op:BinOp)(a b:Int):Bool:=
 match op with
 | .eql=>a==b
 | .neq=>a != b
 | .lss=>decide (a<b)
 | .leq=>decide (a≤b)
 | .gtr=>decide (a>b)
 |_=>decide (a≥b)
def iS(op:BinOp)(a b:ByteArray):Bool:=
 match op with
 | .eql=>gB a b
 | .neq=>!gB a b
 | .lss=>s4 a b
 | .leq=>s4 a b||gB a b
 | .gtr=>!(s4 a b||gB a b)
 |_=>!s4 a b
inductive fN where
 |kF (op:BinOp) (k a8:IntKind)
 |qJ (op:BinOp) (k:IntKind)
 |rX (op:BinOp)
 |pe (n:Bool)
 |uY
 |zb (k:IntKind)
 |mx (k:IntKind)
 |lz (c:bX) (k:IntKind)
 |te (k:IntKind)
 |ap (c:bX)
 |Cv
 |Cw
 |Cx
 |Cy
 |zc
 deriving DecidableEq
@[reducible] def fN.a:fN→aX
 | .kF _ k _=>.int k
 | .qJ _ k=>.int k
 | .rX _=>.str
 | .pe _=>.bool
 | .uY=>.str
 | .zb k=>.int k
 | .mx k=>.int k
 | .lz c _=>.li c
 | .te _=>.str
 | .ap c=>.li c
 | .Cv=>.str
 | .Cw=>.str
 | .Cx=>.str
 | .Cy=>.str
 | .zc=>.str
@[reducible] def fN.b:fN→aX
 | .kF _ _ a8=>.int a8
 | .qJ _ k=>.int k
 | .rX _=>.str
 | .pe _=>.bool
 | .uY=>.str
 | .zb k=>.int k
 | .mx k=>.int k
 | .lz _ k=>.int k
 | .te k=>.int k
 | .ap c=>.li c
 | .Cv=>.int .i64
 | .Cw=>.int .i64
 | .Cx=>.int .i64
 | .Cy=>.int .i64
 | .zc=>.int .u8
@[reducible] def fN.c:fN→aX
 | .kF _ k _=>.int k
 | .qJ _ _=>.bool
 | .rX _=>.bool
 | .pe _=>.bool
 | .uY=>.str
 | .zb k=>.int k
 | .mx k=>.int k
 | .lz c _=>.st c
 | .te _=>.int .u8
 | .ap c=>.li c
 | .Cv=>.bool
 | .Cw=>.int .i64
 | .Cx=>.int .i32
 | .Cy=>.int .i64
 | .zc=>.int .i64
def xR(b:ByteArray)(c:Int):Int:=
 match(List.range b.size).find? fun i=>b[i]! ==c.toNat.toUInt8 with
 |some i=>(i:Int)
 |none=> -1
def fN.den:(f:fN)→f.a.den→f.b.den→f.c.den
 | .kF op k _,x,y=>dw op k x y
 | .qJ op _,x,y=>Cu op x y
 | .rX op,x,y=>iS op x y
 | .pe n,x,y=>bif n then !(x==y)else x==y
 | .uY,x,y=>ByteArray.append x y
 | .zb _,x,y=>if y<x then y else x
 | .mx _,x,y=>if y>x then y else x
 | .lz c _,x,y=>List.getD x (Int.toNat y) (bj c)
 | .te _,x,y=>m1 x y
 | .ap _,x,y=>List.append x y
 | .Cv,x,y=>decide (Int.toNat y<ByteArray.size x)
 | .Cw,_,y=>(Int.toNat y:Int)
 | .Cx,x,y=>((Utf8.decode x (Int.toNat y)).1:Int)
 | .zc,x,y=>xR x y
 | .Cy,x,y=>((Int.toNat y+(Utf8.decode x (Int.toNat y)).2:Nat):Int)
def fN.zd(bytes:Nat):(f:fN)→f.a.den→f.b.den→Prop
 | .kF op _ _,_,y=>Gk op y
 | .uY,x,y=>ByteArray.size x+ByteArray.size y≤9223372036854775807
 | .lz _ _,x,y=>0≤y∧y<(List.length x:Int)
 | .te _,x,y=>0≤y∧y<(ByteArray.size x:Int)
 | .ap _,x,y=>List.length x+List.length y≤maxLen∧(List.length x+List.length y)*bytes≤140737488355328
 |_,_,_=>True
@[reducible] def ga:List aX→aX
 |[]=>.un
 |[r]=>r
 |r::s::l=>.Ck r (ga (s::l))
def cw:(rs:List aX)→List aL→(ga rs).den
 |[],_=>()
 |[r],d::_=>d.aI r
 |[r],[]=>r.gm
 |r::s::l,d::ds=>(d.aI r,cw (s::l) ds)
 |r::s::l,[]=>(r.gm,cw (s::l) [])
def eK:(rs:List aX)→(ga rs).den→List aL
 |[],_=>[]
 |[r],x=>[⟨r,x⟩]
 |r::s::l,x=>⟨r,x.1⟩::eK (s::l) x.2
structure bo where
 ps:List aX
 rs:List aX
 pre:Option ((ga ps).den→Prop)
 m:(ga ps).den→(ga rs).den
def bo.d:bo:=⟨[],[],none,fun x=>x⟩
def fD{α:Type _}(d:α):List α→Nat→α
 |[],_=>d
 |x::r,n=>match Nat.beq n 0 with
  |true=>x
  |false=>fD d r (Nat.sub n 1)
def hP(e:Env):List aX→List af→List aL
 |r::rs,x::xs=>⟨r,x.get e r⟩::hP e rs xs
 |_,_=>[]
inductive b1 where
 |qK (r:aX) (x:af)
 |f1 (f:cB) (x:af)
 |f2 (f:fN) (x y:af)
 |ff (c:bX) (x:af) (lo hi:Option af)
 |qL (x:af) (lo hi:Option af)
 |Gl (r:aX) (g x y:af)
 |Cz (n:Bool) (rs:List aX) (l m:List af)
 |pB (c:bX) (rows:List af)
 |up (c:bX) (l i x:af)
 |nth (r:aX) (l:List af) (i:af)
 |cQ (c:bX) (x:af)
 |Gm (k v:aX)
 |Gn (k v:aX) (m x y:af)
 |ze (k v:aX) (m x:af)
 |wW (k v:aX) (m x:af)
 |ca (j:Nat) (aI:List af)
 |tf (rs:List aX) (p i:Nat)
def pC(e:Env):Option af→Option Int
 |none=>none
 |some x=>some (cN (x.dyn e))
def TQ{α:Type}(l:List α):Option Int→Option Int→List α
 |none,none=>l
 |some a,none=>l.drop a.toNat
 |none,some h=>l.take h.toNat
 |some a,some h=>(l.take h.toNat).drop a.toNat
def wu(b:ByteArray):Option Int→Option Int→ByteArray
 |none,none=>b.extract 0 b.size
 |some a,none=>b.extract a.toNat b.size
 |none,some h=>b.extract 0 h.toNat
 |some a,some h=>b.extract a.toNat h.toNat
def sR(n:Nat):Option Int→Option Int→Prop
 |none,none=>True
 |some a,none=>0≤a∧a≤(n:Int)
 |none,some h=>0≤h∧h≤(n:Int)
 |some a,some h=>0≤a∧a≤h∧h≤(n:Int)
def th:(r:aX)→r.den→r.den→Bool
 | .int _,x,y=>(show Int from x)==y
 | .bool,x,y=>(show Bool from x)==y
 | .str,x,y=>gB x y
 |_,_,_=>false
def l2(e:Env):List aX→List af→List af→Bool
 |[r],[x],[y]=>th r (x.aN e r) (y.aN e r)
 |r::rs,x::xs,y::ys=>bif th r (x.aN e r) (y.aN e r)then l2 e rs xs ys else false
 |_,_,_=>true
def nQ(e:Env)(c:bX):List af→List (hg c)
 |[]=>[]
 |x::r=>x.get e (.st c)::nQ e c r
def uZ(e:Env)(r:aX):List af→Nat→r.den
 |[],_=>r.gm
 |[x],_=>x.aN e r
 |x::l,n=>bif Nat.beq n 0 then x.aN e r else uZ e r l (n-1)
def CA{V:Type}:(k:aX)→List (k.den × V)→k.den→Option V
 | .int _,l,x=>rU (K:=Int) l x
 | .str,l,x=>rU (K:=ByteArray) l x
 |_,_,_=>none
def Gp{V:Type}:(k:aX)→List (k.den × V)→k.den→V→List (k.den × V)
 | .int _,l,x,v=>qH (K:=Int) l x v
 | .str,l,x,v=>qH (K:=ByteArray) l x v
 |_,l,_,_=>l
def b1.den(M:List bo)(e:Env):b1→aL
 | .qK r x=>⟨r,x.get e r⟩
 | .f1 f x=>⟨f.c,f.den (x.aN e f.a)⟩
 | .f2 f x y=>⟨f.c,f.den (x.aN e f.a) (y.aN e f.b)⟩
 | .ff c x lo hi=>⟨.li c,TQ (x.aN e (.li c)) (pC e lo) (pC e hi)⟩
 | .qL x lo hi=>⟨.str,wu (x.aN e .str) (pC e lo) (pC e hi)⟩
 | .Gl r g x y=>⟨r,bif g.aN e .bool then x.get e r else y.get e r⟩
 | .Cz n rs l m=>⟨.bool,bif n then !l2 e rs l m else l2 e rs l m⟩
 | .pB c rows=>⟨.li c,nQ e c rows⟩
 | .up c l i x=>⟨.li c,List.set (l.aN e (.li c)) (cN (i.dyn e)).toNat (x.get e (.st c))⟩
 | .nth r l i=>⟨r,uZ e r l (cN (i.dyn e)).toNat⟩
 | .cQ c x=>⟨.li c,List.replicate (Int.toNat (x.aN e (.int .i64))) (bj c)⟩
 | .Gm k v=>⟨.mp k v,([]:List (k.den × v.den))⟩
 | .Gn k v m x y=>⟨.mp k v,Gp k (m.aN e (.mp k v)) (x.aN e k) (y.get e v)⟩
 | .ze k v m x=>⟨.bool,(CA k (show List (k.den × v.den)from m.aN e (.mp k v)) (x.aN e k)).isSome⟩
 | .wW k v m x=>⟨v,(CA k (show List (k.den × v.den)from m.aN e (.mp k v)) (x.aN e k)).getD v.gm⟩
 | .ca j aI=>⟨ga (fD bo.d M j).rs,(fD bo.d M j).m (cw _ (hP e (fD bo.d M j).ps aI))⟩
 | .tf rs p i=>fD aL.d (eK rs ((Env.at e p).aI (ga rs))) i
inductive gE where
 |f2 (bytes:Nat) (f:fN) (x y:af)
 |ff (c:bX) (x:af) (lo hi:Option af)
 |qL (x:af) (lo hi:Option af)
 |up (c:bX) (l i:af)
 |nth (n:Nat) (i:af)
 |mk (bytes:Nat) (x y:af)
 |ca (j:Nat) (aI:List af)
 |TR (g:af) (b:Bool) (n:gE)
def ql{α:Type}(p:Option (α→Prop))(x:α):Prop:=
 match p with
 |none=>True
 |some q=>q x
def gE.ok(M:List bo)(e:Env):gE→Prop
 | .f2 n f x y=>f.zd n (x.aN e f.a) (y.aN e f.b)
 | .ff c x lo hi=>sR (List.length (x.aN e (.li c))) (pC e lo) (pC e hi)
 | .qL x lo hi=>sR (ByteArray.size (x.aN e .str)) (pC e lo) (pC e hi)
 | .up c l i=>0≤cN (i.dyn e)∧cN (i.dyn e)<(List.length (l.aN e (.li c)):Int)
 | .nth n i=>0≤cN (i.dyn e)∧cN (i.dyn e)<(n:Int)
 | .mk n x y=>0≤x.aN e (.int .i64)∧x.aN e (.int .i64)≤y.aN e (.int .i64)∧y.aN e (.int .i64)≤(maxLen:Int)∧(n:Int)*y.aN e (.int .i64)≤281474976710656
 | .ca j aI=>ql (fD bo.d M j).pre (cw _ (hP e (fD bo.d M j).ps aI))
 | .TR g b n=>g.aN e .bool=b→n.ok M e
inductive u0 where
 |st
 |mp (k v:aX)
 deriving DecidableEq
@[reducible] def u0.rt:u0→aX
 | .st=>.int .i64
 | .mp k v=>.mp k v
def u0.den:(q:u0)→ByteArray→q.rt.den→yI
 | .st,s,p=>rm s (Int.toNat p)
 | .mp k v,_,l=>kp v.agg (ho (mC k) (jR v) l)
inductive bQ where
 |dY (t:TypeId) (l:List af)
 |rw (t:TypeId) (c:bX) (x:af)
 |it (q:u0) (x p:af)
def bQ.den(G:aR)(e:Env):bQ→ec
 | .dY t l=>.box t (af.b0 G e l)
 | .rw t c x=>.row false t (du c) (List.map (df c) (x.aN e (.li c)))
 | .it q x p=>.bI (q.den (x.aN e .str) (p.aN e q.rt))
def c6(G:aR)(e:Env):List (Nat × bQ)→Heap
 |[]=>[]
 |(i,o)::r=>(i,o.den G e)::c6 G e r
def dK:List (Nat × bQ)→Nat→Option bQ
 |[],_=>none
 |(i,o)::r,k=>match Nat.beq i k with
  |true=>some o
  |false=>dK r k
def kG:List (Nat × bQ)→Nat→bQ→List (Nat × bQ)
 |[],k,x=>[(k,x)]
 |(i,o)::r,k,x=>match Nat.beq i k with
  |true=>(i,x)::r
  |false=>(i,o)::kG r k x
inductive ck where
 |d1 (i:Nat) (f:cB) (x:af)
 |d2 (i:Nat) (f:fN) (x y:af)
 |rg (i:Nat) (b:af)
 |eL (g:af) (b:Bool)
def ck.ok(e:Env):ck→Prop
 | .d1 i f x=>Env.at e i=⟨f.c,f.den (x.aN e f.a)⟩
 | .d2 i f x y=>Env.at e i=⟨f.c,f.den (x.aN e f.a) (y.aN e f.b)⟩
 | .rg i b=>0≤cN (Env.at e i)∧cN (Env.at e i)<cN (b.dyn e)
 | .eL g b=>g.aN e .bool=b
structure ay where
 l:bd af
 h:List (Nat × bQ)
 n:Nat
 k:Nat
 g:List ck
def ay.at(S:ay)(i:Nat):af:=
 match S.l.get i with
 |some x=>x
 |none=>.top
def ke(G:aR)(e:Env)(l:bd af):Nat→Nat→List aC
 |_,0=>[]
 |i,n+1=>(match l.get i with|some x=>x.den G e|none=>.top)::ke G e l (i+1) n
def ay.den(G:aR)(N B:Nat)(e:Env)(S:ay):aQ:=⟨ke G e S.l 0 N,c6 G e S.h,S.n,B⟩
inductive fa where
 |slot (i:Nat) (p:List Nat)
 |box (id off:Nat) (p:List Nat)
 |row (id:Nat)
 |l3 (p:fa)
def af.l3:af→af
 | .eV _ _=>.cs (.bool true)
 | .cs (.pointer none)=>.cs (.bool false)
 | .fQ (.bs .bool i) _ _=>.bs .bool i
 |_=>.top
def af.sub:af→List Nat→af
 |x,[]=>x
 | .cA l,i::p=>(fD .top l i).sub p
 | .tp l,i::p=>(fD .top l i).sub p
 |_,_::_=>.top
def fa.dO(S:ay):fa→af
 | .slot i p=>(S.at i).sub p
 | .box id off p=>match dK S.h id with
  |some (.dY _ l)=>(fD .top l off).sub p
  |_=>.top
 | .row id=>match dK S.h id with
  |some (.rw _ _ x)=>x
  |some (.it _ _ p)=>p
  |_=>.top
 | .l3 p=>(p.dO S).l3
inductive cf where
 |b8
 |ext (n:Nat)
 |ret
 |mE (n:Nat)
def cf.b6(n:Nat):cf→Bool
 | .mE m=>Nat.beq m n
 |_=>false
def cf.dy(n:Nat):cf→Bool
 | .ext m=>Nat.beq m n
 |_=>false
structure iL where
 i:Nat
 r:aX
 x:af
 p:fa
inductive aH where
 |dc (x:cf) (S:ay)
 |lt (i:Nat) (x:b1) (t:aH)
 |fF (n:gE) (t:aH)
 |it (g:af) (a b:aH)
 |eo (n:Nat) (a:aH) (ps:List (Nat × aX × fa)) (k:aH)
 |e6 (m xid:Nat) (dZ:b1) (cg:Nat) (ca:List iL) (a k:aH)
 |fz (m xid:Nat) (ca:List iL) (a k:aH)
 |bad (n:Nat)
def aH.gb:aH→(cf→Bool)→Bool
 | .dc x _,f=>f x
 | .lt _ _ t,f=>t.gb f
 | .fF _ t,f=>t.gb f
 | .it _ a b,f=>a.gb f&&b.gb f
 | .eo n a _ k,f=>a.gb (fun x=>x.b6 n||f x)&&k.gb f
 | .e6 m xid _ _ _ a k,f=>a.gb (fun x=>x.b6 m||(x.dy xid||f x))&&k.gb f
 | .fz m xid _ a k,f=>a.gb (fun x=>x.b6 m||(x.dy xid||f x))&&k.gb f
 | .bad _,_=>false
def aH.kH(t:aH)(n:Nat):Bool:=t.gb (cf.b6 n)
def ti:List iL→List aX
 |[]=>[]
 |a::l=>a.r::ti l
def eu(e:Env):List iL→List aL
 |[]=>[]
 |a::l=>⟨a.r,a.x.get e a.r⟩::eu e l
def gp(S:ay)(e:Env):List iL→List aL
 |[]=>[]
 |a::l=>⟨a.r,(a.p.dO S).get e a.r⟩::gp S e l
def tj(e:Env):List iL→List aL→Env
 |a::l,d::ds=>tj (bd.put e a.i d) l ds
 |_,_=>e
abbrev b9(ca:List iL):Type:=(ga (ti ca)).den
def bw(e:Env)(ca:List iL)(v:b9 ca):Env:=tj e ca (eK (ti ca) v)
def gF(e:Env)(f:aX→fa→aL):List (Nat × aX × fa)→Env
 |[]=>e
 |(i,r,p)::l=>gF (bd.put e i (f r p)) f l
def dt:Nat:=18446744073709551616
def e2{X:Type}(m xid:Nat)(ca:List iL)(K:cf→ay→Env→X)(x:cf)(S:ay)(e:Env):Step X (b9 ca):=
 match x.b6 m with
 |true=>.bM (cw _ (gp S e ca))
 |false=>match x.dy xid with
  |true=>.c9 (cw _ (gp S e ca))
  |false=>.ret (K x S e)
def aH.fold(M:List bo):aH→{X:Type}→Env→(cf→ay→Env→X)→X→X
  | .dc x S,_,e,K,_=>K x S e
  | .lt i x t,_,e,K,d=>t.fold M (bd.put e i (x.den M e)) K d
  | .fF _ t,_,e,K,d=>t.fold M e K d
  | .it g a b,_,e,K,d=>bif g.aN e .bool then a.fold M e K d else b.fold M e K d
  | .eo n a ps k,_,e,K,d=>bif a.kH n
    then k.fold M (gF e (fun r p=>⟨r,a.fold M e (fun _ S aF=>(p.dO S).get aF r) r.gm⟩) ps) K d
    else bif a.fold M e (fun x _ _=>x.b6 n) false
      then k.fold M (gF e (fun r p=>⟨r,a.fold M e (fun x S aF=>bif x.b6 n then(p.dO S).get aF r else r.gm) r.gm⟩) ps) K d
      else a.fold M e K d
  | .e6 m xid dZ cg ca a k,X,e,K,d=>Sum.elim (fun r=>r) (fun v=>k.fold M (bw e ca v) K d) (bJ (fun i (v:b9 ca)=>bif a.kH m
        then(.bM (a.fold M (bw (bd.put e cg ⟨.int .i64,(i:Int)⟩) ca v) (fun _ S aF=>cw _ (gp S aF ca)) v):Step X (b9 ca))
        else a.fold M (bw (bd.put e cg ⟨.int .i64,(i:Int)⟩) ca v) (e2 m xid ca K) (.c9 v)) 0 (cN (dZ.den M e)).toNat (cw _ (eu e ca)))
  | .fz m xid ca a k,X,e,K,d=>Sum.elim (fun r=>r) (fun v=>k.fold M (bw e ca v) K d) (dA (fun v=>(a.fold M (bw e ca v) (e2 m xid ca K) (.c9 v):Step X (b9 ca))) dt (cw _ (eu e ca)))
  | .bad _,_,_,_,d=>d
def aH.safe(M:List bo):aH→Env→Prop
  | .dc _ _,_=>True
  | .lt i x t,e=>t.safe M (bd.put e i (x.den M e))
  | .fF n t,e=>n.ok M e∧t.safe M e
  | .it g a b,e=>(g.aN e .bool=true→a.safe M e)∧(g.aN e .bool=false→b.safe M e)
  | .eo n a ps k,e=>a.safe M e∧(a.fold M e (fun x _ _=>x.b6 n) false=true→k.safe M (gF e (fun r p=>⟨r,bif a.kH n
      then a.fold M e (fun _ S aF=>(p.dO S).get aF r) r.gm
      else a.fold M e (fun x S aF=>bif x.b6 n then(p.dO S).get aF r else r.gm) r.gm⟩) ps))
  | .e6 m xid dZ cg ca a k,e=>(∃I:Nat→b9 ca→Prop,I 0 (cw _ (eu e ca))∧∀(i:Nat) (v:b9 ca),i<(cN (dZ.den M e)).toNat→I i v→
      a.safe M (bw (bd.put e cg ⟨.int .i64,(i:Int)⟩) ca v)∧∀bu,a.fold M (bw (bd.put e cg ⟨.int .i64,(i:Int)⟩) ca v) (e2 m xid ca fun _ _ _=>()) (.c9 v)= .bM bu→I (i+1) bu)∧
      Sum.elim (fun _=>True) (fun v=>k.safe M (bw e ca v)) (bJ (fun i (v:b9 ca)=>a.fold M (bw (bd.put e cg ⟨.int .i64,(i:Int)⟩) ca v) (e2 m xid ca fun _ _ _=>()) (.c9 v)) 0 (cN (dZ.den M e)).toNat (cw _ (eu e ca)))
  | .fz m xid ca a k,e=>(∃I:b9 ca→Prop,I (cw _ (eu e ca))∧∀(v:b9 ca),I v→
      a.safe M (bw e ca v)∧∀bu,a.fold M (bw e ca v) (e2 m xid ca fun _ _ _=>()) (.c9 v)= .bM bu→I bu)∧
      lx (fun v=>(a.fold M (bw e ca v) (e2 m xid ca fun _ _ _=>()) (.c9 v):Step Unit (b9 ca))) dt (cw _ (eu e ca))∧
      Sum.elim (fun _=>True) (fun v=>k.safe M (bw e ca v)) (dA (fun v=>(a.fold M (bw e ca v) (e2 m xid ca fun _ _ _=>()) (.c9 v):Step Unit (b9 ca))) dt (cw _ (eu e ca)))
  | .bad _,_=>False
def aH.clean:aH→Bool
 | .dc _ _=>true
 | .lt _ _ t=>t.clean
 | .fF _ _=>false
 | .it _ a b=>a.clean&&b.clean
 | .eo _ a _ k=>a.clean&&k.clean
 | .e6 _ _ _ _ _ a k=>a.clean&&k.clean
 | .fz _ _ _ _ _=>false
 | .bad _=>false
theorem tk(M:List bo): ∀{t:aH} {e:Env},t.clean=true→t.safe M e
 | .dc _ _,_,_=>trivial
 | .lt _ _ t,_,h=>tk M (t:=t) h
 | .fF _ _,_,h=>by cases h
 | .it _ a b,_,h=>by
  simp only[aH.clean,Bool.and_eq_true]at h;exact⟨fun _=>tk M h.1,fun _=>tk M h.2⟩
 | .eo _ a _ k,_,h=>by
  simp only[aH.clean,Bool.and_eq_true]at h;exact⟨tk M h.1,fun _=>tk M h.2⟩
 | .e6 _ _ _ _ _ a k,_,h=>by
  simp only[aH.clean,Bool.and_eq_true]at h;refine⟨⟨fun _ _=>True,trivial,fun _ _ _ _=>⟨tk M h.1,fun _ _=>trivial⟩⟩,?_⟩
  generalize bJ _ _ _ _=L
  cases L with
  |inl r=>trivial
  |inr v=>exact tk M h.2
 | .fz _ _ _ _ _,_,h=>by cases h
 | .bad _,_,h=>by cases h
end Go.aK
namespace Go.aK
open Go
def jA{R A X:Type}(f:R→X):Step R A→Step X A
 | .ret r=>.ret (f r)
 | .c9 a=>.c9 a
 | .bM a=>.bM a
theorem wX{R A X:Type}(f:R→X){b:Nat→A→Step R A}{c:Nat→A→Step X A}(h: ∀i a,c i a=jA f (b i a)): ∀(m k:Nat) (a:A),bJ c k m a=Sum.map f id (bJ b k m a)
 |0,_,_=>rfl
 |m+1,k,a=>by
  simp only[bJ,h]
  cases b k a with
  |ret r=>rfl
  |c9 a=>rfl
  |bM a=>exact wX f h m (k+1) a
theorem zf{R A X:Type}(f:R→X){b:A→Step R A}{c:A→Step X A}(h: ∀a,c a=jA f (b a)): ∀(m:Nat) (a:A),dA c m a=Sum.map f id (dA b m a)
 |0,_=>rfl
 |m+1,a=>by
  simp only[dA,h]
  cases b a with
  |ret r=>rfl
  |c9 a=>rfl
  |bM a=>exact zf f h m a
theorem Mq{R A X:Type}(f:R→X){b:A→Step R A}{c:A→Step X A}(h: ∀a,c a=jA f (b a)): ∀(m:Nat) (a:A),lx c m a↔lx b m a
 |0,_=>Iff.rfl
 |m+1,a=>by
  simp only[lx,h]
  cases b a with
  |ret r=>exact Iff.rfl
  |c9 a=>exact Iff.rfl
  |bM a=>exact Mq f h m a
theorem zg{X Y:Type}(g:X→Y)(m xid:Nat)(ca:List iL)(K:cf→ay→Env→X)(x:cf)(S:ay)(e:Env):jA g (e2 m xid ca K x S e)=e2 m xid ca (fun x S e=>g (K x S e)) x S e:=by
 unfold e2
 split
 ·rfl
 ·split<;>rfl
section
variable {X:Type} {m xid:Nat} {ca:List iL} {K:cf→ay→Env→X} {x:cf} {S:ay} {e:Env}
theorem pD(h:x.b6 m=true):e2 m xid ca K x S e= .bM (cw _ (gp S e ca)):=by unfold e2;rw[h]
theorem pE(h:x.b6 m=false)(h':x.dy xid=true):e2 m xid ca K x S e= .c9 (cw _ (gp S e ca)):=by unfold e2;rw[h,h']
theorem lA(h:x.b6 m=false)(h':x.dy xid=false):e2 m xid ca K x S e= .ret (K x S e):=by unfold e2;rw[h,h']
end
section
variable {M:List bo}
theorem fold_map: ∀(t:aH) {X Y:Type} (g:X→Y) (e:Env) (K:cf→ay→Env→X) (d:X),g (t.fold M e K d)=t.fold M e (fun x S aF=>g (K x S aF)) (g d)
  | .dc _ _,_,_,_,_,_,_=>rfl
  | .lt _ _ t,_,_,g,_,K,d=>fold_map t g _ K d
  | .fF _ t,_,_,g,_,K,d=>fold_map t g _ K d
  | .it c a b,_,_,g,e,K,d=>by
    simp only[aH.fold]
    cases c.aN e .bool with
    |true=>exact fold_map a g e K d
    |false=>exact fold_map b g e K d
  | .eo n a ps k,_,_,g,e,K,d=>by
    simp only[aH.fold]
    cases a.kH n with
    |true=>exact fold_map k g _ K d
    |false=>cases a.fold M e (fun x _ _=>x.b6 n) false with
      |true=>exact fold_map k g _ K d
      |false=>exact fold_map a g e K d
  | .e6 m xid dZ cg ca a k,X,Y,g,e,K,d=>by
    simp only[aH.fold]
    rw[wX g (c:=fun i (v:b9 ca)=>bif a.kH m
        then(.bM (a.fold M (bw (bd.put e cg ⟨.int .i64,(i:Int)⟩) ca v) (fun _ S aF=>cw _ (gp S aF ca)) v):Step Y (b9 ca))
        else a.fold M (bw (bd.put e cg ⟨.int .i64,(i:Int)⟩) ca v) (e2 m xid ca fun x S e=>g (K x S e)) (.c9 v))
      (b:=fun i (v:b9 ca)=>bif a.kH m
        then(.bM (a.fold M (bw (bd.put e cg ⟨.int .i64,(i:Int)⟩) ca v) (fun _ S aF=>cw _ (gp S aF ca)) v):Step X (b9 ca))
        else a.fold M (bw (bd.put e cg ⟨.int .i64,(i:Int)⟩) ca v) (e2 m xid ca K) (.c9 v))
      (fun i v=>by
        cases a.kH m with
        |true=>rfl
        |false=>
          simp only[cond_false];rw[fold_map a (jA g)];simp only[zg]
          rfl)]
    generalize bJ _ _ _ _=L
    cases L with
    |inl r=>rfl
    |inr v=>exact fold_map k g _ K d
  | .fz m xid ca a k,X,Y,g,e,K,d=>by
    simp only[aH.fold]
    rw[zf g (c:=fun(v:b9 ca)=>a.fold M (bw e ca v) (e2 m xid ca fun x S e=>g (K x S e)) (.c9 v))
      (b:=fun(v:b9 ca)=>a.fold M (bw e ca v) (e2 m xid ca K) (.c9 v))
      (fun v=>by
        rw[fold_map a (jA g)];simp only[zg]
        rfl)]
    generalize dA _ _ _=L
    cases L with
    |inl r=>rfl
    |inr v=>exact fold_map k g _ K d
  | .bad _,_,_,_,_,_,_=>rfl
abbrev oK:=cf × ay × Env
def run(M:List bo)(t:aH)(e:Env):Option oK:=t.fold M e (fun x S aF=>some (x,S,aF)) none
theorem lB{t:aH}{e aF:Env}{x:cf}{S:ay}(h:run M t e=some (x,S,aF)){X:Type}(K:cf→ay→Env→X)(d:X):t.fold M e K d=K x S aF:=by
 have:=fold_map (M:=M) t (fun(o:Option oK)=>match o with|some (x,S,aF)=>K x S aF|none=>d) e (fun x S aF=>some (x,S,aF)) none
 simp only at this
 rw[←this]
 unfold run at h
 rw[h]
theorem CB{t:aH}{e:Env}(h:run M t e=none){X:Type}(K:cf→ay→Env→X)(d:X):t.fold M e K d=d:=by
 have:=fold_map (M:=M) t (fun(o:Option oK)=>match o with|some (x,S,aF)=>K x S aF|none=>d) e (fun x S aF=>some (x,S,aF)) none
 simp only at this
 rw[←this]
 unfold run at h
 rw[h]
def dD(M:List bo)(m xid:Nat)(ca:List iL)(a:aH)(e:Env)(v:b9 ca):Step (Option oK) (b9 ca):=
 match run M a e with
 |some (x,S,aF)=>e2 m xid ca (fun x S e=>some (x,S,e)) x S aF
 |none=>.c9 v
theorem zh(m xid:Nat)(ca:List iL)(a:aH)(e:Env)(v:b9 ca):a.fold M e (e2 m xid ca fun x S e=>some (x,S,e)) (.c9 v)=dD M m xid ca a e v:=by
 unfold dD
 split
 ·rename_i x S aF h
  exact lB h _ _
 ·rename_i h
  exact CB h _ _
theorem TS{m xid cg:Nat}{dZ:b1}{ca:List iL}{a k:aH}{e:Env}{X:Type}(K:cf→ay→Env→X)(d:X)(h:a.kH m=true→∀e,∃x S aF,run M a e=some (x,S,aF)∧x.b6 m=true):
 (aH.e6 m xid dZ cg ca a k).fold M e K d=Sum.elim (fun r=>r) (fun v=>k.fold M (bw e ca v) K d) (bJ (fun i (v:b9 ca)=>a.fold M (bw (bd.put e cg ⟨.int .i64,(i:Int)⟩) ca v) (e2 m xid ca K) (.c9 v)) 0 (cN (dZ.den M e)).toNat (cw _ (eu e ca))):=by
 simp only[aH.fold]
 cases aj:a.kH m with
 |false=>rfl
 |true=>
  have:(fun(i:Nat) (v:b9 ca)=>(.bM (a.fold M (bw (bd.put e cg ⟨.int .i64,(i:Int)⟩) ca v) (fun _ S aF=>cw _ (gp S aF ca)) v):Step X (b9 ca)))=fun(i:Nat) (v:b9 ca)=>a.fold M (bw (bd.put e cg ⟨.int .i64,(i:Int)⟩) ca v) (e2 m xid ca K) (.c9 v):=by
   funext i v
   obtain⟨x,S,aF,ab,ae⟩:=h aj (bw (bd.put e cg ⟨.int .i64,(i:Int)⟩) ca v);simp only[lB ab,e2,ae]
  simp only[cond_true];rw[this]
theorem k8: ∀{t:aH} {f:cf→Bool} {e:Env},t.gb f=true→∃x S aF,run M t e=some (x,S,aF)∧f x=true
 | .dc x S,_,e,h=>⟨x,S,e,rfl,h⟩
 | .lt _ _ t,_,_,h=>k8 (t:=t) h
 | .fF _ t,_,_,h=>k8 (t:=t) h
 | .it c a b,f,e,h=>by
  simp only[aH.gb,Bool.and_eq_true]at h;simp only[run,aH.fold]
  cases c.aN e .bool with
  |true=>exact k8 (t:=a) h.1
  |false=>exact k8 (t:=b) h.2
 | .eo n a ps k,f,e,h=>by
  simp only[aH.gb,Bool.and_eq_true]at h;obtain⟨x,S,aF,ab,ae⟩:=k8 (t:=a) (e:=e) h.1;simp only[run,aH.fold]
  cases a.kH n with
  |true=>exact k8 (t:=k) h.2
  |false=>
   rw[lB ab]
   cases hx:x.b6 n with
   |true=>exact k8 (t:=k) h.2
   |false=>
    rw[hx,Bool.false_or]at ae;exact⟨x,S,aF,ab,ae⟩
 | .e6 m xid dZ cg ca a k,f,e,h=>by
  simp only[aH.gb,Bool.and_eq_true]at h
  have key: ∀(n i:Nat) (v:b9 ca),(∃bu,bJ (fun i (v:b9 ca)=>a.fold M (bw (bd.put e cg ⟨.int .i64,(i:Int)⟩) ca v) (e2 m xid ca fun x S e=>some (x,S,e)) (.c9 v)) i n v= .inr bu)∨
   ∃x S aF,bJ (fun i (v:b9 ca)=>a.fold M (bw (bd.put e cg ⟨.int .i64,(i:Int)⟩) ca v) (e2 m xid ca fun x S e=>some (x,S,e)) (.c9 v)) i n v= .inl (some (x,S,aF))∧f x=true:=by
   intro n
   induction n with
   |zero=>exact fun i v=>.inl ⟨v,rfl⟩
   |succ n aY=>
    intro i v;obtain⟨x,S,aF,ab,ae⟩:=k8 (t:=a) (e:=bw (bd.put e cg ⟨.int .i64,(i:Int)⟩) ca v) h.1;simp only[bJ,lB ab]
    cases hx:x.b6 m with
    |true=>
     rw[pD hx];exact aY (i+1) _
    |false=>
     cases aA:x.dy xid with
     |true=>
      rw[pE hx aA];exact .inl ⟨_,rfl⟩
     |false=>
      rw[lA hx aA];rw[hx,aA,Bool.false_or,Bool.false_or]at ae;exact .inr ⟨x,S,aF,rfl,ae⟩
  unfold run;rw[TS _ _ fun aj e=>k8 (t:=a) (e:=e) aj]
  rcases key (cN (dZ.den M e)).toNat 0 (cw _ (eu e ca))with⟨bu,az⟩|⟨x,S,aF,az,hf⟩
  ·rw[az];exact k8 (t:=k) h.2
  ·rw[az];exact⟨x,S,aF,rfl,hf⟩
 | .fz m xid ca a k,f,e,h=>by
  simp only[aH.gb,Bool.and_eq_true]at h
  have key: ∀(n:Nat) (v:b9 ca),(∃bu,dA (fun(v:b9 ca)=>(a.fold M (bw e ca v) (e2 m xid ca fun x S e=>some (x,S,e)) (.c9 v):Step (Option oK) (b9 ca))) n v= .inr bu)∨
   ∃x S aF,dA (fun(v:b9 ca)=>(a.fold M (bw e ca v) (e2 m xid ca fun x S e=>some (x,S,e)) (.c9 v):Step (Option oK) (b9 ca))) n v= .inl (some (x,S,aF))∧f x=true:=by
   intro n
   induction n with
   |zero=>exact fun v=>.inl ⟨v,rfl⟩
   |succ n aY=>
    intro v;simp only[dA];obtain⟨x,S,aF,ab,ae⟩:=k8 (t:=a) (e:=bw e ca v) h.1;rw[lB ab]
    cases hx:x.b6 m with
    |true=>
     rw[pD hx];exact aY _
    |false=>
     cases aA:x.dy xid with
     |true=>
      rw[pE hx aA];exact .inl ⟨_,rfl⟩
     |false=>
      rw[lA hx aA];rw[hx,aA,Bool.false_or,Bool.false_or]at ae;exact .inr ⟨x,S,aF,rfl,ae⟩
  simp only[run,aH.fold]
  rcases key dt (cw _ (eu e ca))with⟨bu,az⟩|⟨x,S,aF,az,hf⟩
  ·rw[az];exact k8 (t:=k) h.2
  ·rw[az];exact⟨x,S,aF,rfl,hf⟩
 | .bad _,_,_,h=>by cases h
theorem rY{n:Nat}{a k:aH}{ps:List (Nat × aX × fa)}{e aD:Env}{x:cf}{aO:ay}(h:run M a e=some (x,aO,aD))(hx:x.b6 n=true){X:Type}(K:cf→ay→Env→X)(d:X):
 (aH.eo n a ps k).fold M e K d=k.fold M (gF e (fun r p=>⟨r,(p.dO aO).get aD r⟩) ps) K d:=by
 simp only[aH.fold]
 cases a.kH n with
 |true=>simp only[lB h,cond_true]
 |false=>simp only[lB h,hx,cond_true,cond_false]
theorem oL{n:Nat}{a k:aH}{ps:List (Nat × aX × fa)}{e aD:Env}{x:cf}{aO:ay}(h:run M a e=some (x,aO,aD))(hx:x.b6 n=false){X:Type}(K:cf→ay→Env→X)(d:X):
 (aH.eo n a ps k).fold M e K d=K x aO aD:=by
 simp only[aH.fold]
 cases aj:a.kH n with
 |true=>
  obtain⟨ly,bP,aF,ab,ae⟩:=k8 (M:=M) (t:=a) (e:=e) aj;rw[ab]at h;cases h;rw[hx]at ae;cases ae
 |false=>simp only[lB h,hx,cond_false]
theorem u1{n:Nat}{a k:aH}{ps:List (Nat × aX × fa)}{e:Env}(h:run M a e=none){X:Type}(K:cf→ay→Env→X)(d:X):
 (aH.eo n a ps k).fold M e K d=d:=by
 simp only[aH.fold]
 cases aj:a.kH n with
 |true=>
  obtain⟨ly,bP,aF,ab,ae⟩:=k8 (M:=M) (t:=a) (e:=e) aj;rw[ab]at h;cases h
 |false=>simp only[CB h,cond_false]
theorem TT{n:Nat}{a k:aH}{ps:List (Nat × aX × fa)}{e aD:Env}{x:cf}{aO:ay}(ao:(aH.eo n a ps k).safe M e)(h:run M a e=some (x,aO,aD))(hx:x.b6 n=true):
 k.safe M (gF e (fun r p=>⟨r,(p.dO aO).get aD r⟩) ps):=by
 have ab:=ao.2 (by rw[lB h];exact hx)
 have ae:(fun(r:aX) (p:fa)=>(⟨r,bif a.kH n
  then a.fold M e (fun _ S aF=>(p.dO S).get aF r) r.gm
  else a.fold M e (fun x S aF=>bif x.b6 n then(p.dO S).get aF r else r.gm) r.gm⟩:aL))=fun r p=>⟨r,(p.dO aO).get aD r⟩:=by
  funext r p
  simp only[lB h,hx]
  cases a.kH n<;>rfl
 rw[ae]at ab
 exact ab
theorem zi{m xid cg:Nat}{dZ:b1}{ca:List iL}{a k:aH}{e:Env}{X:Type}(K:cf→ay→Env→X)(d:X):
 (aH.e6 m xid dZ cg ca a k).fold M e K d=Sum.elim (fun r=>r) (fun v=>k.fold M (bw e ca v) K d) (bJ (fun i (v:b9 ca)=>a.fold M (bw (bd.put e cg ⟨.int .i64,(i:Int)⟩) ca v) (e2 m xid ca K) (.c9 v)) 0 (cN (dZ.den M e)).toNat (cw _ (eu e ca))):=TS K d fun aj _=>k8 aj
end
end Go.aK
namespace Go.aK
open Go
def aH.rel:aH→(cf→cf)→aH
 | .dc x S,f=>.dc (f x) S
 | .lt i x t,f=>.lt i x (t.rel f)
 | .fF n t,f=>.fF n (t.rel f)
 | .it c a b,f=>.it c (a.rel f) (b.rel f)
 | .eo n a ps k,f=>.eo n (a.rel fun x=>bif x.b6 n then x else f x) ps (k.rel f)
 | .e6 m xid dZ cg ca a k,f=>.e6 m xid dZ cg ca (a.rel fun x=>bif x.b6 m||x.dy xid then x else f x) (k.rel f)
 | .fz m xid ca a k,f=>.fz m xid ca (a.rel fun x=>bif x.b6 m||x.dy xid then x else f x) (k.rel f)
 | .bad n,_=>.bad n
def aH.jS:aH→(cf→cf)→Prop
 | .dc _ _,_=>True
 | .lt _ _ t,f=>t.jS f
 | .fF _ t,f=>t.jS f
 | .it _ a b,f=>a.jS f∧b.jS f
 | .eo n a _ k,f=>(∀x,x.b6 n=false→(f x).b6 n=false)∧(a.jS fun x=>bif x.b6 n then x else f x)∧k.jS f
 | .e6 m xid _ _ _ a k,f=>(∀x,x.b6 m=false→x.dy xid=false→(f x).b6 m=false∧(f x).dy xid=false)∧(a.jS fun x=>bif x.b6 m||x.dy xid then x else f x)∧k.jS f
 | .fz m xid _ a k,f=>(∀x,x.b6 m=false→x.dy xid=false→(f x).b6 m=false∧(f x).dy xid=false)∧(a.jS fun x=>bif x.b6 m||x.dy xid then x else f x)∧k.jS f
 | .bad _,_=>True
section
variable {M:List bo}
theorem Gq{X:Type}{m xid:Nat}{ca:List iL}{K:cf→ay→Env→X}{f:cf→cf}(h: ∀x,x.b6 m=false→x.dy xid=false→(f x).b6 m=false∧(f x).dy xid=false)(x:cf)(S:ay)(e:Env):
 e2 m xid ca K (bif x.b6 m||x.dy xid then x else f x) S e=e2 m xid ca (fun x S e=>K (f x) S e) x S e:=by
 cases hx:x.b6 m with
 |true=>rw[Bool.true_or,cond_true,pD hx,pD hx]
 |false=>
  cases aA:x.dy xid with
  |true=>rw[Bool.false_or,cond_true,pE hx aA,pE hx aA]
  |false=>
   obtain⟨ab,ae⟩:=h x hx aA;rw[Bool.false_or,cond_false,lA hx aA,lA ab ae]
theorem Mr: ∀{t:aH} {f g:cf→Bool},(∀x,f x=g x)→t.gb f=t.gb g:=fun {t f g} h=>by
 have:f=g:=funext h
 rw[this]
theorem qM: ∀{t:aH} {f:cf→cf} {g:cf→Bool},t.jS f→(t.rel f).gb g=t.gb fun x=>g (f x)
 | .dc _ _,_,_,_=>rfl
 | .lt _ _ t,_,_,h=>qM (t:=t) h
 | .fF _ t,_,_,h=>qM (t:=t) h
 | .it _ a b,f,g,h=>by simp only[aH.rel,aH.gb,qM (t:=a) h.1,qM (t:=b) h.2]
 | .eo n a ps k,f,g,h=>by
  simp only[aH.rel,aH.gb,qM (t:=a) h.2.1,qM (t:=k) h.2.2]
  congr 1
  refine Mr fun x=>?_
  cases hx:x.b6 n with
  |true=>simp[hx]
  |false=>simp[h.1 x hx]
 | .e6 m xid dZ cg ca a k,f,g,h=>by
  simp only[aH.rel,aH.gb,qM (t:=a) h.2.1,qM (t:=k) h.2.2]
  congr 1
  refine Mr fun x=>?_
  cases hx:x.b6 m with
  |true=>simp[hx]
  |false=>
   cases aA:x.dy xid with
   |true=>simp[aA]
   |false=>simp[(h.1 x hx aA).1,(h.1 x hx aA).2]
 | .fz m xid ca a k,f,g,h=>by
  simp only[aH.rel,aH.gb,qM (t:=a) h.2.1,qM (t:=k) h.2.2]
  congr 1
  refine Mr fun x=>?_
  cases hx:x.b6 m with
  |true=>simp[hx]
  |false=>
   cases aA:x.dy xid with
   |true=>simp[aA]
   |false=>simp[(h.1 x hx aA).1,(h.1 x hx aA).2]
 | .bad _,_,_,_=>rfl
theorem nR: ∀{t:aH} {f:cf→cf},t.jS f→∀{X:Type} (e:Env) (K:cf→ay→Env→X) (d:X),(t.rel f).fold M e K d=t.fold M e (fun x S aF=>K (f x) S aF) d
 | .dc _ _,_,_,_,_,_,_=>rfl
 | .lt _ _ t,_,h,_,_,K,d=>nR (t:=t) h _ K d
 | .fF _ t,_,h,_,_,K,d=>nR (t:=t) h _ K d
 | .it c a b,f,h,_,e,K,d=>by
  simp only[aH.rel,aH.fold,nR (t:=a) h.1,nR (t:=b) h.2]
 | .eo n a ps k,f,h,_,e,K,d=>by
  have ah:run M (a.rel fun x=>bif x.b6 n then x else f x) e=(run M a e).map fun l=>(bif l.1.b6 n then l.1 else f l.1,l.2):=by
   unfold run;rw[nR (t:=a) h.2.1];rw[fold_map a (fun o:Option oK=>o.map fun l=>(bif l.1.b6 n then l.1 else f l.1,l.2))]
   rfl
  show(aH.eo n (a.rel fun x=>bif x.b6 n then x else f x) ps (k.rel f)).fold M e K d=_
  cases cy:run M a e with
  |none=>rw[u1 (by rw[ah,cy];rfl),u1 cy]
  |some l=>
   obtain⟨x,aO,aD⟩:=l
   have ab:run M (a.rel fun x=>bif x.b6 n then x else f x) e=some (bif x.b6 n then x else f x,aO,aD):=by rw[ah,cy];rfl
   cases hx:x.b6 n with
   |true=>
    rw[hx,cond_true]at ab;rw[rY ab hx,rY cy hx];exact nR (t:=k) h.2.2 _ K d
   |false=>
    rw[hx,cond_false]at ab;rw[oL ab (h.1 x hx),oL cy hx]
 | .e6 m xid dZ cg ca a k,f,h,X,e,K,d=>by
  show(aH.e6 m xid dZ cg ca (a.rel fun x=>bif x.b6 m||x.dy xid then x else f x) (k.rel f)).fold M e K d=_
  rw[zi,zi]
  have:(fun(i:Nat) (v:b9 ca)=>(a.rel fun x=>bif x.b6 m||x.dy xid then x else f x).fold M (bw (bd.put e cg ⟨.int .i64,(i:Int)⟩) ca v) (e2 m xid ca K) (.c9 v))=fun(i:Nat) (v:b9 ca)=>a.fold M (bw (bd.put e cg ⟨.int .i64,(i:Int)⟩) ca v) (e2 m xid ca fun x S aF=>K (f x) S aF) (.c9 v):=by
   funext i v
   rw[nR (t:=a) h.2.1];simp only[Gq h.1]
  rw[this];generalize bJ _ _ _ _=L
  cases L with
  |inl r=>rfl
  |inr v=>exact nR (t:=k) h.2.2 _ K d
 | .fz m xid ca a k,f,h,X,e,K,d=>by
  simp only[aH.rel,aH.fold]
  have:(fun(v:b9 ca)=>(a.rel fun x=>bif x.b6 m||x.dy xid then x else f x).fold M (bw e ca v) (e2 m xid ca K) (.c9 v))=fun(v:b9 ca)=>a.fold M (bw e ca v) (e2 m xid ca fun x S aF=>K (f x) S aF) (.c9 v):=by
   funext v
   rw[nR (t:=a) h.2.1];simp only[Gq h.1]
  rw[this];generalize dA _ _ _=L
  cases L with
  |inl r=>rfl
  |inr v=>exact nR (t:=k) h.2.2 _ K d
 | .bad _,_,_,_,_,_,_=>rfl
theorem CC{t:aH}{f:cf→cf}(h:t.jS f)(e:Env):run M (t.rel f) e=(run M t e).map fun l=>(f l.1,l.2):=by
 unfold run
 rw[nR h,fold_map t (fun o:Option oK=>o.map fun l=>(f l.1,l.2))]
 rfl
theorem na: ∀{t:aH} {f:cf→cf},t.jS f→∀{e:Env},(t.rel f).safe M e↔t.safe M e
 | .dc _ _,_,_,_=>Iff.rfl
 | .lt _ _ t,_,h,_=>na (t:=t) h
 | .fF _ t,_,h,_=>by simp only[aH.rel,aH.safe,na (t:=t) h]
 | .it c a b,f,h,e=>by simp only[aH.rel,aH.safe,na (t:=a) h.1,na (t:=b) h.2]
 | .eo n a ps k,f,h,e=>by
  have aj: ∀x,(bif cf.b6 n x then x else f x).b6 n=x.b6 n:=fun x=>by
   cases hx:x.b6 n with
   |true=>exact hx
   |false=>exact h.1 x hx
  simp only[aH.rel,aH.safe,na (t:=a) h.2.1,na (t:=k) h.2.2,aH.kH,qM h.2.1,nR h.2.1,aj]
 | .e6 m xid dZ cg ca a k,f,h,e=>by
  simp only[aH.rel,aH.safe,na (t:=a) h.2.1,na (t:=k) h.2.2,nR h.2.1,Gq h.1]
 | .fz m xid ca a k,f,h,e=>by
  simp only[aH.rel,aH.safe,na (t:=a) h.2.1,na (t:=k) h.2.2,nR h.2.1,Gq h.1]
 | .bad _,_,_,_=>Iff.rfl
end
def aH.lvl:aH→Nat
 | .lt _ _ t=>t.lvl
 | .fF _ t=>t.lvl
 | .it _ a b=>Nat.max a.lvl b.lvl
 | .eo n a _ k=>Nat.max n (Nat.max a.lvl k.lvl)
 | .e6 m _ _ _ _ a k=>Nat.max m (Nat.max a.lvl k.lvl)
 | .fz m _ _ a k=>Nat.max m (Nat.max a.lvl k.lvl)
 |_=>0
def gx(n:Nat):cf→cf
 | .b8=>.mE n
 |x=>x
def qN(i:Nat):cf→cf
 | .ext m=>match Nat.beq m i with
  |true=>.b8
  |false=>.ext m
 |x=>x
theorem zd9(i n:Nat)(x:cf)(h:x.b6 n=false):(qN i x).b6 n=false:=by
 unfold qN
 split
 ·split
  ·rfl
  ·exact h
 ·exact h
theorem zea(i n:Nat)(x:cf)(h:x.dy n=false):(qN i x).dy n=false:=by
 unfold qN
 split
 ·split
  ·rfl
  ·exact h
 ·exact h
theorem zeb(i n:Nat)(hn:i≠n)(x:cf)(h:x.b6 n=false):(gx i x).b6 n=false:=by
 unfold gx
 split
 ·show Nat.beq i n=false
  rw[rW];exact decide_eq_false hn
 ·exact h
theorem zec(i n:Nat)(x:cf)(h:x.dy n=false):(gx i x).dy n=false:=by
 unfold gx
 split
 ·rfl
 ·exact h
theorem oM: ∀{t:aH} {f:cf→cf} (N:Nat),t.lvl<N→(∀n,n<N→∀x,x.b6 n=false→(f x).b6 n=false)→(∀n x,x.dy n=false→(f x).dy n=false)→t.jS f
 | .dc _ _,_,_,_,_,_=>trivial
 | .lt _ _ t,_,N,av,ab,ae=>oM (t:=t) N av ab ae
 | .fF _ t,_,N,av,ab,ae=>oM (t:=t) N av ab ae
 | .it _ a b,f,N,av,ab,ae=>by
  have av:Nat.max a.lvl b.lvl<N:=av
  have g1:a.lvl≤Nat.max a.lvl b.lvl:=Nat.le_max_left _ _
  have g2:b.lvl≤Nat.max a.lvl b.lvl:=Nat.le_max_right _ _
  exact⟨oM (t:=a) N (by omega) ab ae,oM (t:=b) N (by omega) ab ae⟩
 | .eo n a _ k,f,N,av,ab,ae=>by
  have av:Nat.max n (Nat.max a.lvl k.lvl)<N:=av
  have g0:n≤Nat.max n (Nat.max a.lvl k.lvl):=Nat.le_max_left _ _
  have g3:Nat.max a.lvl k.lvl≤Nat.max n (Nat.max a.lvl k.lvl):=Nat.le_max_right _ _
  have g1:a.lvl≤Nat.max a.lvl k.lvl:=Nat.le_max_left _ _
  have g2:k.lvl≤Nat.max a.lvl k.lvl:=Nat.le_max_right _ _
  refine⟨ab n (by omega),oM (t:=a) N (by omega) (fun p ar x hx=>?_) (fun p x hx=>?_),oM (t:=k) N (by omega) ab ae⟩
  ·cases x.b6 n with
   |true=>exact hx
   |false=>exact ab p ar x hx
  ·cases x.b6 n with
   |true=>exact hx
   |false=>exact ae p x hx
 | .e6 m xid _ _ _ a k,f,N,av,ab,ae=>by
  have av:Nat.max m (Nat.max a.lvl k.lvl)<N:=av
  have g0:m≤Nat.max m (Nat.max a.lvl k.lvl):=Nat.le_max_left _ _
  have g3:Nat.max a.lvl k.lvl≤Nat.max m (Nat.max a.lvl k.lvl):=Nat.le_max_right _ _
  have g1:a.lvl≤Nat.max a.lvl k.lvl:=Nat.le_max_left _ _
  have g2:k.lvl≤Nat.max a.lvl k.lvl:=Nat.le_max_right _ _
  refine⟨fun x hx aA=>⟨ab m (by omega) x hx,ae xid x aA⟩,oM (t:=a) N (by omega) (fun p ar x hx=>?_) (fun p x hx=>?_),oM (t:=k) N (by omega) ab ae⟩
  ·cases x.b6 m||x.dy xid with
   |true=>exact hx
   |false=>exact ab p ar x hx
  ·cases x.b6 m||x.dy xid with
   |true=>exact hx
   |false=>exact ae p x hx
 | .fz m xid _ a k,f,N,av,ab,ae=>by
  have av:Nat.max m (Nat.max a.lvl k.lvl)<N:=av
  have g0:m≤Nat.max m (Nat.max a.lvl k.lvl):=Nat.le_max_left _ _
  have g3:Nat.max a.lvl k.lvl≤Nat.max m (Nat.max a.lvl k.lvl):=Nat.le_max_right _ _
  have g1:a.lvl≤Nat.max a.lvl k.lvl:=Nat.le_max_left _ _
  have g2:k.lvl≤Nat.max a.lvl k.lvl:=Nat.le_max_right _ _
  refine⟨fun x hx aA=>⟨ab m (by omega) x hx,ae xid x aA⟩,oM (t:=a) N (by omega) (fun p ar x hx=>?_) (fun p x hx=>?_),oM (t:=k) N (by omega) ab ae⟩
  ·cases x.b6 m||x.dy xid with
   |true=>exact hx
   |false=>exact ab p ar x hx
  ·cases x.b6 m||x.dy xid with
   |true=>exact hx
   |false=>exact ae p x hx
 | .bad _,_,_,_,_,_=>trivial
theorem zed(t:aH)(i:Nat):t.jS (qN i):=oM (t.lvl+1) (Nat.lt_succ_self _) (fun n _ x=>zd9 i n x) (fun n x=>zea i n x)
theorem Ms{t:aH}{n:Nat}(h:t.lvl<n):t.jS (gx n):=oM n h (fun m hm x=>zeb n m (by omega) x) (fun m x=>zec n m x)
def qO(o:Option (cf→Bool))(x:cf):Bool:=
 match o with
 |none=>true
 |some f=>f x
def aH.eW(f:ay→aH):aH→Option (cf→Bool)→aH
 | .dc .b8 S,none=>f S
 | .dc .b8 S,some o=>match(f S).gb o with
  |true=>f S
  |false=>.bad 9
 | .dc x S,_=>.dc x S
 | .lt i x t,o=>.lt i x (t.eW f o)
 | .fF n t,o=>.fF n (t.eW f o)
 | .it c a b,o=>.it c (a.eW f o) (b.eW f o)
 | .eo n a ps k,o=>.eo n (a.eW f (some fun x=>!(x.b6 n)&&qO o x)) ps (k.eW f o)
 | .e6 m xid dZ cg ca a k,o=>.e6 m xid dZ cg ca (a.eW f (some fun x=>!(x.b6 m)&&(!(x.dy xid)&&qO o x))) (k.eW f o)
 | .fz m xid ca a k,o=>.fz m xid ca (a.eW f (some fun x=>!(x.b6 m)&&(!(x.dy xid)&&qO o x))) (k.eW f o)
 | .bad n,_=>.bad n
end Go.aK
namespace Go.aK
open Go
theorem CD{R A:Type}{b c:Nat→A→Step R A}(I:Nat→A→Prop)(n:Nat)(h: ∀i v,i<n→I i v→c i v=b i v∧∀bu,b i v= .bM bu→I (i+1) bu): ∀(m k:Nat) (a:A),k+m=n→I k a→bJ c k m a=bJ b k m a
 |0,_,_,_,_=>rfl
 |m+1,k,a,hn,hi=>by
  obtain⟨ab,ae⟩:=h k a (by omega) hi
  simp only[bJ,ab]
  cases ag:b k a with
  |ret r=>rfl
  |c9 a=>rfl
  |bM v=>exact CD I n h m (k+1) v (by omega) (ae v ag)
theorem Mt{R A:Type}{b c:A→Step R A}(I:A→Prop)(h: ∀v,I v→c v=b v∧∀bu,b v= .bM bu→I bu): ∀(m:Nat) (a:A),I a→dA c m a=dA b m a∧(lx c m a↔lx b m a)
 |0,_,_=>⟨rfl,Iff.rfl⟩
 |m+1,a,hi=>by
  obtain⟨ab,ae⟩:=h a hi;simp only[dA,lx,ab]
  cases ag:b a with
  |ret r=>exact⟨rfl,Iff.rfl⟩
  |c9 a=>exact⟨rfl,Iff.rfl⟩
  |bM v=>exact Mt I h m v (ae v ag)
def jB(M:List bo)(f:ay→aH)(o:Option oK):Option oK:=
 match o with
 |some (.b8,S,e)=>run M (f S) e
 |o=>o
section
variable {M:List bo} {f:ay→aH}
theorem CE{x:cf}{S:ay}{e:Env}(h:x≠ .b8):jB M f (some (x,S,e))=some (x,S,e):=by
 unfold jB
 split
 ·rename_i hx;cases hx;exact absurd rfl h
 ·rfl
theorem kf(m xid:Nat)(ca:List iL)(a:aH)(e:Env)(v:b9 ca):a.fold M e (e2 m xid ca fun _ _ _=>()) (.c9 v)=jA (fun _=>()) (dD M m xid ca a e v):=by
 unfold dD
 split
 ·rename_i x S aF h
  rw[lB h,zg]
 ·rename_i h
  rw[CB h];rfl
theorem u2{R A X:Type}{f:R→X}{s:Step R A}{v:A}(h:jA f s= .bM v):s= .bM v:=by
 cases s<;>simp_all[jA]
theorem TU{m xid:Nat}{ca:List iL}{a bb:aH}{e:Env}{v:b9 ca}(h:run M bb e=jB M f (run M a e))(av: ∀S aF,run M a e=some (.b8,S,aF)→∃x aO aD,run M (f S) aF=some (x,aO,aD)∧x.b6 m=false∧x.dy xid=false):
 dD M m xid ca bb e v=jA (jB M f) (dD M m xid ca a e v):=by
 unfold dD
 rw[h]
 cases ah:run M a e with
 |none=>rfl
 |some l=>
  obtain⟨x,S,aF⟩:=l
  cases x with
  |b8=>
   obtain⟨x,aO,aD,ab,ae,aw⟩:=av S aF ah;simp only[jB,ab];rw[lA ae aw,lA (x:=.b8) rfl rfl];simp only[jA,jB,ab]
  |ext n=>
   simp only[jB];rw[zg]
   cases hx:cf.dy xid (.ext n)with
   |true=>rw[pE rfl hx,pE rfl hx]
   |false=>rw[lA rfl hx,lA rfl hx];rfl
  |ret=>
   simp only[jB];rw[zg,lA rfl rfl,lA rfl rfl];rfl
  |mE n=>
   simp only[jB];rw[zg]
   cases hx:cf.b6 m (.mE n)with
   |true=>rw[pD hx,pD hx]
   |false=>rw[lA hx rfl,lA hx rfl];rfl
theorem oN: ∀{t:aH} {p q:cf→Bool},t.gb p=true→(∀x,p x=true→q x=true)→t.gb q=true
 | .dc x _,_,_,h,aG=>aG x h
 | .lt _ _ t,_,_,h,aG=>oN (t:=t) h aG
 | .fF _ t,_,_,h,aG=>oN (t:=t) h aG
 | .it _ a b,_,_,h,aG=>by
  simp only[aH.gb,Bool.and_eq_true]at h⊢;exact⟨oN h.1 aG,oN h.2 aG⟩
 | .eo n a _ k,_,_,h,aG=>by
  simp only[aH.gb,Bool.and_eq_true]at h⊢;refine⟨oN h.1 fun x hx=>?_,oN h.2 aG⟩
  simp only[Bool.or_eq_true]at hx⊢;exact hx.imp id (aG x)
 | .e6 m xid _ _ _ a k,_,_,h,aG=>by
  simp only[aH.gb,Bool.and_eq_true]at h⊢;refine⟨oN h.1 fun x hx=>?_,oN h.2 aG⟩
  simp only[Bool.or_eq_true]at hx⊢;exact hx.imp id (Or.imp id (aG x))
 | .fz m xid _ a k,_,_,h,aG=>by
  simp only[aH.gb,Bool.and_eq_true]at h⊢;refine⟨oN h.1 fun x hx=>?_,oN h.2 aG⟩
  simp only[Bool.or_eq_true]at hx⊢;exact hx.imp id (Or.imp id (aG x))
 | .bad _,_,_,h,_=>by cases h
theorem jT: ∀(t:aH) (o:Option (cf→Bool)) {e:Env},(t.eW f o).safe M e→
    t.safe M e∧run M (t.eW f o) e=jB M f (run M t e)∧∀S aF,run M t e=some (.b8,S,aF)→(f S).safe M aF∧∀p,o=some p→(f S).gb p=true
  | .dc x S,o,e,h=>by
    cases x with
    |b8=>
      cases o with
      |none=>exact⟨trivial,rfl,fun bP aF ah=>by cases ah;exact⟨h,fun _ ar=>by cases ar⟩⟩
      |some p=>
        simp only[aH.eW]at h
        split at h
        · rename_i av
          have ai:(aH.dc .b8 S).eW f (some p)=f S:=by simp only[aH.eW,av]
          rw[ai];exact⟨trivial,rfl,fun bP aF ah=>by cases ah;exact⟨h,fun _ ar=>by cases ar;exact av⟩⟩
        · exact h.elim
    |_=>exact⟨trivial,rfl,fun bP aF ah=>by cases ah⟩
  | .lt i x t,o,_,h=>jT t o (e:=bd.put _ i _) h
  | .fF n t,o,e,h=>by
    obtain⟨ab,ae,aw⟩:=jT t o h.2;exact⟨⟨h.1,ab⟩,ae,aw⟩
  | .it c a b,o,e,h=>by
    have a6:=fun hc=>jT a o (h.1 hc)
    have ag:=fun hc=>jT b o (h.2 hc)
    refine⟨⟨fun hc=>(a6 hc).1,fun hc=>(ag hc).1⟩,?_⟩
    simp only[run,aH.eW,aH.fold]
    cases hc:c.aN e .bool with
    |true=>exact(a6 hc).2
    |false=>exact(ag hc).2
  | .eo n a ps k,o,e,h=>by
    obtain⟨ct,a2,a3⟩:=jT a _ h.1
    have ao:(aH.eo n a ps k).safe M e∧run M ((aH.eo n a ps k).eW f o) e=jB M f (run M (aH.eo n a ps k) e)∧∀S aF,run M (aH.eo n a ps k) e=some (.b8,S,aF)→(f S).safe M aF∧∀p,o=some p→(f S).gb p=true:=by
      show _∧run M (.eo n (a.eW f (some fun x=>!(x.b6 n)&&qO o x)) ps (k.eW f o)) e=_∧_
      cases ah:run M a e with
      |none=>
        rw[ah]at a2
        have a2:run M _ e=none:=a2
        refine⟨⟨ct,fun aj=>by rw[CB ah]at aj;cases aj⟩,?_,fun S aF aj=>by unfold run at aj;rw[u1 ah]at aj;cases aj⟩
        unfold run;rw[u1 a2,u1 ah];rfl
      |some l=>
        obtain⟨x,aO,aD⟩:=l
        cases hx:x.b6 n with
        |true=>
          have bW:x≠ .b8:=fun e=>by rw[e]at hx;cases hx
          rw[ah,CE bW]at a2
          have an:=TT h a2 hx
          obtain⟨fm,ha,oq⟩:=jT k o an;refine⟨⟨ct,fun _=>?_⟩,?_,fun S aF aj=>?_⟩
          · have:(fun(r:aX) (p:fa)=>(⟨r,bif a.kH n
      then a.fold M e (fun _ S aF=>(p.dO S).get aF r) r.gm
      else a.fold M e (fun x S aF=>bif x.b6 n then(p.dO S).get aF r else r.gm) r.gm⟩:aL))=fun r p=>⟨r,(p.dO aO).get aD r⟩:=by
              funext r p
              simp only[lB ah,hx]
              cases a.kH n<;>rfl
            rw[this];exact fm
          · unfold run
            rw[rY a2 hx,rY ah hx];exact ha
          · unfold run at aj
            rw[rY ah hx]at aj;exact oq S aF aj
        |false=>
          have TV:(aH.eo n a ps k).safe M e:=⟨ct,fun aj=>by rw[lB ah,hx]at aj;cases aj⟩
          by_cases bW:x= .b8
          · subst bW
            obtain⟨f1,f2⟩:=a3 aO aD ah
            have f2:=f2 _ rfl
            obtain⟨y,dr,bg,g1,g2⟩:=k8 (M:=M) (e:=aD) f2;simp only[Bool.and_eq_true,Bool.not_eq_true']at g2;rw[ah]at a2
            have a2:run M _ e=run M (f aO) aD:=a2
            rw[g1]at a2;refine⟨TV,?_,fun S aF aj=>?_⟩
            · have ab:run M (aH.eo n a ps k) e=some (.b8,aO,aD):=by unfold run;rw[oL ah hx]
              rw[ab];show _=run M (f aO) aD;rw[g1];unfold run;rw[oL a2 g2.1]
            · unfold run at aj
              rw[oL ah hx]at aj;cases aj;refine⟨f1,fun p ar=>?_⟩
              subst ar;exact oN f2 fun x hx=>by simp only[Bool.and_eq_true]at hx;exact hx.2
          · rw[ah,CE bW]at a2
            refine⟨TV,?_,fun S aF aj=>?_⟩
            · unfold run
              rw[oL a2 hx,oL ah hx,CE bW]
            · unfold run at aj
              rw[oL ah hx]at aj;cases aj;exact absurd rfl bW
    exact ao
  | .e6 m xid dZ cg ca a k,o,e,h=>by
    obtain⟨⟨I,i0,cS⟩,an⟩:=h
    have key: ∀(i:Nat) (v:b9 ca),i<(cN (dZ.den M e)).toNat→I i v→a.safe M (bw (bd.put e cg ⟨.int .i64,(i:Int)⟩) ca v)∧
        dD M m xid ca (a.eW f (some fun x=>!(x.b6 m)&&(!(x.dy xid)&&qO o x))) (bw (bd.put e cg ⟨.int .i64,(i:Int)⟩) ca v) v=jA (jB M f) (dD M m xid ca a (bw (bd.put e cg ⟨.int .i64,(i:Int)⟩) ca v) v)∧
        (∀bu,dD M m xid ca a (bw (bd.put e cg ⟨.int .i64,(i:Int)⟩) ca v) v= .bM bu→I (i+1) bu)∧
        ∀S aF,dD M m xid ca a (bw (bd.put e cg ⟨.int .i64,(i:Int)⟩) ca v) v= .ret (some (.b8,S,aF))→(f S).safe M aF∧∀p,o=some p→(f S).gb p=true:=by
      intro i v hi az;obtain⟨s1,s2⟩:=cS i v hi az;obtain⟨ct,a2,a3⟩:=jT a _ s1
      have ai:=TU (m:=m) (xid:=xid) (ca:=ca) (v:=v) a2 fun S aF ah=>by
        obtain⟨y,dr,bg,g1,g2⟩:=k8 (M:=M) (e:=aF) ((a3 S aF ah).2 _ rfl);simp only[Bool.and_eq_true,Bool.not_eq_true']at g2;exact⟨y,dr,bg,g1,g2.1,g2.2.1⟩
      refine⟨ct,ai,fun bu ka=>s2 bu ?_,fun S aF ah=>?_⟩
      · rw[kf,ai,ka]
        rfl
      · unfold dD at ah
        cases kX:run M a (bw (bd.put e cg ⟨.int .i64,(i:Int)⟩) ca v)with
        |none=>rw[kX]at ah;cases ah
        |some l=>
          obtain⟨x,bP,Cp⟩:=l;rw[kX]at ah;simp only at ah
          cases hx:x.b6 m with
          |true=>rw[pD hx]at ah;cases ah
          |false=>
            cases aA:x.dy xid with
            |true=>rw[pE hx aA]at ah;cases ah
            |false=>
              rw[lA hx aA]at ah;cases ah;obtain⟨f1,f2⟩:=a3 S aF kX;refine⟨f1,fun p ar=>?_⟩
              subst ar;exact oN (f2 _ rfl) fun x hx=>by simp only[Bool.and_eq_true]at hx;exact hx.2.2
    have u3:bJ (fun i (v:b9 ca)=>(a.eW f (some fun x=>!(x.b6 m)&&(!(x.dy xid)&&qO o x))).fold M (bw (bd.put e cg ⟨.int .i64,(i:Int)⟩) ca v) (e2 m xid ca fun _ _ _=>()) (.c9 v)) 0 (cN (dZ.den M e)).toNat (cw _ (eu e ca))=
        bJ (fun i (v:b9 ca)=>a.fold M (bw (bd.put e cg ⟨.int .i64,(i:Int)⟩) ca v) (e2 m xid ca fun _ _ _=>()) (.c9 v)) 0 (cN (dZ.den M e)).toNat (cw _ (eu e ca)):=
      CD I _ (fun i v hi az=>by
        obtain⟨_,g2,g3,_⟩:=key i v hi az;refine⟨?_,fun bu ka=>g3 bu ?_⟩
        · rw[kf,kf,g2]
          cases dD M m xid ca a (bw (bd.put e cg ⟨.int .i64,(i:Int)⟩) ca v) v<;>rfl
        · rw[kf]at ka
          exact u2 ka) _ 0 _ (by omega) i0
    rw[u3]at an
    have hp:bJ (fun i (v:b9 ca)=>(a.eW f (some fun x=>!(x.b6 m)&&(!(x.dy xid)&&qO o x))).fold M (bw (bd.put e cg ⟨.int .i64,(i:Int)⟩) ca v) (e2 m xid ca fun x S e=>some (x,S,e)) (.c9 v)) 0 (cN (dZ.den M e)).toNat (cw _ (eu e ca))=
        bJ (fun i (v:b9 ca)=>jA (jB M f) (dD M m xid ca a (bw (bd.put e cg ⟨.int .i64,(i:Int)⟩) ca v) v)) 0 (cN (dZ.den M e)).toNat (cw _ (eu e ca)):=
      CD I _ (fun i v hi az=>by
        obtain⟨_,g2,g3,_⟩:=key i v hi az;refine⟨?_,fun bu ka=>g3 bu (u2 ka)⟩
        rw[zh,g2]) _ 0 _ (by omega) i0
    have ib: ∀(n i:Nat) (v:b9 ca),i+n=(cN (dZ.den M e)).toNat→I i v→∀S aF,bJ (fun i (v:b9 ca)=>dD M m xid ca a (bw (bd.put e cg ⟨.int .i64,(i:Int)⟩) ca v) v) i n v= .inl (some (.b8,S,aF))→(f S).safe M aF∧∀p,o=some p→(f S).gb p=true:=by
      intro n
      induction n with
      |zero=>intro i v _ _ S aF h;cases h
      |succ n aY=>
        intro i v FV az S aF h;obtain⟨_,_,g3,g4⟩:=key i v (by omega) az
        simp only[bJ]at h
        cases ah:dD M m xid ca a (bw (bd.put e cg ⟨.int .i64,(i:Int)⟩) ca v) v with
        |ret r=>rw[ah]at h;cases h;exact g4 S aF ah
        |c9 bu=>rw[ah]at h;cases h
        |bM bu=>rw[ah]at h;exact aY (i+1) bu (by omega) (g3 bu ah) S aF h
    have cy:run M (.e6 m xid dZ cg ca a k) e=Sum.elim (fun r=>r) (fun v=>run M k (bw e ca v)) (bJ (fun i (v:b9 ca)=>dD M m xid ca a (bw (bd.put e cg ⟨.int .i64,(i:Int)⟩) ca v) v) 0 (cN (dZ.den M e)).toNat (cw _ (eu e ca))):=by
      unfold run;rw[zi];simp only[zh]
    have Mu:run M ((aH.e6 m xid dZ cg ca a k).eW f o) e=Sum.elim (fun r=>r) (fun v=>run M (k.eW f o) (bw e ca v)) (Sum.map (jB M f) id (bJ (fun i (v:b9 ca)=>dD M m xid ca a (bw (bd.put e cg ⟨.int .i64,(i:Int)⟩) ca v) v) 0 (cN (dZ.den M e)).toNat (cw _ (eu e ca)))):=by
      show aH.fold M (.e6 m xid dZ cg ca (a.eW f (some fun x=>!(x.b6 m)&&(!(x.dy xid)&&qO o x))) (k.eW f o)) e _ none=_;rw[zi,hp,wX (jB M f) (fun _ _=>rfl)];rfl
    have fk: ∀v,bJ (fun i (v:b9 ca)=>dD M m xid ca a (bw (bd.put e cg ⟨.int .i64,(i:Int)⟩) ca v) v) 0 (cN (dZ.den M e)).toNat (cw _ (eu e ca))= .inr v→(k.eW f o).safe M (bw e ca v):=fun v az=>by
      simp only[kf]at an;rw[wX (fun _=>()) (fun _ _=>rfl),az]at an;exact an
    refine⟨⟨⟨I,i0,fun i v hi az=>?_⟩,?_⟩,?_,fun S aF ah=>?_⟩
    · obtain⟨g1,_,g3,_⟩:=key i v hi az
      exact⟨g1,fun bu ka=>g3 bu (u2 (by rw[kf]at ka;exact ka))⟩
    · simp only[kf]
      rw[wX (fun _=>()) (fun _ _=>rfl)]
      cases az:bJ (fun i (v:b9 ca)=>dD M m xid ca a (bw (bd.put e cg ⟨.int .i64,(i:Int)⟩) ca v) v) 0 (cN (dZ.den M e)).toNat (cw _ (eu e ca))with
      |inl r=>trivial
      |inr v=>exact(jT k o (fk v az)).1
    · rw[cy,Mu]
      cases az:bJ (fun i (v:b9 ca)=>dD M m xid ca a (bw (bd.put e cg ⟨.int .i64,(i:Int)⟩) ca v) v) 0 (cN (dZ.den M e)).toNat (cw _ (eu e ca))with
      |inl r=>rfl
      |inr v=>exact(jT k o (fk v az)).2.1
    · rw[cy]at ah
      cases az:bJ (fun i (v:b9 ca)=>dD M m xid ca a (bw (bd.put e cg ⟨.int .i64,(i:Int)⟩) ca v) v) 0 (cN (dZ.den M e)).toNat (cw _ (eu e ca))with
      |inl r=>
        rw[az]at ah
        have ah:r=some (.b8,S,aF):=ah
        subst ah;exact ib _ 0 _ (by omega) i0 S aF az
      |inr v=>
        rw[az]at ah;exact(jT k o (fk v az)).2.2 S aF ah
  | .fz m xid ca a k,o,e,h=>by
    obtain⟨⟨I,i0,cS⟩,he,an⟩:=h
    have key: ∀(v:b9 ca),I v→a.safe M (bw e ca v)∧
        dD M m xid ca (a.eW f (some fun x=>!(x.b6 m)&&(!(x.dy xid)&&qO o x))) (bw e ca v) v=jA (jB M f) (dD M m xid ca a (bw e ca v) v)∧
        (∀bu,dD M m xid ca a (bw e ca v) v= .bM bu→I bu)∧
        ∀S aF,dD M m xid ca a (bw e ca v) v= .ret (some (.b8,S,aF))→(f S).safe M aF∧∀p,o=some p→(f S).gb p=true:=by
      intro v az;obtain⟨s1,s2⟩:=cS v az;obtain⟨ct,a2,a3⟩:=jT a _ s1
      have ai:=TU (m:=m) (xid:=xid) (ca:=ca) (v:=v) a2 fun S aF ah=>by
        obtain⟨y,dr,bg,g1,g2⟩:=k8 (M:=M) (e:=aF) ((a3 S aF ah).2 _ rfl);simp only[Bool.and_eq_true,Bool.not_eq_true']at g2;exact⟨y,dr,bg,g1,g2.1,g2.2.1⟩
      refine⟨ct,ai,fun bu ka=>s2 bu ?_,fun S aF ah=>?_⟩
      · rw[kf,ai,ka]
        rfl
      · unfold dD at ah
        cases kX:run M a (bw e ca v)with
        |none=>rw[kX]at ah;cases ah
        |some l=>
          obtain⟨x,bP,Cp⟩:=l;rw[kX]at ah;simp only at ah
          cases hx:x.b6 m with
          |true=>rw[pD hx]at ah;cases ah
          |false=>
            cases aA:x.dy xid with
            |true=>rw[pE hx aA]at ah;cases ah
            |false=>
              rw[lA hx aA]at ah;cases ah;obtain⟨f1,f2⟩:=a3 S aF kX;refine⟨f1,fun p ar=>?_⟩
              subst ar;exact oN (f2 _ rfl) fun x hx=>by simp only[Bool.and_eq_true]at hx;exact hx.2.2
    have u3:=Mt (b:=fun(v:b9 ca)=>(a.fold M (bw e ca v) (e2 m xid ca fun _ _ _=>()) (.c9 v):Step Unit (b9 ca))) (c:=fun(v:b9 ca)=>((a.eW f (some fun x=>!(x.b6 m)&&(!(x.dy xid)&&qO o x))).fold M (bw e ca v) (e2 m xid ca fun _ _ _=>()) (.c9 v):Step Unit (b9 ca))) I (fun v az=>by
        obtain⟨_,g2,g3,_⟩:=key v az;refine⟨?_,fun bu ka=>g3 bu ?_⟩
        · rw[kf,kf,g2]
          cases dD M m xid ca a (bw e ca v) v<;>rfl
        · rw[kf]at ka
          exact u2 ka) dt _ i0
    rw[u3.1]at an
    have he:=u3.2.1 he
    have hp:=(Mt (b:=fun(v:b9 ca)=>jA (jB M f) (dD M m xid ca a (bw e ca v) v)) (c:=fun(v:b9 ca)=>(a.eW f (some fun x=>!(x.b6 m)&&(!(x.dy xid)&&qO o x))).fold M (bw e ca v) (e2 m xid ca fun x S e=>some (x,S,e)) (.c9 v)) I (fun v az=>by
        obtain⟨_,g2,g3,_⟩:=key v az;refine⟨?_,fun bu ka=>g3 bu (u2 ka)⟩
        rw[zh,g2]) dt _ i0).1
    have ib: ∀(n:Nat) (v:b9 ca),I v→∀S aF,dA (fun(v:b9 ca)=>dD M m xid ca a (bw e ca v) v) n v= .inl (some (.b8,S,aF))→(f S).safe M aF∧∀p,o=some p→(f S).gb p=true:=by
      intro n
      induction n with
      |zero=>intro v _ S aF h;cases h
      |succ n aY=>
        intro v az S aF h;obtain⟨_,_,g3,g4⟩:=key v az;simp only[dA]at h
        cases ah:dD M m xid ca a (bw e ca v) v with
        |ret r=>rw[ah]at h;cases h;exact g4 S aF ah
        |c9 bu=>rw[ah]at h;cases h
        |bM bu=>rw[ah]at h;exact aY bu (g3 bu ah) S aF h
    have cy:run M (.fz m xid ca a k) e=Sum.elim (fun r=>r) (fun v=>run M k (bw e ca v)) (dA (fun(v:b9 ca)=>dD M m xid ca a (bw e ca v) v) dt (cw _ (eu e ca))):=by
      simp only[run,aH.fold,zh]
    have Mu:run M ((aH.fz m xid ca a k).eW f o) e=Sum.elim (fun r=>r) (fun v=>run M (k.eW f o) (bw e ca v)) (Sum.map (jB M f) id (dA (fun(v:b9 ca)=>dD M m xid ca a (bw e ca v) v) dt (cw _ (eu e ca)))):=by
      rw[←zf (jB M f) (c:=fun(v:b9 ca)=>jA (jB M f) (dD M m xid ca a (bw e ca v) v)) (fun _=>rfl),←hp];rfl
    have fk: ∀v,dA (fun(v:b9 ca)=>dD M m xid ca a (bw e ca v) v) dt (cw _ (eu e ca))= .inr v→(k.eW f o).safe M (bw e ca v):=fun v az=>by
      simp only[kf]at an;rw[zf (fun _=>()) (fun _=>rfl),az]at an;exact an
    refine⟨⟨⟨I,i0,fun v az=>?_⟩,he,?_⟩,?_,fun S aF ah=>?_⟩
    · obtain⟨g1,_,g3,_⟩:=key v az
      exact⟨g1,fun bu ka=>g3 bu (u2 (by rw[kf]at ka;exact ka))⟩
    · simp only[kf]
      rw[zf (fun _=>()) (fun _=>rfl)]
      cases az:dA (fun(v:b9 ca)=>dD M m xid ca a (bw e ca v) v) dt (cw _ (eu e ca))with
      |inl r=>trivial
      |inr v=>exact(jT k o (fk v az)).1
    · rw[cy,Mu]
      cases az:dA (fun(v:b9 ca)=>dD M m xid ca a (bw e ca v) v) dt (cw _ (eu e ca))with
      |inl r=>rfl
      |inr v=>exact(jT k o (fk v az)).2.1
    · rw[cy]at ah
      cases az:dA (fun(v:b9 ca)=>dD M m xid ca a (bw e ca v) v) dt (cw _ (eu e ca))with
      |inl r=>
        rw[az]at ah
        have ah:r=some (.b8,S,aF):=ah
        subst ah;exact ib _ _ i0 S aF az
      |inr v=>
        rw[az]at ah;exact(jT k o (fk v az)).2.2 S aF ah
  | .bad _,_,_,h=>h.elim
end
end Go.aK
namespace Go.aK
open Go
theorem pF(G:aR)(e:Env)(l:bd af): ∀(n i j:Nat),(ke G e l i n)[j]? =if j<n then some (match l.get (i+j)with|some x=>x.den G e|none=>.top)else none
 |0,_,_=>by simp[ke]
 |n+1,i,0=>by simp only[ke,List.getElem?_cons_zero,Nat.add_zero,Nat.zero_lt_succ,if_true]<;>rfl
 |n+1,i,j+1=>by
  simp only[ke,List.getElem?_cons_succ,pF G e l n (i+1) j]
  rw[show i+1+j=i+(j+1)by omega]
  simp
theorem Gr(G:aR)(e:Env)(l:bd af): ∀(n i:Nat),(ke G e l i n).length=n
 |0,_=>rfl
 |n+1,i=>by simp[ke,Gr G e l n (i+1)]
theorem wY(G:aR)(N B:Nat)(e:Env)(S:ay)(j:Nat):(S.den G N B e).db[j]? =if j<N then some ((S.at j).den G e)else none:=by
 simp only[ay.den,pF,Nat.zero_add]
 by_cases h:j<N
 ·simp only[h,if_true,Option.some.injEq]
  unfold ay.at
  cases S.l.get j<;>rfl
 ·simp[h]
def CF:af→af→Bool
 | .bs r i,.bs q j=>Nat.beq i j&&iW r q
 | .fd c i k r,.fd d j m q=>(Nat.beq i j&&Nat.beq k m)&&(decide (c=d)&&iW r q)
 |_,_=>false
theorem Mv{x y:af}(h:CF x y=true):x=y:=by
 unfold CF at h
 split at h
 ·simp only[Bool.and_eq_true]at h
  rw[Nat.eq_of_beq_eq_true h.1,iz h.2]
 ·simp only[Bool.and_eq_true,decide_eq_true_eq]at h
  rw[Nat.eq_of_beq_eq_true h.1.1,Nat.eq_of_beq_eq_true h.1.2,h.2.1,iz h.2.2]
 ·cases h
def mF(g:af):List ck→Option Bool
 |[]=>none
 | .eL h b::r=>match CF h g with
  |true=>some b
  |false=>mF g r
 |_::r=>mF g r
theorem rZ{e:Env}{g:af}{b:Bool}: ∀{l:List ck},mF g l=some b→(∀c∈l,c.ok e)→g.aN e .bool=b
 | .eL h gR::r,an,hc=>by
  simp only[mF]at an
  split at an
  ·rename_i ao
   cases an;rw[←Mv ao];exact hc (.eL h b) (by simp)
  ·exact rZ an fun c hm=>hc c (by simp[hm])
 | .d1 _ _ _::r,an,hc=>rZ (l:=r) an fun c hm=>hc c (by simp[hm])
 | .d2 _ _ _ _::r,an,hc=>rZ (l:=r) an fun c hm=>hc c (by simp[hm])
 | .rg _ _::r,an,hc=>rZ (l:=r) an fun c hm=>hc c (by simp[hm])
def af.res(l:List ck):af→af
 | .gv g b v=>match mF g l with
  |some c=>match decide (c=b)with
   |true=>v.res l
   |false=>.tp []
  |none=>.gv g b (v.res l)
 | .fQ g id off=>match mF g l,id with
  |some true,some id=>.eV id off
  |some false,_=>.cs (.pointer none)
  |_,_=>.fQ g id off
 |x=>x
theorem TW{l:List ck}{g v:af}{b:Bool}:(af.gv g b v).res l=match mF g l with
 |some c=>match decide (c=b)with
  |true=>v.res l
  |false=>.tp []
 |none=>.gv g b (v.res l):=by rw[af.res]
theorem TX{l:List ck}{g:af}{id:Option Nat}{off:Nat}:(af.fQ g id off).res l=match mF g l,id with
 |some true,some id=>.eV id off
 |some false,_=>.cs (.pointer none)
 |_,_=>.fQ g id off:=by
 cases an:mF g l with
 |none=>simp only[af.res,an]
 |some b=>cases b<;>cases id<;>simp only[af.res,an]
theorem Mw{G:aR}{e:Env}{l:List ck}(hc: ∀c∈l,c.ok e): ∀{x:af},(x.res l).den G e=x.den G e
 | .gv g b v=>by
  have aY:=Mw (G:=G) hc (x:=v)
  rw[TW]
  split
  ·rename_i c an
   have:=rZ an hc
   split
   ·rename_i hd
    have hd:=of_decide_eq_true hd
    subst hd;rw[aY];simp only[af.den,this]
    cases c<;>rfl
   ·rename_i hd
    have hd:=of_decide_eq_false hd
    simp only[af.den,this]
    cases c<;>cases b<;>first|rfl|exact absurd rfl hd
  ·simp only[af.den,aY]
 | .bs _ _=>rfl
 | .fd _ _ _ _=>rfl
 | .cs _=>rfl
 | .ip _ _ _=>rfl
 | .cA _=>rfl
 | .tp _=>rfl
 | .eV _ _=>rfl
 | .hW _ _ _=>rfl
 | .aq _=>rfl
 | .fn _ _ _=>rfl
 | .ie _=>rfl
 | .m9 _ _=>rfl
 | .ia _ _ _ _=>rfl
 | .cE _ _=>rfl
 | .fQ g id off=>by
  rw[TX]
  cases an:mF g l with
  |none=>rfl
  |some c=>
   have:=rZ an hc
   cases c with
   |true=>cases id with
    |none=>rfl
    |some id=>simp only[af.den,this]
   |false=>simp only[af.den,this]
 | .ei _ _ _ _=>rfl
 | .top=>rfl
theorem Mx{l:List ck}{k:Nat}: ∀{x:af},x.lt k=true→(x.res l).lt k=true
 | .gv g b v,h=>by
  simp only[af.lt,Bool.and_eq_true]at h;rw[TW]
  split
  ·split
   ·exact Mx h.2
   ·rfl
  ·simp only[af.lt,h.1,Mx h.2,Bool.and_self]
 | .bs _ _,h=>h
 | .fd _ _ _ _,h=>h
 | .cs _,h=>h
 | .ip _ _ _,h=>h
 | .cA _,h=>h
 | .tp _,h=>h
 | .eV _ _,h=>h
 | .hW _ _ _,h=>h
 | .aq _,h=>h
 | .fn _ _ _,h=>h
 | .ie _,h=>h
 | .m9 _ _,h=>h
 | .ia _ _ _ _,h=>h
 | .cE _ _,h=>h
 | .fQ g id off,h=>by
  rw[TX]
  cases mF g l with
  |none=>exact h
  |some c=>cases c with
   |true=>cases id with
    |none=>exact h
    |some id=>rfl
   |false=>rfl
 | .ei _ _ _ _,h=>h
 | .top,h=>h
def ay.a1(N:Nat)(S:ay):Operand→af
 | .tmp t=>match Nat.blt t N with
  |true=>(S.at t).res S.g
  |false=>.top
 | .const v=>match v.oneCell' with
  |true=>.cs v
  |false=>.top
 | .global g=>.m9 g 0
 | .func f=>.fn (.func f) [] []
section
variable {G:aR} {N B:Nat} {e:Env} {S:ay}
theorem bR(hf: ∀c∈S.g,c.ok e)(x:Operand):aP G (S.den G N B e) x=(S.a1 N x).den G e:=by
 cases x with
 |tmp t=>
  simp only[aP,ay.a1,List.getD_eq_getElem?_getD,wY]
  cases h:Nat.blt t N with
  |true=>
   have:t<N:=e9 h
   simp[this,Mw hf]
  |false=>
   have: ¬t<N:=fun h'=>by rw[l1 h']at h;cases h
   simp[this,af.den]
 |const v=>
  simp only[aP,ay.a1]
  cases v.oneCell'<;>simp[af.den]
 |global g=>
  simp only[aP,ay.a1,af.den]
  cases G g with
  |none=>rfl
  |some l=>simp
 |func f=>simp[aP,ay.a1,af.den,af.b0]
def ay.put(S:ay)(dst:Option Nat)(v:af):ay:=
 match dst with
 |some d=>{S with l:=S.l.put d v}
 |none=>S
theorem My(d:Nat)(v:af)(l:bd af):ke G e (l.put d v) 0 N=(ke G e l 0 N).set d (v.den G e):=by
 apply List.ext_getElem?
 intro j
 rw[pF,List.getElem?_set,pF,Gr,Nat.zero_add,bd.kl]
 by_cases hd:d=j
 ·subst hd
  by_cases aj:d<N<;>simp[aj]
 ·simp[hd]
theorem fL(dst:Option Nat)(v:af):(S.put dst v).den G N B e=(S.den G N B e).put dst (v.den G e):=by
 cases dst with
 |none=>rfl
 |some d=>simp only[ay.put,ay.den,aQ.put,My]
theorem e7: ∀(h:List (Nat × bQ)) (id:Nat),aE (c6 G e h) id=(dK h id).map (bQ.den G e)
 |[],_=>rfl
 |(i,o)::r,id=>by
  simp only[c6,aE,dK,rW]
  by_cases h:i=id
  ·simp[h]
  ·simp only[h,if_false,decide_false]
   exact e7 r id
theorem u4: ∀(h:List (Nat × bQ)) (id:Nat) (o:bQ),c6 G e (kG h id o)=eA (c6 G e h) id (o.den G e)
 |[],_,_=>rfl
 |(i,p)::r,id,o=>by
  simp only[kG,c6,eA,rW]
  by_cases h:i=id
  ·simp[h,c6]
  ·simp only[h,decide_false,if_false,c6,u4 r id o]
end
def bQ.lt(k:Nat):bQ→Bool
 | .dY _ l=>af.cW k l
 | .rw _ _ x=>x.lt k
 | .it _ x p=>x.lt k&&p.lt k
def fu(k:Nat):List (Nat × bQ)→Bool
 |[]=>true
 |(_,o)::r=>o.lt k&&fu k r
def ck.lt(k:Nat):ck→Bool
 | .d1 i _ x=>Nat.blt i k&&x.lt k
 | .d2 i _ x y=>Nat.blt i k&&(x.lt k&&y.lt k)
 | .rg i b=>Nat.blt i k&&b.lt k
 | .eL g _=>g.lt k
def fR(k:Nat):List ck→Bool
 |[]=>true
 |c::r=>c.lt k&&fR k r
structure ay.cO (S:ay):Prop where
 l: ∀i x,S.l.get i=some x→x.lt S.k=true
 h:fu S.k S.h=true
 g:fR S.k S.g=true
mutual
theorem hE{k m:Nat}(h:k≤m): ∀{x:af},x.lt k=true→x.lt m=true:=fun {x} hx=>by
 cases x with
 |bs r i=>exact l1 (Nat.lt_of_lt_of_le (e9 hx) h)
 |fd c i j r=>exact l1 (Nat.lt_of_lt_of_le (e9 (i:=i) hx) h)
 |ip c i j=>exact l1 (Nat.lt_of_lt_of_le (e9 (i:=i) hx) h)
 |cA l=>exact wZ (l:=l) h hx
 |tp l=>exact wZ (l:=l) h hx
 |hW id x off=>exact hE (x:=x) h hx
 |ia id off x n=>exact hE (x:=x) h hx
 |fQ g id off=>exact hE (x:=g) h hx
 |ei t a rs l=>exact wZ h (l:=l) hx
 |fn f a b=>
  simp only[af.lt,Bool.and_eq_true]at hx⊢;exact⟨wZ h hx.1,wZ h hx.2⟩
 |gv g b x=>
  simp only[af.lt,Bool.and_eq_true]at hx⊢;exact⟨hE h hx.1,hE h hx.2⟩
 |_=>rfl
theorem wZ{k m:Nat}(h:k≤m): ∀{l:List af},af.cW k l=true→af.cW m l=true:=fun {l} av=>by
 match l with
 |[]=>rfl
 |x::r=>
  simp only[af.cW,Bool.and_eq_true]at av⊢;exact⟨hE h av.1,wZ h av.2⟩
end
theorem w0{k m:Nat}(h:k≤m): ∀{l:List (Nat × bQ)},fu k l=true→fu m l=true
 |[],_=>rfl
 |(_,o)::r,av=>by
  simp only[fu,Bool.and_eq_true]at av⊢;refine⟨?_,w0 h av.2⟩
  cases o with
  |dY t l=>exact wZ h (l:=l) av.1
  |rw t c x=>exact hE h (x:=x) av.1
  |it q x p=>
   have ab:=av.1
   simp only[bQ.lt,Bool.and_eq_true]at ab⊢;exact⟨hE h ab.1,hE h ab.2⟩
theorem qP{k m:Nat}(h:k≤m): ∀{l:List ck},fR k l=true→fR m l=true
 |[],_=>rfl
 |c::r,av=>by
  simp only[fR,Bool.and_eq_true]at av⊢;refine⟨?_,qP h av.2⟩
  cases c with
  |d1 i f x=>
   have:=av.1
   simp only[ck.lt,Bool.and_eq_true]at this⊢;exact⟨l1 (Nat.lt_of_lt_of_le (e9 this.1) h),hE h this.2⟩
  |d2 i f x y=>
   have:=av.1
   simp only[ck.lt,Bool.and_eq_true]at this⊢;exact⟨l1 (Nat.lt_of_lt_of_le (e9 this.1) h),hE h this.2.1,hE h this.2.2⟩
  |rg i b=>
   have:=av.1
   simp only[ck.lt,Bool.and_eq_true]at this⊢;exact⟨l1 (Nat.lt_of_lt_of_le (e9 this.1) h),hE h this.2⟩
  |eL g b=>exact hE h (x:=g) av.1
section
variable {G:aR} {N B:Nat} {e aF:Env} {S:ay} {k:Nat}
theorem CG(h:cp k e aF): ∀{l:List (Nat × bQ)},fu k l=true→c6 G aF l=c6 G e l
 |[],_=>rfl
 |(_,o)::r,av=>by
  simp only[fu,Bool.and_eq_true]at av;simp only[c6,CG h av.2]
  congr 2
  cases o with
  |dY t l=>simp only[bQ.den,y9 h (l:=l) av.1]
  |rw t c x=>simp only[bQ.den,fy h (x:=x) av.1]
  |it q x p=>
   have ab:=av.1
   simp only[bQ.lt,Bool.and_eq_true]at ab;simp only[bQ.den,fy h (x:=x) ab.1,fy h (x:=p) ab.2]
theorem l4(h:cp S.k e aF)(ag:S.cO):S.den G N B aF=S.den G N B e:=by
 simp only[ay.den,aQ.mk.injEq,and_true,true_and]
 refine⟨?_,CG h ag.h⟩
 apply List.ext_getElem?
 intro j
 rw[pF,pF]
 by_cases aj:j<N
 ·simp only[aj,if_true,Option.some.injEq]
  cases ai:S.l.get (0+j)with
  |none=>rfl
  |some x=>exact uW h (ag.l _ x ai)
 ·simp[aj]
theorem jU(h:cp k e aF): ∀{l:List ck},fR k l=true→(∀c∈l,c.ok e)→∀c∈l,c.ok aF
 |[],_,_,_,hc=>by cases hc
 |d::r,av,hf,c,hc=>by
  simp only[fR,Bool.and_eq_true]at av
  rcases List.mem_cons.1 hc with rfl|hc
  ·have aS:=hf c (by simp)
   cases c with
   |d1 i f x=>
    have ab:=av.1
    simp only[ck.lt,Bool.and_eq_true]at ab;simp only[ck.ok]at aS⊢;rw[h i (e9 ab.1),fy h ab.2];exact aS
   |d2 i f x y=>
    have ab:=av.1
    simp only[ck.lt,Bool.and_eq_true]at ab;simp only[ck.ok]at aS⊢;rw[h i (e9 ab.1),fy h ab.2.1,fy h ab.2.2];exact aS
   |rg i b=>
    have ab:=av.1
    simp only[ck.lt,Bool.and_eq_true]at ab;simp only[ck.ok]at aS⊢;rw[h i (e9 ab.1),uV h ab.2];exact aS
   |eL g b=>
    simp only[ck.ok]at aS⊢;rw[fy h (x:=g) av.1];exact aS
  ·exact jU h av.2 (fun c hc=>hf c (by simp[hc])) c hc
theorem Gs(ag:S.cO)(x:Operand):(S.a1 N x).lt S.k=true:=by
 cases x with
 |tmp t=>
  simp only[ay.a1]
  split
  ·refine Mx ?_
   unfold ay.at
   split
   ·rename_i x hx;exact ag.l _ x hx
   ·rfl
  ·rfl
 |const v=>simp only[ay.a1];split<;>rfl
 |global g=>rfl
 |func f=>rfl
end
def b1.lt(k:Nat):b1→Bool
 | .qK _ x=>x.lt k
 | .f1 _ x=>x.lt k
 | .f2 _ x y=>x.lt k&&y.lt k
 | .ff _ x lo hi=>x.lt k&&(af.cW k lo.toList&&af.cW k hi.toList)
 | .qL x lo hi=>x.lt k&&(af.cW k lo.toList&&af.cW k hi.toList)
 | .Gl _ g x y=>g.lt k&&(x.lt k&&y.lt k)
 | .Cz _ _ l m=>af.cW k l&&af.cW k m
 | .pB _ l=>af.cW k l
 | .up _ l i x=>l.lt k&&(i.lt k&&x.lt k)
 | .nth _ l i=>af.cW k l&&i.lt k
 | .cQ _ x=>x.lt k
 | .Gm _ _=>true
 | .Gn _ _ m x y=>m.lt k&&(x.lt k&&y.lt k)
 | .ze _ _ m x=>m.lt k&&x.lt k
 | .wW _ _ m x=>m.lt k&&x.lt k
 | .ca _ l=>af.cW k l
 | .tf _ p _=>Nat.blt p k
section
variable {e aF:Env} {k:Nat}
theorem zj(h:cp k e aF): ∀{rs:List aX} {l:List af},af.cW k l=true→hP aF rs l=hP e rs l
 |[],_,_=>by simp[hP]
 |_::_,[],_=>by simp[hP]
 |r::rs,x::xs,hx=>by
  simp only[af.cW,Bool.and_eq_true]at hx;simp only[hP,wU h hx.1,zj h hx.2]
theorem Gt(h:cp k e aF){o:Option af}(au:af.cW k o.toList=true):pC aF o=pC e o:=by
 cases o with
 |none=>rfl
 |some x=>
  simp only[Option.toList,af.cW,Bool.and_true]at au;simp only[pC,uV h au]
theorem TY(h:cp k e aF): ∀{rs:List aX} {l m:List af},af.cW k l=true→af.cW k m=true→l2 aF rs l m=l2 e rs l m
 |[r],[x],[y],av,hm=>by
  simp only[af.cW,Bool.and_eq_true]at av hm;simp only[l2,fy h av.1,fy h hm.1]
 |r::s::rs,x::xs,y::ys,av,hm=>by
  simp only[af.cW,Bool.and_eq_true]at av hm
  have:=TY h (rs:=s::rs) av.2 hm.2
  cases xs<;>cases ys<;>simp only[l2,fy h av.1,fy h hm.1,this]
 |[r],x::ly::xs,y::ys,av,hm=>by
  simp only[af.cW,Bool.and_eq_true]at av hm;simp only[l2,fy h av.1,fy h hm.1]
 |[r],[x],y::sH::ys,av,hm=>by
  simp only[af.cW,Bool.and_eq_true]at av hm;simp only[l2,fy h av.1,fy h hm.1]
 |[],_,_,_,_=>by simp[l2]
 |_::_,[],_,_,_=>by simp[l2]
 |_::_,_::_,[],_,_=>by simp[l2]
theorem TZ(h:cp k e aF){c:bX}: ∀{l:List af},af.cW k l=true→nQ aF c l=nQ e c l
 |[],_=>rfl
 |x::r,av=>by
  simp only[af.cW,Bool.and_eq_true]at av;simp only[nQ,wU h av.1,TZ h av.2]
theorem T0(h:cp k e aF){r:aX}: ∀{l:List af} {n:Nat},af.cW k l=true→uZ aF r l n=uZ e r l n
 |[],_,_=>rfl
 |[x],_,av=>by
  simp only[af.cW,Bool.and_eq_true]at av;simp only[uZ,fy h av.1]
 |x::y::l,n,av=>by
  simp only[af.cW,Bool.and_eq_true]at av
  have:=T0 h (l:=y::l) (n:=n-1) (r:=r) (by simp only[af.cW,Bool.and_eq_true];exact av.2)
  simp only[uZ,fy h av.1,this]
theorem zee(M:List bo)(h:cp k e aF){x:b1}(hx:x.lt k=true):x.den M aF=x.den M e:=by
 cases x with
 |qK r x=>simp only[b1.den,wU h (x:=x) hx]
 |f1 f x=>simp only[b1.den,fy h (x:=x) hx]
 |f2 f x y=>
  simp only[b1.lt,Bool.and_eq_true]at hx;simp only[b1.den,fy h hx.1,fy h hx.2]
 |ff c x lo hi=>
  simp only[b1.lt,Bool.and_eq_true]at hx;simp only[b1.den,fy h hx.1,Gt h hx.2.1,Gt h hx.2.2]
 |qL x lo hi=>
  simp only[b1.lt,Bool.and_eq_true]at hx;simp only[b1.den,fy h hx.1,Gt h hx.2.1,Gt h hx.2.2]
 |Gl r g x y=>
  simp only[b1.lt,Bool.and_eq_true]at hx;simp only[b1.den,fy h hx.1,wU h hx.2.1,wU h hx.2.2]
 |Cz n rs l m=>
  simp only[b1.lt,Bool.and_eq_true]at hx;simp only[b1.den,TY h hx.1 hx.2]
 |pB c l=>simp only[b1.den,TZ h (l:=l) hx]
 |cQ c x=>simp only[b1.den,fy h (x:=x) hx]
 |Gm r s=>rfl
 |Gn r s m x y=>
  simp only[b1.lt,Bool.and_eq_true]at hx;simp only[b1.den,fy h hx.1,fy h hx.2.1,wU h hx.2.2]
 |ze r s m x=>
  simp only[b1.lt,Bool.and_eq_true]at hx;simp only[b1.den,fy h hx.1,fy h hx.2]
 |wW r s m x=>
  simp only[b1.lt,Bool.and_eq_true]at hx;simp only[b1.den,fy h hx.1,fy h hx.2]
 |up c l i x=>
  simp only[b1.lt,Bool.and_eq_true]at hx;simp only[b1.den,fy h hx.1,uV h hx.2.1,wU h hx.2.2]
 |nth r l i=>
  simp only[b1.lt,Bool.and_eq_true]at hx;simp only[b1.den,T0 h hx.1,uV h hx.2]
 |ca j l=>simp only[b1.den,zj h (l:=l) hx]
 |tf rs p i=>simp only[b1.den,h p (e9 hx)]
end
end Go.aK
namespace Go.aK
open Go
section
variable {P:Program} {G:aR} {o:Oper} {s:aQ}
theorem cY.sub{v bu:aC}(h:cY P G o s v)(ao:Sub v bu):cY P G o s bu:=fun E a w β ro ah=>by
 obtain⟨c,ab,ae⟩:=h E a w β ro ah
 exact⟨c,ab,ao _ _ _ _ _ _ ae⟩
def Mz(op:BinOp)(k a8:IntKind):Bool:=
 match op with
 | .add=>decide (k=a8)
 | .sub=>decide (k=a8)
 | .mul=>decide (k=a8)
 | .quo=>decide (k=a8)
 | .rem=>decide (k=a8)
 | .and=>decide (k=a8)
 | .or=>decide (k=a8)
 | .xor=>decide (k=a8)
 | .shl=>true
 | .shr=>true
 |_=>false
def zk:BinOp→Bool
 | .eql=>true
 | .neq=>true
 | .lss=>true
 | .leq=>true
 | .gtr=>true
 | .geq=>true
 |_=>false
theorem zef{op:BinOp}{cJ ty:TypeId}{x y:Operand}{k a8:IntKind}{a b:Int}(au:o.op= .binOp op cJ x y ty)(hx:aP G s x= .ad (.v (.int k a)))(aA:aP G s y= .ad (.v (.int a8 b)))(h:Mz op k a8=true)(hn:Gk op b):
 cY P G o s (.ad (.v (.int k (dw op k a b)))):=by
 cases op<;>simp only[Mz,Bool.false_eq_true,decide_eq_true_eq]at h
 case add=>subst h;exact qy _ cJ ty x y au hx aA (by simp[j0,dw])
 case sub=>subst h;exact qy _ cJ ty x y au hx aA (by simp[j0,dw])
 case mul=>subst h;exact qy _ cJ ty x y au hx aA (by simp[j0,dw])
 case quo=>subst h;exact qy _ cJ ty x y au hx aA (by have: ¬b=0:=hn;simp[j0,dw,this])
 case rem=>subst h;exact qy _ cJ ty x y au hx aA (by have: ¬b=0:=hn;simp[j0,dw,this])
 case and=>subst h;exact y7 cJ ty x y au hx aA fun w=>by simp[binOp,Op.intBits,dw,aK.l0]
 case or=>subst h;exact y7 cJ ty x y au hx aA fun w=>by simp[binOp,Op.intBits,dw,aK.k6]
 case xor=>subst h;exact y7 cJ ty x y au hx aA fun w=>by simp[binOp,Op.intBits,dw,aK.iO]
 case shl=>exact qy _ cJ ty x y au hx aA (by have hn:0≤b:=hn;have: ¬b<0:=(by omega);simp[j0,dw,this])
 case shr=>exact qy _ cJ ty x y au hx aA (by have hn:0≤b:=hn;have: ¬b<0:=(by omega);simp[j0,dw,this])
theorem zeg{op:BinOp}{cJ ty:TypeId}{x y:Operand}{k:IntKind}{a b:Int}(au:o.op= .binOp op cJ x y ty)(hx:aP G s x= .ad (.v (.int k a)))(aA:aP G s y= .ad (.v (.int k b)))(h:zk op=true):
 cY P G o s (.ad (.v (.bool (Cu op a b)))):=by
 cases op<;>simp only[zk,Bool.false_eq_true]at h
 all_goals exact qy _ cJ ty x y au hx aA (by simp[j0,FX,Cu])
theorem zeh{op:BinOp}{cJ ty:TypeId}{x y:Operand}{a b:ByteArray}(au:o.op= .binOp op cJ x y ty)(hx:aP G s x= .ad (.v (.string a)))(aA:aP G s y= .ad (.v (.string b)))(h:zk op=true):
 cY P G o s (.ad (.v (.bool (iS op a b)))):=by
 cases op<;>simp only[zk,Bool.false_eq_true]at h
 all_goals exact qy _ cJ ty x y au hx aA (by simp[j0,iS])
def CH(G:aR)(s:aQ)(o:Option Operand)(z:Option Int):Prop:=
 match o,z with
 |none,none=>True
 |some y,some z=>∃k,aP G s y= .ad (.v (.int k z))
 |_,_=>False
theorem T1(i:bX)(ls:List (hg i)){t:TypeId}{x:Operand}{lo hi:Option Operand}{qQ nb:Option Int}(au:o.op= .slice t x lo hi none)(aJ:kS P t=some (du i))(hx:aP G s x= .ad (.li i ls))(aD:CH G s lo qQ)(bg:CH G s hi nb)
 (hn:sR ls.length qQ nb):nP P G o s (.ad (.li i (TQ ls qQ nb))):=by
 cases lo with
 |none=>
  cases qQ with
  |some _=>exact aD.elim
  |none=>
  cases hi with
  |none=>
   cases nb with
   |some _=>exact bg.elim
   |none=>
   have:=Gh i ls (l:=0) (h:=ls.length) au aJ hx (.inl ⟨rfl,rfl⟩) (.inl ⟨rfl,rfl⟩) (Nat.zero_le _) (Nat.le_refl _)
   rw[List.take_length,List.drop_zero]at this;exact this
  |some y=>
   cases nb with
   |none=>exact bg.elim
   |some h=>
   obtain⟨k,aA⟩:=bg
   have hn:0≤h∧h≤(ls.length:Int):=hn
   obtain⟨n,rfl⟩: ∃n:Nat,h=(n:Int):=⟨h.toNat,by omega⟩
   have:=Gh i ls (l:=0) (h:=n) au aJ hx (.inl ⟨rfl,rfl⟩) (.inr ⟨y,k,rfl,aA⟩) (Nat.zero_le _) (by omega)
   rw[List.drop_zero]at this;exact this
 |some y=>
  cases qQ with
  |none=>exact aD.elim
  |some a=>
  obtain⟨k,aA⟩:=aD
  cases hi with
  |none=>
   cases nb with
   |some _=>exact bg.elim
   |none=>
   have hn:0≤a∧a≤(ls.length:Int):=hn
   obtain⟨n,rfl⟩: ∃n:Nat,a=(n:Int):=⟨a.toNat,by omega⟩
   have:=Gh i ls (l:=n) (h:=ls.length) au aJ hx (.inr ⟨y,k,rfl,aA⟩) (.inl ⟨rfl,rfl⟩) (by omega) (Nat.le_refl _)
   rw[List.take_length]at this;exact this
  |some tl=>
   cases nb with
   |none=>exact bg.elim
   |some h=>
   obtain⟨ha,MA⟩:=bg
   have hn:0≤a∧a≤h∧h≤(ls.length:Int):=hn
   obtain⟨n,rfl⟩: ∃n:Nat,a=(n:Int):=⟨a.toNat,by omega⟩
   obtain⟨m,rfl⟩: ∃n:Nat,h=(n:Int):=⟨h.toNat,by omega⟩
   exact Gh i ls (l:=n) (h:=m) au aJ hx (.inr ⟨y,k,rfl,aA⟩) (.inr ⟨tl,ha,rfl,MA⟩) (by omega) (by omega)
theorem zei(b:ByteArray){t:TypeId}{x:Operand}{lo hi:Option Operand}{qQ nb:Option Int}(au:o.op= .slice t x lo hi none)(aJ:P.underlying t=some .string)(hx:aP G s x= .ad (.v (.string b)))(aD:CH G s lo qQ)(bg:CH G s hi nb)
 (hn:sR b.size qQ nb):cY P G o s (.ad (.v (.string (wu b qQ nb)))):=by
 cases lo with
 |none=>
  cases qQ with
  |some _=>exact aD.elim
  |none=>
  cases hi with
  |none=>
   cases nb with
   |some _=>exact bg.elim
   |none=>exact AP t x none none au aJ hx (l:=0) (h:=b.size) (.inl ⟨rfl,rfl⟩) (.inl ⟨rfl,rfl⟩) (Nat.zero_le _) (Nat.le_refl _)
  |some y=>
   cases nb with
   |none=>exact bg.elim
   |some h=>
   obtain⟨k,aA⟩:=bg
   have hn:0≤h∧h≤(b.size:Int):=hn
   obtain⟨n,rfl⟩: ∃n:Nat,h=(n:Int):=⟨h.toNat,by omega⟩
   exact AP t x none _ au aJ hx (l:=0) (h:=n) (.inl ⟨rfl,rfl⟩) (.inr ⟨y,k,rfl,aA⟩) (Nat.zero_le _) (by omega)
 |some y=>
  cases qQ with
  |none=>exact aD.elim
  |some a=>
  obtain⟨k,aA⟩:=aD
  cases hi with
  |none=>
   cases nb with
   |some _=>exact bg.elim
   |none=>
   have hn:0≤a∧a≤(b.size:Int):=hn
   obtain⟨n,rfl⟩: ∃n:Nat,a=(n:Int):=⟨a.toNat,by omega⟩
   exact AP t x _ none au aJ hx (l:=n) (h:=b.size) (.inr ⟨y,k,rfl,aA⟩) (.inl ⟨rfl,rfl⟩) (by omega) (Nat.le_refl _)
  |some tl=>
   cases nb with
   |none=>exact bg.elim
   |some h=>
   obtain⟨ha,MA⟩:=bg
   have hn:0≤a∧a≤h∧h≤(b.size:Int):=hn
   obtain⟨n,rfl⟩: ∃n:Nat,a=(n:Int):=⟨a.toNat,by omega⟩
   obtain⟨m,rfl⟩: ∃n:Nat,h=(n:Int):=⟨h.toNat,by omega⟩
   exact AP t x _ _ au aJ hx (l:=n) (h:=m) (.inr ⟨y,k,rfl,aA⟩) (.inr ⟨tl,ha,rfl,MA⟩) (by omega) (by omega)
end
def Gu(P:Program)(t:TypeId):Option aX:=
 match P.underlying t with
 |some (.int k)=>some (.int k)
 |some .bool=>some .bool
 |some .string=>some .str
 |_=>none
def qR(P:Program):Nat→Nat→List Field→Option (List aX)
 |0,_,_=>none
 |_+1,_,[]=>some []
 |d+1,k,f::fs=>
  if f.name= "_" ||f.offset != k then none
  else match np P f.type with
   |some gs=>match P.info? f.type with
    |some inf=>match qR P d 0 gs,qR P d (k+inf.size) fs with
     |some a,some b=>match Nat.beq a.length inf.size with
      |true=>some (a++b)
      |false=>none
     |_,_=>none
    |none=>none
   |none=>match Gu P f.type with
    |some r=>match qR P d (k+1) fs with
     |some l=>some (r::l)
     |none=>none
    |none=>none
def u5:(r:aX)→r.den→Value
 | .int k,n=>.int k n
 | .bool,b=>.bool b
 | .str,x=>.string x
 |_,_=>undef
def aX.cmp:aX→Bool
 | .int _=>true
 | .bool=>true
 | .str=>true
 |_=>false
def CI(d:aL):Value:=u5 d.r d.v
def oO:List aL→List aL→Bool
 |d::ds,c::cs=>th d.r d.v (c.aI d.r)&&oO ds cs
 |_,_=>true
theorem zej{P:Program}{t:TypeId}{r:aX}(h:Gu P t=some r)(x y:r.den):s5 P t (u5 r x)=true∧oD (u5 r x) (u5 r y)=some (th r x y):=by
 unfold Gu at h
 split at h
 ·rename_i k hu;cases h;simp[u5,s5,hu,oD,th]
 ·rename_i hu;cases h;simp[u5,s5,hu,oD,th]
 ·rename_i hu;cases h;simp[u5,s5,hu,oD,th]
 ·cases h
theorem T2: ∀{a c:List aL} (b d:List aL),a.length=c.length→oO (a++b) (c++d)=(oO a c&&oO b d)
 |[],[],_,_,_=>by simp[oO]
 |x::a,y::c,b,d,h=>by
  simp only[List.cons_append,oO,T2 (a:=a) (c:=c) b d (by simpa using h),Bool.and_assoc]
 |[],_::_,_,_,h=>by cases h
 |_::_,[],_,_,h=>by cases h
theorem Gv{P:Program}: ∀(d k:Nat) (fs:List Field) (rs:List aX),qR P d k fs=some rs→∀(aI cE:List aL),aI.map aL.r=rs→cE.map aL.r=rs→rL P d k fs (aI.map CI) (cE.map CI)=some (oO aI cE)
 |0,_,_,_,h,_,_,_,_=>by cases h
 |d+1,k,[],rs,h,aI,cE,a6,ag=>by
  simp only[qR,Option.some.injEq]at h;subst h
  cases nO a6
  cases nO ag
  rfl
 |d+1,k,f::fs,rs,h,aI,cE,a6,ag=>by
  simp only[qR]at h;simp only[rL]
  split at h
  ·cases h
  ·rename_i hc
   rw[if_neg hc]
   cases ao:np P f.type with
   |some gs=>
    rw[ao]at h;simp only at h⊢
    cases hi:P.info? f.type with
    |none=>rw[hi]at h;cases h
    |some inf=>
     rw[hi]at h;simp only at h⊢
     split at h
     ·rename_i u v ab ae
      split at h
      ·rename_i av
       simp only[Option.some.injEq]at h;subst h
       have av:=Nat.eq_of_beq_eq_true av
       have T3:(aI.take inf.size).map aL.r=u:=by rw[List.map_take,a6,←av,List.take_left]
       have zek:(aI.drop inf.size).map aL.r=v:=by rw[List.map_drop,a6,←av,List.drop_left]
       have tb:(cE.take inf.size).map aL.r=u:=by rw[List.map_take,ag,←av,List.take_left]
       have zel:(cE.drop inf.size).map aL.r=v:=by rw[List.map_drop,ag,←av,List.drop_left]
       rw[←List.map_take,←List.map_take,←List.map_drop,←List.map_drop,Gv d 0 gs u ab _ _ T3 tb,Gv d _ fs v ae _ _ zek zel];simp only[Option.some.injEq];rw[←T2 _ _ (by have ab:=congrArg List.length T3;have ae:=congrArg List.length tb;simp only[List.length_map]at ab ae;omega),List.take_append_drop,List.take_append_drop]
      ·cases h
     ·cases h
   |none=>
    rw[ao]at h;simp only at h⊢
    split at h
    ·rename_i r ah
     split at h
     ·rename_i l av
      simp only[Option.some.injEq]at h;subst h;obtain⟨a,zj9,rfl,T4,w1⟩:=m7 a6;obtain⟨b,zka,rfl,ir,rQ⟩:=m7 ag;obtain⟨zkb,bs⟩:=a;obtain⟨bl,wq⟩:=b;simp only at T4 ir;subst T4;subst ir;obtain⟨g1,g2⟩:=zej ah bs wq;simp only[List.map_cons,CI,g1,g2,if_true,oO,c3];rw[Gv d _ fs l av _ _ w1 rQ]
     ·cases h
    ·cases h
theorem Gw{P:Program}: ∀(d k:Nat) (fs:List Field) (rs:List aX),qR P d k fs=some rs→∀r∈rs,r.cmp=true
 |0,_,_,_,h,_,_=>by cases h
 |d+1,k,[],rs,h,r,ah=>by
  simp only[qR,Option.some.injEq]at h;subst h;cases ah
 |d+1,k,f::fs,rs,h,r,ah=>by
  simp only[qR]at h
  split at h
  ·cases h
  ·cases ao:np P f.type with
   |some gs=>
    rw[ao]at h;simp only at h
    cases hi:P.info? f.type with
    |none=>rw[hi]at h;cases h
    |some inf=>
     rw[hi]at h;simp only at h
     split at h
     ·rename_i u v ab ae
      split at h
      ·simp only[Option.some.injEq]at h
       subst h
       rcases List.mem_append.1 ah with q|q
       ·exact Gw d 0 gs u ab r q
       ·exact Gw d _ fs v ae r q
      ·cases h
     ·cases h
   |none=>
    rw[ao]at h;simp only at h
    split at h
    ·rename_i eG dF
     split at h
     ·rename_i l av
      simp only[Option.some.injEq]at h;subst h
      rcases List.mem_cons.1 ah with rfl|q
      ·unfold Gu at dF
       split at dF<;>first|(cases dF;rfl)|cases dF
      ·exact Gw d _ fs l av r q
     ·cases h
    ·cases h
theorem zem{r:aX}(h:r.cmp=true)(x:r.den):gr r x= .v (u5 r x):=by
 cases r<;>first|rfl|cases h
theorem CJ{G:aR}{e:Env}: ∀{rs:List aX} {l:List af},iA rs l=true→(∀r∈rs,r.cmp=true)→hZ (af.b0 G e l)=some ((gO e rs l).map CI)
 |[],[],_,_=>rfl
 |[],_::_,h,_=>by cases h
 |_::_,[],h,_=>by cases h
 |r::rs,x::xs,h,hc=>by
  simp only[iA,Bool.and_eq_true]at h
  have ab:x.den G e= .ad (gr r (x.aN e r)):=za h.1 (by have:=hc r (by simp);cases r<;>first|rfl|cases this)
  simp only[af.b0,gO,ab,zem (hc r (by simp)),hZ,CJ h.2 fun r ah=>hc r (by simp[ah]),List.map_cons,CI]
theorem T5{e:Env}: ∀{rs:List aX} {l m:List af},iA rs l=true→iA rs m=true→l2 e rs l m=oO (gO e rs l) (gO e rs m)
 |[],[],[],_,_=>rfl
 |[],_::_,_,h,_=>by cases h
 |[],[],_::_,_,h=>by cases h
 |_::_,[],_,h,_=>by cases h
 |_::_,_::_,[],_,h=>by cases h
 |[r],[x],[y],_,_=>by simp[l2,gO,oO,c3]
 |[r],x::ly::xs,_::_,h,_=>by simp[iA]at h
 |[r],[x],y::sH::ys,_,h=>by simp[iA]at h
 |r::s::rs,x::xs,y::ys,h,h'=>by
  simp only[iA,Bool.and_eq_true]at h h'
  have:=T5 (e:=e) (rs:=s::rs) (l:=xs) (m:=ys) h.2 h'.2
  cases xs with
  |nil=>simp[iA]at h
  |cons ly xs=>
   cases ys with
   |nil=>simp[iA]at h'
   |cons sH ys=>
    have aw:oO (gO e (r::s::rs) (x::ly::xs)) (gO e (r::s::rs) (y::sH::ys))=(th r (x.aN e r) (y.aN e r)&&oO (gO e (s::rs) (ly::xs)) (gO e (s::rs) (sH::ys))):=by
     simp only[gO,oO,c3]
    rw[aw,←this];simp only[l2]
    cases th r (x.aN e r) (y.aN e r)<;>rfl
section
variable {P:Program} {G:aR} {o:Oper} {N B:Nat} {e:Env} {S:ay}
theorem T6(hf: ∀c∈S.g,c.ok e){n:Bool}{op:BinOp}(CK:op=bif n then .neq else .eql){cJ ty:TypeId}{x y:Operand}(au:o.op= .binOp op cJ x y ty){fs:List Field}{rs:List aX}(h:np P cJ=some fs)(ah:qR P 64 0 fs=some rs){l m:List af}(hx:S.a1 N x= .cA l)(aA:S.a1 N y= .cA m)
 (av:iA rs l=true)(hm:iA rs m=true):cY P G o (S.den G N B e) (.ad (.v (.bool (bif n then !l2 e rs l m else l2 e rs l m)))):=by
 have hc:=Gw 64 0 fs rs ah
 have iM:aP G (S.den G N B e) x= .agg (af.b0 G e l):=by rw[bR hf,hx];rfl
 have nS:aP G (S.den G N B e) y= .agg (af.b0 G e m):=by rw[bR hf,aA];rfl
 have ag:=Gv 64 0 fs rs ah _ _ (Cr G e av).1 (Cr G e hm).1
 rw[←T5 av hm]at ag
 cases n with
 |true=>
  subst CK;exact SO cJ ty x y au h iM nS (CJ av hc) (CJ hm hc) ag
 |false=>
  subst CK;exact SN cJ ty x y au h iM nS (CJ av hc) (CJ hm hc) ag
end
end Go.aK
