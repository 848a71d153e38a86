/- Conditions: none. -/
import Derived.Test.YtddeffoppnlafaaGreatJTDa
open Bool renaming and_eq_true->zZr,false_eq_true->zWh,false_or->zWm,not_eq_true'->zZb,or_eq_true->zZg
open ByteArray renaming append->zYx,data->zWp,size->zZ6
open Iff renaming rfl->zWn
open Int renaming toNat->zZ9
open List renaming drop_left->zWb,drop_zero->zWf,ext_getElem?->zZy,length->zZ5,map_cons->zXq,map_drop->zWc,map_take->zWe,mem_cons->zZf,take_append_drop->zWa,take_left->zWd,take_length->zWg
open Nat renaming beq->zZu,blt->zZs,eq_of_beq_eq_true->zWi,le_max_left->zWk,le_max_right->zWj,le_refl->zZv,lt_of_lt_of_le->zZw,max->zWl,zero_add->zZ0,zero_le->zXx
open Option.some renaming injEq->zYt
open Sum renaming elim->zZ7,map->zWo
namespace Go.aH
open Go
inductive cx where
 |rh
 |la (c:bZ)
 |rR (k bl:IntKind)
 |qk
 |Fb (k:IntKind)
 |y6 (k:IntKind)
 |cM
 |da
 deriving DecidableEq
@[reducible] def cx.a:cx->a6
 | .rh=>.str| .la c=>.li c| .rR k _=>.int k| .qk=>.bool| .Fb k=>.int k| .y6 k=>.int k| .cM=>.li .u8| .da=>.str
@[reducible] def cx.c:cx->a6
 | .rh=>.int .i64| .la _=>.int .i64| .rR _ bl=>.int bl| .qk=>.bool| .Fb k=>.int k| .y6 k=>.int k| .cM=>.str| .da=>.li .u8
def cx.den:(f:cx)->f.a.den->f.c.den
 | .rh,x=>(zZ6 x:Int)| .la _,x=>(zZ5 x:Int)| .rR _ bl,x=>bl.wrap x| .qk,x=>!x| .Fb k,x=>k.wrap (0-x)| .y6 k,x=>jK k (if k.signed then -1 else k.max) x
 | .cM,x=>bytesOf x| .da,x=>(zWp x).toList.map λu=>(u.toNat:Int)
def a1(op:BinOp)(k:IntKind)(a b:Int):Int:=
 match op with
 | .add=>k.wrap (a+b)| .sub=>k.wrap (a-b)| .mul=>k.wrap (a*b)| .quo=>k.wrap (a.tdiv b)| .rem=>a.tmod b| .shl=>k.wrap (a*2^(min b.toNat k.bits))| .shr=>a.fdiv (2^(min b.toNat k.bits))| .and=>np k a b| .or=>ml k a b| .xor=>jK k a b|_=>0
def Jx(op:BinOp)(b:Int):Prop:=
 match op with
 | .quo=>b≠0| .rem=>b≠0| .shl=>0<=b| .shr=>0<=b|_=>True
def Fc(op:BinOp)(a b:Int):Bool:=
 match op with
 | .eql=>a==b| .neq=>a != b| .lss=>decide (a<b)| .leq=>decide (a<=b)| .gtr=>decide (a>b)|_=>decide (a>=b)
def gp(op:BinOp)(a b:ByteArray):Bool:=
 match op with
 | .eql=>gv a b| .neq=>!gv a b| .lss=>vl a b| .leq=>vl a b||gv a b
 | .gtr=>!(vl a b||gv a b)
 |_=>!vl a b
inductive gy where
 |lK (op:BinOp) (k bl:IntKind)
 |ss (op:BinOp) (k:IntKind)
 |BO (op:BinOp)
 |qO (n:Bool)
 |xl
 |BP (k:IntKind)
 |mx (k:IntKind)
 |mR (c:bZ) (k:IntKind)
 |vv (k:IntKind)
 |ap (c:bZ)
 |Fe
 |Ff
 |Fg
 |Fh
 |BQ
 deriving DecidableEq
@[reducible] def gy.a:gy->a6
 | .lK _ k _=>.int k| .ss _ k=>.int k| .BO _=>.str| .qO _=>.bool| .xl=>.str| .BP k=>.int k| .mx k=>.int k| .mR c _=>.li c| .vv _=>.str| .ap c=>.li c| .Fe=>.str| .Ff=>.str| .Fg=>.str| .Fh=>.str| .BQ=>.str
@[reducible] def gy.b:gy->a6
 | .lK _ _ bl=>.int bl| .ss _ k=>.int k| .BO _=>.str| .qO _=>.bool| .xl=>.str| .BP k=>.int k| .mx k=>.int k| .mR _ k=>.int k| .vv k=>.int k| .ap c=>.li c| .Fe=>.int .i64| .Ff=>.int .i64| .Fg=>.int .i64| .Fh=>.int .i64| .BQ=>.int .u8
@[reducible] def gy.c:gy->a6
 | .lK _ k _=>.int k| .ss _ _=>.bool| .BO _=>.bool| .qO _=>.bool| .xl=>.str| .BP k=>.int k| .mx k=>.int k| .mR c _=>.st c| .vv _=>.int .u8| .ap c=>.li c| .Fe=>.bool| .Ff=>.int .i64| .Fg=>.int .i32| .Fh=>.int .i64| .BQ=>.int .i64
def Az(b:ByteArray)(c:Int):Int:=
 match(List.range b.size).find? λi=>b[i]! ==c.toNat.toUInt8 with
 |some i=>(i:Int)|none=> -1
def gy.den:(f:gy)->f.a.den->f.b.den->f.c.den
 | .lK op k _,x,y=>a1 op k x y| .ss op _,x,y=>Fc op x y| .BO op,x,y=>gp op x y| .qO n,x,y=>bif n then !(x==y)else x==y| .xl,x,y=>zYx x y| .BP _,x,y=>if y<x then y else x
 | .mx _,x,y=>if y>x then y else x
 | .mR c _,x,y=>List.getD x (zZ9 y) (aZ c)| .vv _,x,y=>oI x y| .ap _,x,y=>List.append x y| .Fe,x,y=>decide (zZ9 y<zZ6 x)| .Ff,_,y=>(zZ9 y:Int)| .Fg,x,y=>((Utf8.decode x (zZ9 y)).1:Int)| .BQ,x,y=>Az x y| .Fh,x,y=>((zZ9 y+(Utf8.decode x (zZ9 y)).2:Nat):Int)
def gy.BR(bytes:Nat):(f:gy)->f.a.den->f.b.den->Prop
 | .lK op _ _,_,y=>Jx op y| .xl,x,y=>zZ6 x+zZ6 y<=9223372036854775807| .mR _ _,x,y=>0<=y/\y<(zZ5 x:Int)| .vv _,x,y=>0<=y/\y<(zZ6 x:Int)| .ap _,x,y=>zZ5 x+zZ5 y<=maxLen/\(zZ5 x+zZ5 y)*bytes<=140737488355328|_,_,_=>True
@[reducible] def gi:List a6->a6
 |[]=>.un|[r]=>r|r::s::l=>.E2 r (gi (s::l))
def cr:(rs:List a6)->List aK->(gi rs).den
 |[],_=>()|[r],d::_=>d.aI r|[r],[]=>r.gL|r::s::l,d::ds=>(d.aI r,cr (s::l) ds)|r::s::l,[]=>(r.gL,cr (s::l) [])
def eH:(rs:List a6)->(gi rs).den->List aK
 |[],_=>[]|[r],x=>[⟨r,x⟩]|r::s::l,x=>⟨r,x.1⟩::eH (s::l) x.2
structure bs where
 ps:List a6
 rs:List a6
 pre:Option ((gi ps).den->Prop)
 m:(gi ps).den->(gi rs).den
def bs.d:bs:=⟨[],[],none,λx=>x⟩
def fQ{α:Type _}(d:α):List α->Nat->α
 |[],_=>d|x::r,n=>match zZu n 0 with
  |true=>x|false=>fQ d r (Nat.sub n 1)
def iA(e:Env):List a6->List ag->List aK
 |r::rs,x::xs=>⟨r,x.get e r⟩::iA e rs xs|_,_=>[]
inductive cf where
 |su (r:a6) (x:ag)
 |f1 (f:cx) (x:ag)
 |f2 (f:gy) (x y:ag)
 |fC (c:bZ) (x:ag) (lo hi:Option ag)
 |sv (x:ag) (lo hi:Option ag)
 |Jy (r:a6) (g x y:ag)
 |Fi (n:Bool) (rs:List a6) (l m:List ag)
 |ri (c:bZ) (rows:List ag)
 |up (c:bZ) (l i x:ag)
 |nth (r:a6) (l:List ag) (i:ag)
 |cD (c:bZ) (x:ag)
 |Jz (k v:a6)
 |JA (k v:a6) (m x y:ag)
 |BS (k v:a6) (m x:ag)
 |zp (k v:a6) (m x:ag)
 |ca (j:Nat) (aI:List ag)
 |vw (rs:List a6) (p i:Nat)
def rj(e:Env):Option ag->Option Int
 |none=>none|some x=>some (cQ (x.dyn e))
def XE{α:Type}(l:List α):Option Int->Option Int->List α
 |none,none=>l|some a,none=>l.drop a.toNat
 |none,some h=>l.take h.toNat
 |some a,some h=>(l.take h.toNat).drop a.toNat
def yC(b:ByteArray):Option Int->Option Int->ByteArray
 |none,none=>b.extract 0 b.size|some a,none=>b.extract a.toNat b.size|none,some h=>b.extract 0 h.toNat
 |some a,some h=>b.extract a.toNat h.toNat
def u2(n:Nat):Option Int->Option Int->Prop
 |none,none=>True|some a,none=>0<=a/\a<=(n:Int)|none,some h=>0<=h/\h<=(n:Int)|some a,some h=>0<=a/\a<=h/\h<=(n:Int)
def vx:(r:a6)->r.den->r.den->Bool
 | .int _,x,y=>(show Int from x)==y
 | .bool,x,y=>(show Bool from x)==y
 | .str,x,y=>gv x y|_,_,_=>false
def nr(e:Env):List a6->List ag->List ag->Bool
 |[r],[x],[y]=>vx r (x.aL e r) (y.aL e r)|r::rs,x::xs,y::ys=>bif vx r (x.aL e r) (y.aL e r)then nr e rs xs ys else false|_,_,_=>true
def pA(e:Env)(c:bZ):List ag->List (hY c)
 |[]=>[]|x::r=>x.get e (.st c)::pA e c r
def xm(e:Env)(r:a6):List ag->Nat->r.den
 |[],_=>r.gL|[x],_=>x.aL e r|x::l,n=>bif zZu n 0 then x.aL e r else xm e r l (n-1)
def Fj{V:Type}:(k:a6)->List (k.den × V)->k.den->Option V
 | .int _,l,x=>tW (K:=Int) l x| .str,l,x=>tW (K:=ByteArray) l x|_,_,_=>none
def JB{V:Type}:(k:a6)->List (k.den × V)->k.den->V->List (k.den × V)
 | .int _,l,x,v=>sq (K:=Int) l x v| .str,l,x,v=>sq (K:=ByteArray) l x v|_,l,_,_=>l
def cf.den(M:List bs)(e:Env):cf->aK
 | .su r x=>⟨r,x.get e r⟩| .f1 f x=>⟨f.c,f.den (x.aL e f.a)⟩| .f2 f x y=>⟨f.c,f.den (x.aL e f.a) (y.aL e f.b)⟩| .fC c x lo hi=>⟨.li c,XE (x.aL e (.li c)) (rj e lo) (rj e hi)⟩| .sv x lo hi=>⟨.str,yC (x.aL e .str) (rj e lo) (rj e hi)⟩| .Jy r g x y=>⟨r,bif g.aL e .bool then x.get e r else y.get e r⟩| .Fi n rs l m=>⟨.bool,bif n then !nr e rs l m else nr e rs l m⟩| .ri c rows=>⟨.li c,pA e c rows⟩| .up c l i x=>⟨.li c,List.set (l.aL e (.li c)) (cQ (i.dyn e)).toNat (x.get e (.st c))⟩| .nth r l i=>⟨r,xm e r l (cQ (i.dyn e)).toNat⟩| .cD c x=>⟨.li c,List.replicate (zZ9 (x.aL e (.int .i64))) (aZ c)⟩| .Jz k v=>⟨.mp k v,([]:List (k.den × v.den))⟩| .JA k v m x y=>⟨.mp k v,JB k (m.aL e (.mp k v)) (x.aL e k) (y.get e v)⟩| .BS k v m x=>⟨.bool,(Fj k (show List (k.den × v.den)from m.aL e (.mp k v)) (x.aL e k)).isSome⟩
 | .zp k v m x=>⟨v,(Fj k (show List (k.den × v.den)from m.aL e (.mp k v)) (x.aL e k)).getD v.gL⟩
 | .ca j aI=>⟨gi (fQ bs.d M j).rs,(fQ bs.d M j).m (cr _ (iA e (fQ bs.d M j).ps aI))⟩| .vw rs p i=>fQ aK.d (eH rs ((Env.at e p).aI (gi rs))) i
inductive hj where
 |f2 (bytes:Nat) (f:gy) (x y:ag)
 |fC (c:bZ) (x:ag) (lo hi:Option ag)
 |sv (x:ag) (lo hi:Option ag)
 |up (c:bZ) (l i:ag)
 |nth (n:Nat) (i:ag)
 |mk (bytes:Nat) (x y:ag)
 |ca (j:Nat) (aI:List ag)
 |XF (g:ag) (b:Bool) (n:hj)
def p3{α:Type}(p:Option (α->Prop))(x:α):Prop:=
 match p with
 |none=>True|some q=>q x
def hj.ok(M:List bs)(e:Env):hj->Prop
 | .f2 n f x y=>f.BR n (x.aL e f.a) (y.aL e f.b)| .fC c x lo hi=>u2 (zZ5 (x.aL e (.li c))) (rj e lo) (rj e hi)| .sv x lo hi=>u2 (zZ6 (x.aL e .str)) (rj e lo) (rj e hi)| .up c l i=>0<=cQ (i.dyn e)/\cQ (i.dyn e)<(zZ5 (l.aL e (.li c)):Int)| .nth n i=>0<=cQ (i.dyn e)/\cQ (i.dyn e)<(n:Int)| .mk n x y=>0<=x.aL e (.int .i64)/\x.aL e (.int .i64)<=y.aL e (.int .i64)/\y.aL e (.int .i64)<=(maxLen:Int)/\(n:Int)*y.aL e (.int .i64)<=281474976710656| .ca j aI=>p3 (fQ bs.d M j).pre (cr _ (iA e (fQ bs.d M j).ps aI))| .XF g b n=>g.aL e .bool=b->n.ok M e
inductive xn where
 |st
 |mp (k v:a6)
 deriving DecidableEq
@[reducible] def xn.rt:xn->a6
 | .st=>.int .i64| .mp k v=>.mp k v
def xn.den:(q:xn)->ByteArray->q.rt.den->Bn
 | .st,s,p=>tl s (zZ9 p)| .mp k v,_,l=>lz v.agg (h0 (n6 k) (kI v) l)
inductive b1 where
 |dQ (t:TypeId) (l:List ag)
 |rw (t:TypeId) (c:bZ) (x:ag)
 |it (q:xn) (x p:ag)
def b1.den(G:aV)(e:Env):b1->ey
 | .dQ t l=>.box t (ag.cc G e l)| .rw t c x=>.row false t (dE c) (List.map (dr c) (x.aL e (.li c)))| .it q x p=>.bW (q.den (x.aL e .str) (p.aL e q.rt))
def di(G:aV)(e:Env):List (Nat × b1)->bK
 |[]=>[]|(i,o)::r=>(i,o.den G e)::di G e r
def dG:List (Nat × b1)->Nat->Option b1
 |[],_=>none|(i,o)::r,k=>match zZu i k with
  |true=>some o|false=>dG r k
def lL:List (Nat × b1)->Nat->b1->List (Nat × b1)
 |[],k,x=>[(k,x)]|(i,o)::r,k,x=>match zZu i k with
  |true=>(i,x)::r|false=>(i,o)::lL r k x
inductive cv where
 |d1 (i:Nat) (f:cx) (x:ag)
 |d2 (i:Nat) (f:gy) (x y:ag)
 |rg (i:Nat) (b:ag)
 |fb (g:ag) (b:Bool)
def cv.ok(e:Env):cv->Prop
 | .d1 i f x=>Env.at e i=⟨f.c,f.den (x.aL e f.a)⟩| .d2 i f x y=>Env.at e i=⟨f.c,f.den (x.aL e f.a) (y.aL e f.b)⟩| .rg i b=>0<=cQ (Env.at e i)/\cQ (Env.at e i)<cQ (b.dyn e)| .fb g b=>g.aL e .bool=b
structure ax where
 l:bn ag
 h:List (Nat × b1)
 n:Nat
 k:Nat
 g:List cv
def ax.at(S:ax)(i:Nat):ag:=
 match S.l.get i with
 |some x=>x|none=>.top
def lb(G:aV)(e:Env)(l:bn ag):Nat->Nat->List aC
 |_,0=>[]|i,n+1=>(match l.get i with|some x=>x.den G e|none=>.top)::lb G e l (i+1) n
def ax.den(G:aV)(N B:Nat)(e:Env)(S:ax):aS:=⟨lb G e S.l 0 N,di G e S.h,S.n,B⟩
inductive e8 where
 |slot (i:Nat) (p:List Nat)
 |box (id off:Nat) (p:List Nat)
 |row (id:Nat)
 |nt (p:e8)
def ag.nt:ag->ag
 | .fi _ _=>.cs (.bool true)| .cs (.pointer none)=>.cs (.bool false)| .gC (.bE .bool i) _ _=>.bE .bool i|_=>.top
def ag.sub:ag->List Nat->ag
 |x,[]=>x| .cH l,i::p=>(fQ .top l i).sub p| .tp l,i::p=>(fQ .top l i).sub p|_,_::_=>.top
def e8.dR(S:ax):e8->ag
 | .slot i p=>(S.at i).sub p| .box id off p=>match dG S.h id with
  |some (.dQ _ l)=>(fQ .top l off).sub p|_=>.top
 | .row id=>match dG S.h id with
  |some (.rw _ _ x)=>x|some (.it _ _ p)=>p|_=>.top
 | .nt p=>(p.dR S).nt
inductive cm where
 |cp
 |ext (n:Nat)
 |ret
 |n8 (n:Nat)
def cm.b9(n:Nat):cm->Bool
 | .n8 m=>zZu m n|_=>false
def cm.dw(n:Nat):cm->Bool
 | .ext m=>zZu m n|_=>false
structure jG where
 i:Nat
 r:a6
 x:ag
 p:e8
inductive aG where
 |db (x:cm) (S:ax)
 |lt (i:Nat) (x:cf) (t:aG)
 |fF (n:hj) (t:aG)
 |it (g:ag) (a b:aG)
 |eB (n:Nat) (a:aG) (ps:List (Nat × a6 × e8)) (k:aG)
 |fc (m xid:Nat) (dM:cf) (cn:Nat) (ca:List jG) (a k:aG)
 |fG (m xid:Nat) (ca:List jG) (a k:aG)
 |bad (n:Nat)
def aG.gM:aG->(cm->Bool)->Bool
 | .db x _,f=>f x| .lt _ _ t,f=>t.gM f| .fF _ t,f=>t.gM f| .it _ a b,f=>a.gM f&&b.gM f| .eB n a _ k,f=>a.gM (λx=>x.b9 n||f x)&&k.gM f
 | .fc m xid _ _ _ a k,f=>a.gM (λx=>x.b9 m||(x.dw xid||f x))&&k.gM f
 | .fG m xid _ a k,f=>a.gM (λx=>x.b9 m||(x.dw xid||f x))&&k.gM f
 | .bad _,_=>false
def aG.lM(t:aG)(n:Nat):Bool:=t.gM (cm.b9 n)
def vy:List jG->List a6
 |[]=>[]|a::l=>a.r::vy l
def ew(e:Env):List jG->List aK
 |[]=>[]|a::l=>⟨a.r,a.x.get e a.r⟩::ew e l
def fS(S:ax)(e:Env):List jG->List aK
 |[]=>[]|a::l=>⟨a.r,(a.p.dR S).get e a.r⟩::fS S e l
def vz(e:Env):List jG->List aK->Env
 |a::l,d::ds=>vz (bn.put e a.i d) l ds|_,_=>e
abbrev cd(ca:List jG):Type:=(gi (vy ca)).den
def bD(e:Env)(ca:List jG)(v:cd ca):Env:=vz e ca (eH (vy ca) v)
def gN(e:Env)(f:a6->e8->aK):List (Nat × a6 × e8)->Env
 |[]=>e|(i,r,p)::l=>gN (bn.put e i (f r p)) f l
def c5:Nat:=18446744073709551616
def fj{X:Type}(m xid:Nat)(ca:List jG)(K:cm->ax->Env->X)(x:cm)(S:ax)(e:Env):Step X (cd ca):=
 match x.b9 m with
 |true=>.bJ (cr _ (fS S e ca))|false=>match x.dw xid with
  |true=>.c4 (cr _ (fS S e ca))|false=>.ret (K x S e)
def aG.fold(M:List bs):aG->{X:Type}->Env->(cm->ax->Env->X)->X->X
  | .db x S,_,e,K,_=>K x S e| .lt i x t,_,e,K,d=>t.fold M (bn.put e i (x.den M e)) K d| .fF _ t,_,e,K,d=>t.fold M e K d| .it g a b,_,e,K,d=>bif g.aL e .bool then a.fold M e K d else b.fold M e K d| .eB n a ps k,_,e,K,d=>bif a.lM n
    then k.fold M (gN e (λr p=>⟨r,a.fold M e (λ_ S aD=>(p.dR S).get aD r) r.gL⟩) ps) K d
    else bif a.fold M e (λx _ _=>x.b9 n) false
      then k.fold M (gN e (λr p=>⟨r,a.fold M e (λx S aD=>bif x.b9 n then(p.dR S).get aD r else r.gL) r.gL⟩) ps) K d
      else a.fold M e K d
  | .fc m xid dM cn ca a k,X,e,K,d=>zZ7 (λr=>r) (λv=>k.fold M (bD e ca v) K d) (bI (λi (v:cd ca)=>bif a.lM m
        then(.bJ (a.fold M (bD (bn.put e cn ⟨.int .i64,(i:Int)⟩) ca v) (λ_ S aD=>cr _ (fS S aD ca)) v):Step X (cd ca))
        else a.fold M (bD (bn.put e cn ⟨.int .i64,(i:Int)⟩) ca v) (fj m xid ca K) (.c4 v)) 0 (cQ (dM.den M e)).toNat (cr _ (ew e ca)))
  | .fG m xid ca a k,X,e,K,d=>zZ7 (λr=>r) (λv=>k.fold M (bD e ca v) K d) (dk (λv=>(a.fold M (bD e ca v) (fj m xid ca K) (.c4 v):Step X (cd ca))) c5 (cr _ (ew e ca)))
  | .bad _,_,_,_,d=>d
def aG.safe(M:List bs):aG->Env->Prop
  | .db _ _,_=>True| .lt i x t,e=>t.safe M (bn.put e i (x.den M e))| .fF n t,e=>n.ok M e/\t.safe M e| .it g a b,e=>(g.aL e .bool=true->a.safe M e)/\(g.aL e .bool=false->b.safe M e)
  | .eB n a ps k,e=>a.safe M e/\(a.fold M e (λx _ _=>x.b9 n) false=true->k.safe M (gN e (λr p=>⟨r,bif a.lM n
      then a.fold M e (λ_ S aD=>(p.dR S).get aD r) r.gL
      else a.fold M e (λx S aD=>bif x.b9 n then(p.dR S).get aD r else r.gL) r.gL⟩) ps))
  | .fc m xid dM cn ca a k,e=>(∃I:Nat->cd ca->Prop,I 0 (cr _ (ew e ca))/\∀(i:Nat) (v:cd ca),i<(cQ (dM.den M e)).toNat->I i v->
      a.safe M (bD (bn.put e cn ⟨.int .i64,(i:Int)⟩) ca v)/\∀bC,a.fold M (bD (bn.put e cn ⟨.int .i64,(i:Int)⟩) ca v) (fj m xid ca λ_ _ _=>()) (.c4 v)= .bJ bC->I (i+1) bC)/\
      zZ7 (λ_=>True) (λv=>k.safe M (bD e ca v)) (bI (λi (v:cd ca)=>a.fold M (bD (bn.put e cn ⟨.int .i64,(i:Int)⟩) ca v) (fj m xid ca λ_ _ _=>()) (.c4 v)) 0 (cQ (dM.den M e)).toNat (cr _ (ew e ca)))
  | .fG m xid ca a k,e=>(∃I:cd ca->Prop,I (cr _ (ew e ca))/\∀(v:cd ca),I v->
      a.safe M (bD e ca v)/\∀bC,a.fold M (bD e ca v) (fj m xid ca λ_ _ _=>()) (.c4 v)= .bJ bC->I bC)/\
      mQ (λv=>(a.fold M (bD e ca v) (fj m xid ca λ_ _ _=>()) (.c4 v):Step Unit (cd ca))) c5 (cr _ (ew e ca))/\
      zZ7 (λ_=>True) (λv=>k.safe M (bD e ca v)) (dk (λv=>(a.fold M (bD e ca v) (fj m xid ca λ_ _ _=>()) (.c4 v):Step Unit (cd ca))) c5 (cr _ (ew e ca)))
  | .bad _,_=>False
def aG.clean:aG->Bool
 | .db _ _=>true| .lt _ _ t=>t.clean| .fF _ _=>false| .it _ a b=>a.clean&&b.clean| .eB _ a _ k=>a.clean&&k.clean| .fc _ _ _ _ _ a k=>a.clean&&k.clean| .fG _ _ _ _ _=>false| .bad _=>false
theorem vA(M:List bs): ∀{t:aG} {e:Env},t.clean=true->t.safe M e
 | .db _ _,_,_=>trivial| .lt _ _ t,_,h=>vA M (t:=t) h| .fF _ _,_,h=>by cases h
 | .it _ a b,_,h=>by
  simp only[aG.clean,zZr]at h;exact⟨λ_=>vA M h.1,λ_=>vA M h.2⟩
 | .eB _ a _ k,_,h=>by
  simp only[aG.clean,zZr]at h;exact⟨vA M h.1,λ_=>vA M h.2⟩
 | .fc _ _ _ _ _ a k,_,h=>by
  simp only[aG.clean,zZr]at h;refine⟨⟨λ_ _=>True,trivial,λ_ _ _ _=>⟨vA M h.1,λ_ _=>trivial⟩⟩,?_⟩;generalize bI _ _ _ _=L
  cases L with
  |inl r=>trivial|inr v=>exact vA M h.2
 | .fG _ _ _ _ _,_,h=>by cases h
 | .bad _,_,h=>by cases h
end Go.aH
namespace Go.aH
open Go
def kh{R A X:Type}(f:R->X):Step R A->Step X A
 | .ret r=>.ret (f r)| .c4 a=>.c4 a| .bJ a=>.bJ a
theorem zq{R A X:Type}(f:R->X){b:Nat->A->Step R A}{c:Nat->A->Step X A}(h: ∀i a,c i a=kh f (b i a)): ∀(m k:Nat) (a:A),bI c k m a=zWo f id (bI b k m a)
 |0,_,_=>rfl|m+1,k,a=>by
  simp only[bI,h]
  cases b k a with
  |ret r=>rfl|c4 a=>rfl|bJ a=>exact zq f h m (k+1) a
theorem BT{R A X:Type}(f:R->X){b:A->Step R A}{c:A->Step X A}(h: ∀a,c a=kh f (b a)): ∀(m:Nat) (a:A),dk c m a=zWo f id (dk b m a)
 |0,_=>rfl|m+1,a=>by
  simp only[dk,h]
  cases b a with
  |ret r=>rfl|c4 a=>rfl|bJ a=>exact BT f h m a
theorem OH{R A X:Type}(f:R->X){b:A->Step R A}{c:A->Step X A}(h: ∀a,c a=kh f (b a)): ∀(m:Nat) (a:A),mQ c m a↔mQ b m a
 |0,_=>zWn|m+1,a=>by
  simp only[mQ,h]
  cases b a with
  |ret r=>exact zWn|c4 a=>exact zWn|bJ a=>exact OH f h m a
theorem BU{X Y:Type}(g:X->Y)(m xid:Nat)(ca:List jG)(K:cm->ax->Env->X)(x:cm)(S:ax)(e:Env):kh g (fj m xid ca K x S e)=fj m xid ca (λx S e=>g (K x S e)) x S e:=by
 unfold fj
 split
 ·rfl
 ·split<;>rfl
section
variable {X:Type} {m xid:Nat} {ca:List jG} {K:cm->ax->Env->X} {x:cm} {S:ax} {e:Env}
theorem rk(h:x.b9 m=true):fj m xid ca K x S e= .bJ (cr _ (fS S e ca)):=by unfold fj;rw[h]
theorem rm(h:x.b9 m=false)(h':x.dw xid=true):fj m xid ca K x S e= .c4 (cr _ (fS S e ca)):=by unfold fj;rw[h,h']
theorem mS(h:x.b9 m=false)(h':x.dw xid=false):fj m xid ca K x S e= .ret (K x S e):=by unfold fj;rw[h,h']
end
section
variable {M:List bs}
theorem fold_map: ∀(t:aG) {X Y:Type} (g:X->Y) (e:Env) (K:cm->ax->Env->X) (d:X),g (t.fold M e K d)=t.fold M e (λx S aD=>g (K x S aD)) (g d)
  | .db _ _,_,_,_,_,_,_=>rfl| .lt _ _ t,_,_,g,_,K,d=>fold_map t g _ K d| .fF _ t,_,_,g,_,K,d=>fold_map t g _ K d| .it c a b,_,_,g,e,K,d=>by
    simp only[aG.fold]
    cases c.aL e .bool with
    |true=>exact fold_map a g e K d|false=>exact fold_map b g e K d
  | .eB n a ps k,_,_,g,e,K,d=>by
    simp only[aG.fold]
    cases a.lM n with
    |true=>exact fold_map k g _ K d|false=>cases a.fold M e (λx _ _=>x.b9 n) false with
      |true=>exact fold_map k g _ K d|false=>exact fold_map a g e K d
  | .fc m xid dM cn ca a k,X,Y,g,e,K,d=>by
    simp only[aG.fold]
    rw[zq g (c:=λi (v:cd ca)=>bif a.lM m
        then(.bJ (a.fold M (bD (bn.put e cn ⟨.int .i64,(i:Int)⟩) ca v) (λ_ S aD=>cr _ (fS S aD ca)) v):Step Y (cd ca))
        else a.fold M (bD (bn.put e cn ⟨.int .i64,(i:Int)⟩) ca v) (fj m xid ca λx S e=>g (K x S e)) (.c4 v))
      (b:=λi (v:cd ca)=>bif a.lM m
        then(.bJ (a.fold M (bD (bn.put e cn ⟨.int .i64,(i:Int)⟩) ca v) (λ_ S aD=>cr _ (fS S aD ca)) v):Step X (cd ca))
        else a.fold M (bD (bn.put e cn ⟨.int .i64,(i:Int)⟩) ca v) (fj m xid ca K) (.c4 v))
      (λi v=>by
        cases a.lM m with
        |true=>rfl|false=>
          simp only[cond_false];rw[fold_map a (kh g)];simp only[BU]
          rfl)]
    generalize bI _ _ _ _=L
    cases L with
    |inl r=>rfl|inr v=>exact fold_map k g _ K d
  | .fG m xid ca a k,X,Y,g,e,K,d=>by
    simp only[aG.fold]
    rw[BT g (c:=λ(v:cd ca)=>a.fold M (bD e ca v) (fj m xid ca λx S e=>g (K x S e)) (.c4 v))
      (b:=λ(v:cd ca)=>a.fold M (bD e ca v) (fj m xid ca K) (.c4 v))
      (λv=>by
        rw[fold_map a (kh g)];simp only[BU]
        rfl)]
    generalize dk _ _ _=L
    cases L with
    |inl r=>rfl|inr v=>exact fold_map k g _ K d
  | .bad _,_,_,_,_,_,_=>rfl
abbrev ql:=cm × ax × Env
def run(M:List bs)(t:aG)(e:Env):Option ql:=t.fold M e (λx S aD=>some (x,S,aD)) none
theorem mT{t:aG}{e aD:Env}{x:cm}{S:ax}(h:run M t e=some (x,S,aD)){X:Type}(K:cm->ax->Env->X)(d:X):t.fold M e K d=K x S aD:=by
 have:=fold_map (M:=M) t (λ(o:Option ql)=>match o with|some (x,S,aD)=>K x S aD|none=>d) e (λx S aD=>some (x,S,aD)) none
 simp only at this;rw[<-this];unfold run at h;rw[h]
theorem Fk{t:aG}{e:Env}(h:run M t e=none){X:Type}(K:cm->ax->Env->X)(d:X):t.fold M e K d=d:=by
 have:=fold_map (M:=M) t (λ(o:Option ql)=>match o with|some (x,S,aD)=>K x S aD|none=>d) e (λx S aD=>some (x,S,aD)) none
 simp only at this;rw[<-this];unfold run at h;rw[h]
def dN(M:List bs)(m xid:Nat)(ca:List jG)(a:aG)(e:Env)(v:cd ca):Step (Option ql) (cd ca):=
 match run M a e with
 |some (x,S,aD)=>fj m xid ca (λx S e=>some (x,S,e)) x S aD
 |none=>.c4 v
theorem BV(m xid:Nat)(ca:List jG)(a:aG)(e:Env)(v:cd ca):a.fold M e (fj m xid ca λx S e=>some (x,S,e)) (.c4 v)=dN M m xid ca a e v:=by
 unfold dN
 split
 ·rename_i x S aD h
  exact mT h _ _
 ·rename_i h
  exact Fk h _ _
theorem XG{m xid cn:Nat}{dM:cf}{ca:List jG}{a k:aG}{e:Env}{X:Type}(K:cm->ax->Env->X)(d:X)(h:a.lM m=true->∀e,∃x S aD,run M a e=some (x,S,aD)/\x.b9 m=true):
 (aG.fc m xid dM cn ca a k).fold M e K d=zZ7 (λr=>r) (λv=>k.fold M (bD e ca v) K d) (bI (λi (v:cd ca)=>a.fold M (bD (bn.put e cn ⟨.int .i64,(i:Int)⟩) ca v) (fj m xid ca K) (.c4 v)) 0 (cQ (dM.den M e)).toNat (cr _ (ew e ca))):=by
 simp only[aG.fold]
 cases aj:a.lM m with
 |false=>rfl|true=>
  have:(λ(i:Nat) (v:cd ca)=>(.bJ (a.fold M (bD (bn.put e cn ⟨.int .i64,(i:Int)⟩) ca v) (λ_ S aD=>cr _ (fS S aD ca)) v):Step X (cd ca)))=λ(i:Nat) (v:cd ca)=>a.fold M (bD (bn.put e cn ⟨.int .i64,(i:Int)⟩) ca v) (fj m xid ca K) (.c4 v):=by
   funext i v
   obtain⟨x,S,aD,aa,ae⟩:=h aj (bD (bn.put e cn ⟨.int .i64,(i:Int)⟩) ca v);simp only[mT aa,fj,ae]
  simp only[cond_true];rw[this]
theorem mq: ∀{t:aG} {f:cm->Bool} {e:Env},t.gM f=true->∃x S aD,run M t e=some (x,S,aD)/\f x=true
 | .db x S,_,e,h=>⟨x,S,e,rfl,h⟩| .lt _ _ t,_,_,h=>mq (t:=t) h| .fF _ t,_,_,h=>mq (t:=t) h| .it c a b,f,e,h=>by
  simp only[aG.gM,zZr]at h;simp only[run,aG.fold]
  cases c.aL e .bool with
  |true=>exact mq (t:=a) h.1|false=>exact mq (t:=b) h.2
 | .eB n a ps k,f,e,h=>by
  simp only[aG.gM,zZr]at h;obtain⟨x,S,aD,aa,ae⟩:=mq (t:=a) (e:=e) h.1;simp only[run,aG.fold]
  cases a.lM n with
  |true=>exact mq (t:=k) h.2|false=>
   rw[mT aa]
   cases hx:x.b9 n with
   |true=>exact mq (t:=k) h.2|false=>
    rw[hx,zWm]at ae;exact⟨x,S,aD,aa,ae⟩
 | .fc m xid dM cn ca a k,f,e,h=>by
  simp only[aG.gM,zZr]at h
  have key: ∀(n i:Nat) (v:cd ca),(∃bC,bI (λi (v:cd ca)=>a.fold M (bD (bn.put e cn ⟨.int .i64,(i:Int)⟩) ca v) (fj m xid ca λx S e=>some (x,S,e)) (.c4 v)) i n v= .inr bC)\/
   ∃x S aD,bI (λi (v:cd ca)=>a.fold M (bD (bn.put e cn ⟨.int .i64,(i:Int)⟩) ca v) (fj m xid ca λx S e=>some (x,S,e)) (.c4 v)) i n v= .inl (some (x,S,aD))/\f x=true:=by
   intro n
   induction n with
   |zero=>exact λi v=>.inl ⟨v,rfl⟩
   |succ n bb=>
    intro i v;obtain⟨x,S,aD,aa,ae⟩:=mq (t:=a) (e:=bD (bn.put e cn ⟨.int .i64,(i:Int)⟩) ca v) h.1;simp only[bI,mT aa]
    cases hx:x.b9 m with
    |true=>
     rw[rk hx];exact bb (i+1) _
    |false=>
     cases aA:x.dw xid with
     |true=>
      rw[rm hx aA];exact .inl ⟨_,rfl⟩
     |false=>
      rw[mS hx aA];rw[hx,aA,zWm,zWm]at ae;exact .inr ⟨x,S,aD,rfl,ae⟩
  unfold run;rw[XG _ _ λaj e=>mq (t:=a) (e:=e) aj]
  rcases key (cQ (dM.den M e)).toNat 0 (cr _ (ew e ca))with⟨bC,az⟩|⟨x,S,aD,az,hf⟩
  ·rw[az];exact mq (t:=k) h.2
  ·rw[az];exact⟨x,S,aD,rfl,hf⟩
 | .fG m xid ca a k,f,e,h=>by
  simp only[aG.gM,zZr]at h
  have key: ∀(n:Nat) (v:cd ca),(∃bC,dk (λ(v:cd ca)=>(a.fold M (bD e ca v) (fj m xid ca λx S e=>some (x,S,e)) (.c4 v):Step (Option ql) (cd ca))) n v= .inr bC)\/
   ∃x S aD,dk (λ(v:cd ca)=>(a.fold M (bD e ca v) (fj m xid ca λx S e=>some (x,S,e)) (.c4 v):Step (Option ql) (cd ca))) n v= .inl (some (x,S,aD))/\f x=true:=by
   intro n
   induction n with
   |zero=>exact λv=>.inl ⟨v,rfl⟩
   |succ n bb=>
    intro v;simp only[dk];obtain⟨x,S,aD,aa,ae⟩:=mq (t:=a) (e:=bD e ca v) h.1;rw[mT aa]
    cases hx:x.b9 m with
    |true=>
     rw[rk hx];exact bb _
    |false=>
     cases aA:x.dw xid with
     |true=>
      rw[rm hx aA];exact .inl ⟨_,rfl⟩
     |false=>
      rw[mS hx aA];rw[hx,aA,zWm,zWm]at ae;exact .inr ⟨x,S,aD,rfl,ae⟩
  simp only[run,aG.fold]
  rcases key c5 (cr _ (ew e ca))with⟨bC,az⟩|⟨x,S,aD,az,hf⟩
  ·rw[az];exact mq (t:=k) h.2
  ·rw[az];exact⟨x,S,aD,rfl,hf⟩
 | .bad _,_,_,h=>by cases h
theorem tZ{n:Nat}{a k:aG}{ps:List (Nat × a6 × e8)}{e aE:Env}{x:cm}{aM:ax}(h:run M a e=some (x,aM,aE))(hx:x.b9 n=true){X:Type}(K:cm->ax->Env->X)(d:X):
 (aG.eB n a ps k).fold M e K d=k.fold M (gN e (λr p=>⟨r,(p.dR aM).get aE r⟩) ps) K d:=by
 simp only[aG.fold]
 cases a.lM n with
 |true=>simp only[mT h,cond_true]|false=>simp only[mT h,hx,cond_true,cond_false]
theorem qm{n:Nat}{a k:aG}{ps:List (Nat × a6 × e8)}{e aE:Env}{x:cm}{aM:ax}(h:run M a e=some (x,aM,aE))(hx:x.b9 n=false){X:Type}(K:cm->ax->Env->X)(d:X):
 (aG.eB n a ps k).fold M e K d=K x aM aE:=by
 simp only[aG.fold]
 cases aj:a.lM n with
 |true=>
  obtain⟨mm,bV,aD,aa,ae⟩:=mq (M:=M) (t:=a) (e:=e) aj;rw[aa]at h;cases h;rw[hx]at ae;cases ae
 |false=>simp only[mT h,hx,cond_false]
theorem xo{n:Nat}{a k:aG}{ps:List (Nat × a6 × e8)}{e:Env}(h:run M a e=none){X:Type}(K:cm->ax->Env->X)(d:X):
 (aG.eB n a ps k).fold M e K d=d:=by
 simp only[aG.fold]
 cases aj:a.lM n with
 |true=>
  obtain⟨mm,bV,aD,aa,ae⟩:=mq (M:=M) (t:=a) (e:=e) aj;rw[aa]at h;cases h
 |false=>simp only[Fk h,cond_false]
theorem XH{n:Nat}{a k:aG}{ps:List (Nat × a6 × e8)}{e aE:Env}{x:cm}{aM:ax}(ao:(aG.eB n a ps k).safe M e)(h:run M a e=some (x,aM,aE))(hx:x.b9 n=true):
 k.safe M (gN e (λr p=>⟨r,(p.dR aM).get aE r⟩) ps):=by
 have aa:=ao.2 (by rw[mT h];exact hx)
 have ae:(λ(r:a6) (p:e8)=>(⟨r,bif a.lM n
  then a.fold M e (λ_ S aD=>(p.dR S).get aD r) r.gL
  else a.fold M e (λx S aD=>bif x.b9 n then(p.dR S).get aD r else r.gL) r.gL⟩:aK))=λr p=>⟨r,(p.dR aM).get aE r⟩:=by
  funext r p
  simp only[mT h,hx]
  cases a.lM n<;>rfl
 rw[ae]at aa;exact aa
theorem BW{m xid cn:Nat}{dM:cf}{ca:List jG}{a k:aG}{e:Env}{X:Type}(K:cm->ax->Env->X)(d:X):
 (aG.fc m xid dM cn ca a k).fold M e K d=zZ7 (λr=>r) (λv=>k.fold M (bD e ca v) K d) (bI (λi (v:cd ca)=>a.fold M (bD (bn.put e cn ⟨.int .i64,(i:Int)⟩) ca v) (fj m xid ca K) (.c4 v)) 0 (cQ (dM.den M e)).toNat (cr _ (ew e ca))):=XG K d λaj _=>mq aj
end
end Go.aH
namespace Go.aH
open Go
def aG.rel:aG->(cm->cm)->aG
 | .db x S,f=>.db (f x) S| .lt i x t,f=>.lt i x (t.rel f)| .fF n t,f=>.fF n (t.rel f)| .it c a b,f=>.it c (a.rel f) (b.rel f)| .eB n a ps k,f=>.eB n (a.rel λx=>bif x.b9 n then x else f x) ps (k.rel f)
 | .fc m xid dM cn ca a k,f=>.fc m xid dM cn ca (a.rel λx=>bif x.b9 m||x.dw xid then x else f x) (k.rel f)
 | .fG m xid ca a k,f=>.fG m xid ca (a.rel λx=>bif x.b9 m||x.dw xid then x else f x) (k.rel f)
 | .bad n,_=>.bad n
def aG.kJ:aG->(cm->cm)->Prop
 | .db _ _,_=>True| .lt _ _ t,f=>t.kJ f| .fF _ t,f=>t.kJ f| .it _ a b,f=>a.kJ f/\b.kJ f| .eB n a _ k,f=>(∀x,x.b9 n=false->(f x).b9 n=false)/\(a.kJ λx=>bif x.b9 n then x else f x)/\k.kJ f
 | .fc m xid _ _ _ a k,f=>(∀x,x.b9 m=false->x.dw xid=false->(f x).b9 m=false/\(f x).dw xid=false)/\(a.kJ λx=>bif x.b9 m||x.dw xid then x else f x)/\k.kJ f
 | .fG m xid _ a k,f=>(∀x,x.b9 m=false->x.dw xid=false->(f x).b9 m=false/\(f x).dw xid=false)/\(a.kJ λx=>bif x.b9 m||x.dw xid then x else f x)/\k.kJ f
 | .bad _,_=>True
section
variable {M:List bs}
theorem JC{X:Type}{m xid:Nat}{ca:List jG}{K:cm->ax->Env->X}{f:cm->cm}(h: ∀x,x.b9 m=false->x.dw xid=false->(f x).b9 m=false/\(f x).dw xid=false)(x:cm)(S:ax)(e:Env):
 fj m xid ca K (bif x.b9 m||x.dw xid then x else f x) S e=fj m xid ca (λx S e=>K (f x) S e) x S e:=by
 cases hx:x.b9 m with
 |true=>rw[Bool.true_or,cond_true,rk hx,rk hx]|false=>
  cases aA:x.dw xid with
  |true=>rw[zWm,cond_true,rm hx aA,rm hx aA]|false=>
   obtain⟨aa,ae⟩:=h x hx aA;rw[zWm,cond_false,mS hx aA,mS aa ae]
theorem OI: ∀{t:aG} {f g:cm->Bool},(∀x,f x=g x)->t.gM f=t.gM g:=λ{t f g} h=>by
 have:f=g:=funext h;rw[this]
theorem sw: ∀{t:aG} {f:cm->cm} {g:cm->Bool},t.kJ f->(t.rel f).gM g=t.gM λx=>g (f x)
 | .db _ _,_,_,_=>rfl| .lt _ _ t,_,_,h=>sw (t:=t) h| .fF _ t,_,_,h=>sw (t:=t) h| .it _ a b,f,g,h=>by simp only[aG.rel,aG.gM,sw (t:=a) h.1,sw (t:=b) h.2]| .eB n a ps k,f,g,h=>by
  simp only[aG.rel,aG.gM,sw (t:=a) h.2.1,sw (t:=k) h.2.2]
  congr 1
  refine OI λx=>?_
  cases hx:x.b9 n with
  |true=>simp[hx]|false=>simp[h.1 x hx]
 | .fc m xid dM cn ca a k,f,g,h=>by
  simp only[aG.rel,aG.gM,sw (t:=a) h.2.1,sw (t:=k) h.2.2]
  congr 1
  refine OI λx=>?_
  cases hx:x.b9 m with
  |true=>simp[hx]|false=>
   cases aA:x.dw xid with
   |true=>simp[aA]|false=>simp[(h.1 x hx aA).1,(h.1 x hx aA).2]
 | .fG m xid ca a k,f,g,h=>by
  simp only[aG.rel,aG.gM,sw (t:=a) h.2.1,sw (t:=k) h.2.2]
  congr 1
  refine OI λx=>?_
  cases hx:x.b9 m with
  |true=>simp[hx]|false=>
   cases aA:x.dw xid with
   |true=>simp[aA]|false=>simp[(h.1 x hx aA).1,(h.1 x hx aA).2]
 | .bad _,_,_,_=>rfl
theorem pB: ∀{t:aG} {f:cm->cm},t.kJ f->∀{X:Type} (e:Env) (K:cm->ax->Env->X) (d:X),(t.rel f).fold M e K d=t.fold M e (λx S aD=>K (f x) S aD) d
 | .db _ _,_,_,_,_,_,_=>rfl| .lt _ _ t,_,h,_,_,K,d=>pB (t:=t) h _ K d| .fF _ t,_,h,_,_,K,d=>pB (t:=t) h _ K d| .it c a b,f,h,_,e,K,d=>by
  simp only[aG.rel,aG.fold,pB (t:=a) h.1,pB (t:=b) h.2]
 | .eB n a ps k,f,h,_,e,K,d=>by
  have ah:run M (a.rel λx=>bif x.b9 n then x else f x) e=(run M a e).map λl=>(bif l.1.b9 n then l.1 else f l.1,l.2):=by
   unfold run;rw[pB (t:=a) h.2.1];rw[fold_map a (λo:Option ql=>o.map λl=>(bif l.1.b9 n then l.1 else f l.1,l.2))]
   rfl
  show(aG.eB n (a.rel λx=>bif x.b9 n then x else f x) ps (k.rel f)).fold M e K d=_
  cases cE:run M a e with
  |none=>rw[xo (by rw[ah,cE];rfl),xo cE]|some l=>
   obtain⟨x,aM,aE⟩:=l;have aa:run M (a.rel λx=>bif x.b9 n then x else f x) e=some (bif x.b9 n then x else f x,aM,aE):=by rw[ah,cE];rfl
   cases hx:x.b9 n with
   |true=>
    rw[hx,cond_true]at aa;rw[tZ aa hx,tZ cE hx];exact pB (t:=k) h.2.2 _ K d
   |false=>
    rw[hx,cond_false]at aa;rw[qm aa (h.1 x hx),qm cE hx]
 | .fc m xid dM cn ca a k,f,h,X,e,K,d=>by
  show(aG.fc m xid dM cn ca (a.rel λx=>bif x.b9 m||x.dw xid then x else f x) (k.rel f)).fold M e K d=_
  rw[BW,BW]
  have:(λ(i:Nat) (v:cd ca)=>(a.rel λx=>bif x.b9 m||x.dw xid then x else f x).fold M (bD (bn.put e cn ⟨.int .i64,(i:Int)⟩) ca v) (fj m xid ca K) (.c4 v))=λ(i:Nat) (v:cd ca)=>a.fold M (bD (bn.put e cn ⟨.int .i64,(i:Int)⟩) ca v) (fj m xid ca λx S aD=>K (f x) S aD) (.c4 v):=by
   funext i v
   rw[pB (t:=a) h.2.1];simp only[JC h.1]
  rw[this];generalize bI _ _ _ _=L
  cases L with
  |inl r=>rfl|inr v=>exact pB (t:=k) h.2.2 _ K d
 | .fG m xid ca a k,f,h,X,e,K,d=>by
  simp only[aG.rel,aG.fold]
  have:(λ(v:cd ca)=>(a.rel λx=>bif x.b9 m||x.dw xid then x else f x).fold M (bD e ca v) (fj m xid ca K) (.c4 v))=λ(v:cd ca)=>a.fold M (bD e ca v) (fj m xid ca λx S aD=>K (f x) S aD) (.c4 v):=by
   funext v
   rw[pB (t:=a) h.2.1];simp only[JC h.1]
  rw[this];generalize dk _ _ _=L
  cases L with
  |inl r=>rfl|inr v=>exact pB (t:=k) h.2.2 _ K d
 | .bad _,_,_,_,_,_,_=>rfl
theorem Fl{t:aG}{f:cm->cm}(h:t.kJ f)(e:Env):run M (t.rel f) e=(run M t e).map λl=>(f l.1,l.2):=by
 unfold run;rw[pB h,fold_map t (λo:Option ql=>o.map λl=>(f l.1,l.2))];rfl
theorem oR: ∀{t:aG} {f:cm->cm},t.kJ f->∀{e:Env},(t.rel f).safe M e↔t.safe M e
 | .db _ _,_,_,_=>zWn| .lt _ _ t,_,h,_=>oR (t:=t) h| .fF _ t,_,h,_=>by simp only[aG.rel,aG.safe,oR (t:=t) h]| .it c a b,f,h,e=>by simp only[aG.rel,aG.safe,oR (t:=a) h.1,oR (t:=b) h.2]| .eB n a ps k,f,h,e=>by
  have aj: ∀x,(bif cm.b9 n x then x else f x).b9 n=x.b9 n:=λx=>by
   cases hx:x.b9 n with
   |true=>exact hx|false=>exact h.1 x hx
  simp only[aG.rel,aG.safe,oR (t:=a) h.2.1,oR (t:=k) h.2.2,aG.lM,sw h.2.1,pB h.2.1,aj]
 | .fc m xid dM cn ca a k,f,h,e=>by
  simp only[aG.rel,aG.safe,oR (t:=a) h.2.1,oR (t:=k) h.2.2,pB h.2.1,JC h.1]
 | .fG m xid ca a k,f,h,e=>by
  simp only[aG.rel,aG.safe,oR (t:=a) h.2.1,oR (t:=k) h.2.2,pB h.2.1,JC h.1]
 | .bad _,_,_,_=>zWn
end
def aG.lvl:aG->Nat
 | .lt _ _ t=>t.lvl| .fF _ t=>t.lvl| .it _ a b=>zWl a.lvl b.lvl| .eB n a _ k=>zWl n (zWl a.lvl k.lvl)| .fc m _ _ _ _ a k=>zWl m (zWl a.lvl k.lvl)| .fG m _ _ a k=>zWl m (zWl a.lvl k.lvl)|_=>0
def hk(n:Nat):cm->cm
 | .cp=>.n8 n|x=>x
def sx(i:Nat):cm->cm
 | .ext m=>match zZu m i with
  |true=>.cp|false=>.ext m
 |x=>x
theorem ziq(i n:Nat)(x:cm)(h:x.b9 n=false):(sx i x).b9 n=false:=by
 unfold sx
 split
 ·split
  ·rfl
  ·exact h
 ·exact h
theorem zir(i n:Nat)(x:cm)(h:x.dw n=false):(sx i x).dw n=false:=by
 unfold sx
 split
 ·split
  ·rfl
  ·exact h
 ·exact h
theorem zis(i n:Nat)(hn:i≠n)(x:cm)(h:x.b9 n=false):(hk i x).b9 n=false:=by
 unfold hk
 split
 ·show zZu i n=false
  rw[tY];exact decide_eq_false hn
 ·exact h
theorem zit(i n:Nat)(x:cm)(h:x.dw n=false):(hk i x).dw n=false:=by
 unfold hk
 split
 ·rfl
 ·exact h
theorem qn: ∀{t:aG} {f:cm->cm} (N:Nat),t.lvl<N->(∀n,n<N->∀x,x.b9 n=false->(f x).b9 n=false)->(∀n x,x.dw n=false->(f x).dw n=false)->t.kJ f
 | .db _ _,_,_,_,_,_=>trivial| .lt _ _ t,_,N,au,aa,ae=>qn (t:=t) N au aa ae| .fF _ t,_,N,au,aa,ae=>qn (t:=t) N au aa ae| .it _ a b,f,N,au,aa,ae=>by
  have au:zWl a.lvl b.lvl<N:=au;have g1:a.lvl<=zWl a.lvl b.lvl:=zWk _ _;have g2:b.lvl<=zWl a.lvl b.lvl:=zWj _ _;exact⟨qn (t:=a) N (by omega) aa ae,qn (t:=b) N (by omega) aa ae⟩
 | .eB n a _ k,f,N,au,aa,ae=>by
  have au:zWl n (zWl a.lvl k.lvl)<N:=au;have g0:n<=zWl n (zWl a.lvl k.lvl):=zWk _ _;have g3:zWl a.lvl k.lvl<=zWl n (zWl a.lvl k.lvl):=zWj _ _;have g1:a.lvl<=zWl a.lvl k.lvl:=zWk _ _;have g2:k.lvl<=zWl a.lvl k.lvl:=zWj _ _;refine⟨aa n (by omega),qn (t:=a) N (by omega) (λp ar x hx=>?_) (λp x hx=>?_),qn (t:=k) N (by omega) aa ae⟩
  ·cases x.b9 n with
   |true=>exact hx|false=>exact aa p ar x hx
  ·cases x.b9 n with
   |true=>exact hx|false=>exact ae p x hx
 | .fc m xid _ _ _ a k,f,N,au,aa,ae=>by
  have au:zWl m (zWl a.lvl k.lvl)<N:=au;have g0:m<=zWl m (zWl a.lvl k.lvl):=zWk _ _;have g3:zWl a.lvl k.lvl<=zWl m (zWl a.lvl k.lvl):=zWj _ _;have g1:a.lvl<=zWl a.lvl k.lvl:=zWk _ _;have g2:k.lvl<=zWl a.lvl k.lvl:=zWj _ _;refine⟨λx hx aA=>⟨aa m (by omega) x hx,ae xid x aA⟩,qn (t:=a) N (by omega) (λp ar x hx=>?_) (λp x hx=>?_),qn (t:=k) N (by omega) aa ae⟩
  ·cases x.b9 m||x.dw xid with
   |true=>exact hx|false=>exact aa p ar x hx
  ·cases x.b9 m||x.dw xid with
   |true=>exact hx|false=>exact ae p x hx
 | .fG m xid _ a k,f,N,au,aa,ae=>by
  have au:zWl m (zWl a.lvl k.lvl)<N:=au;have g0:m<=zWl m (zWl a.lvl k.lvl):=zWk _ _;have g3:zWl a.lvl k.lvl<=zWl m (zWl a.lvl k.lvl):=zWj _ _;have g1:a.lvl<=zWl a.lvl k.lvl:=zWk _ _;have g2:k.lvl<=zWl a.lvl k.lvl:=zWj _ _;refine⟨λx hx aA=>⟨aa m (by omega) x hx,ae xid x aA⟩,qn (t:=a) N (by omega) (λp ar x hx=>?_) (λp x hx=>?_),qn (t:=k) N (by omega) aa ae⟩
  ·cases x.b9 m||x.dw xid with
   |true=>exact hx|false=>exact aa p ar x hx
  ·cases x.b9 m||x.dw xid with
   |true=>exact hx|false=>exact ae p x hx
 | .bad _,_,_,_,_,_=>trivial
theorem ziu(t:aG)(i:Nat):t.kJ (sx i):=qn (t.lvl+1) (Nat.lt_succ_self _) (λn _ x=>ziq i n x) (λn x=>zir i n x)
theorem OJ{t:aG}{n:Nat}(h:t.lvl<n):t.kJ (hk n):=qn n h (λm hm x=>zis n m (by omega) x) (λm x=>zit n m x)
def sy(o:Option (cm->Bool))(x:cm):Bool:=
 match o with
 |none=>true|some f=>f x
def aG.fe(f:ax->aG):aG->Option (cm->Bool)->aG
 | .db .cp S,none=>f S| .db .cp S,some o=>match(f S).gM o with
  |true=>f S|false=>.bad 9
 | .db x S,_=>.db x S| .lt i x t,o=>.lt i x (t.fe f o)| .fF n t,o=>.fF n (t.fe f o)| .it c a b,o=>.it c (a.fe f o) (b.fe f o)| .eB n a ps k,o=>.eB n (a.fe f (some λx=>!(x.b9 n)&&sy o x)) ps (k.fe f o)
 | .fc m xid dM cn ca a k,o=>.fc m xid dM cn ca (a.fe f (some λx=>!(x.b9 m)&&(!(x.dw xid)&&sy o x))) (k.fe f o)
 | .fG m xid ca a k,o=>.fG m xid ca (a.fe f (some λx=>!(x.b9 m)&&(!(x.dw xid)&&sy o x))) (k.fe f o)
 | .bad n,_=>.bad n
end Go.aH
namespace Go.aH
open Go
theorem Fm{R A:Type}{b c:Nat->A->Step R A}(I:Nat->A->Prop)(n:Nat)(h: ∀i v,i<n->I i v->c i v=b i v/\∀bC,b i v= .bJ bC->I (i+1) bC): ∀(m k:Nat) (a:A),k+m=n->I k a->bI c k m a=bI b k m a
 |0,_,_,_,_=>rfl|m+1,k,a,hn,hi=>by
  obtain⟨aa,ae⟩:=h k a (by omega) hi
  simp only[bI,aa]
  cases af:b k a with
  |ret r=>rfl|c4 a=>rfl|bJ v=>exact Fm I n h m (k+1) v (by omega) (ae v af)
theorem OK{R A:Type}{b c:A->Step R A}(I:A->Prop)(h: ∀v,I v->c v=b v/\∀bC,b v= .bJ bC->I bC): ∀(m:Nat) (a:A),I a->dk c m a=dk b m a/\(mQ c m a↔mQ b m a)
 |0,_,_=>⟨rfl,zWn⟩|m+1,a,hi=>by
  obtain⟨aa,ae⟩:=h a hi;simp only[dk,mQ,aa]
  cases af:b a with
  |ret r=>exact⟨rfl,zWn⟩|c4 a=>exact⟨rfl,zWn⟩|bJ v=>exact OK I h m v (ae v af)
def ki(M:List bs)(f:ax->aG)(o:Option ql):Option ql:=
 match o with
 |some (.cp,S,e)=>run M (f S) e|o=>o
section
variable {M:List bs} {f:ax->aG}
theorem Fo{x:cm}{S:ax}{e:Env}(h:x≠ .cp):ki M f (some (x,S,e))=some (x,S,e):=by
 unfold ki
 split
 ·rename_i hx;cases hx;exact absurd rfl h
 ·rfl
theorem ld(m xid:Nat)(ca:List jG)(a:aG)(e:Env)(v:cd ca):a.fold M e (fj m xid ca λ_ _ _=>()) (.c4 v)=kh (λ_=>()) (dN M m xid ca a e v):=by
 unfold dN
 split
 ·rename_i x S aD h
  rw[mT h,BU]
 ·rename_i h
  rw[Fk h];rfl
theorem xp{R A X:Type}{f:R->X}{s:Step R A}{v:A}(h:kh f s= .bJ v):s= .bJ v:=by
 cases s<;>simp_all[kh]
theorem XI{m xid:Nat}{ca:List jG}{a bo:aG}{e:Env}{v:cd ca}(h:run M bo e=ki M f (run M a e))(au: ∀S aD,run M a e=some (.cp,S,aD)->∃x aM aE,run M (f S) aD=some (x,aM,aE)/\x.b9 m=false/\x.dw xid=false):
 dN M m xid ca bo e v=kh (ki M f) (dN M m xid ca a e v):=by
 unfold dN;rw[h]
 cases ah:run M a e with
 |none=>rfl|some l=>
  obtain⟨x,S,aD⟩:=l
  cases x with
  |cp=>
   obtain⟨x,aM,aE,aa,ae,aw⟩:=au S aD ah;simp only[ki,aa];rw[mS ae aw,mS (x:=.cp) rfl rfl];simp only[kh,ki,aa]
  |ext n=>
   simp only[ki];rw[BU]
   cases hx:cm.dw xid (.ext n)with
   |true=>rw[rm rfl hx,rm rfl hx]|false=>rw[mS rfl hx,mS rfl hx];rfl
  |ret=>
   simp only[ki];rw[BU,mS rfl rfl,mS rfl rfl];rfl
  |n8 n=>
   simp only[ki];rw[BU]
   cases hx:cm.b9 m (.n8 n)with
   |true=>rw[rk hx,rk hx]|false=>rw[mS hx rfl,mS hx rfl];rfl
theorem qo: ∀{t:aG} {p q:cm->Bool},t.gM p=true->(∀x,p x=true->q x=true)->t.gM q=true
 | .db x _,_,_,h,aB=>aB x h| .lt _ _ t,_,_,h,aB=>qo (t:=t) h aB| .fF _ t,_,_,h,aB=>qo (t:=t) h aB| .it _ a b,_,_,h,aB=>by
  simp only[aG.gM,zZr]at h⊢;exact⟨qo h.1 aB,qo h.2 aB⟩
 | .eB n a _ k,_,_,h,aB=>by
  simp only[aG.gM,zZr]at h⊢;refine⟨qo h.1 λx hx=>?_,qo h.2 aB⟩;simp only[zZg]at hx⊢;exact hx.imp id (aB x)
 | .fc m xid _ _ _ a k,_,_,h,aB=>by
  simp only[aG.gM,zZr]at h⊢;refine⟨qo h.1 λx hx=>?_,qo h.2 aB⟩;simp only[zZg]at hx⊢;exact hx.imp id (Or.imp id (aB x))
 | .fG m xid _ a k,_,_,h,aB=>by
  simp only[aG.gM,zZr]at h⊢;refine⟨qo h.1 λx hx=>?_,qo h.2 aB⟩;simp only[zZg]at hx⊢;exact hx.imp id (Or.imp id (aB x))
 | .bad _,_,_,h,_=>by cases h
theorem kK: ∀(t:aG) (o:Option (cm->Bool)) {e:Env},(t.fe f o).safe M e->
    t.safe M e/\run M (t.fe f o) e=ki M f (run M t e)/\∀S aD,run M t e=some (.cp,S,aD)->(f S).safe M aD/\∀p,o=some p->(f S).gM p=true
  | .db x S,o,e,h=>by
    cases x with
    |cp=>
      cases o with
      |none=>exact⟨trivial,rfl,λbV aD ah=>by cases ah;exact⟨h,λ_ ar=>by cases ar⟩⟩
      |some p=>
        simp only[aG.fe]at h
        split at h
        · rename_i au
          have ai:(aG.db .cp S).fe f (some p)=f S:=by simp only[aG.fe,au]
          rw[ai];exact⟨trivial,rfl,λbV aD ah=>by cases ah;exact⟨h,λ_ ar=>by cases ar;exact au⟩⟩
        · exact h.elim
    |_=>exact⟨trivial,rfl,λbV aD ah=>by cases ah⟩
  | .lt i x t,o,_,h=>kK t o (e:=bn.put _ i _) h| .fF n t,o,e,h=>by
    obtain⟨aa,ae,aw⟩:=kK t o h.2;exact⟨⟨h.1,aa⟩,ae,aw⟩
  | .it c a b,o,e,h=>by
    have ba:=λhc=>kK a o (h.1 hc);have af:=λhc=>kK b o (h.2 hc);refine⟨⟨λhc=>(ba hc).1,λhc=>(af hc).1⟩,?_⟩;simp only[run,aG.fe,aG.fold]
    cases hc:c.aL e .bool with
    |true=>exact(ba hc).2|false=>exact(af hc).2
  | .eB n a ps k,o,e,h=>by
    obtain⟨cw,a2,a3⟩:=kK a _ h.1
    have ao:(aG.eB n a ps k).safe M e/\run M ((aG.eB n a ps k).fe f o) e=ki M f (run M (aG.eB n a ps k) e)/\∀S aD,run M (aG.eB n a ps k) e=some (.cp,S,aD)->(f S).safe M aD/\∀p,o=some p->(f S).gM p=true:=by
      show _/\run M (.eB n (a.fe f (some λx=>!(x.b9 n)&&sy o x)) ps (k.fe f o)) e=_/\_
      cases ah:run M a e with
      |none=>
        rw[ah]at a2;have a2:run M _ e=none:=a2;refine⟨⟨cw,λaj=>by rw[Fk ah]at aj;cases aj⟩,?_,λS aD aj=>by unfold run at aj;rw[xo ah]at aj;cases aj⟩
        unfold run;rw[xo a2,xo ah];rfl
      |some l=>
        obtain⟨x,aM,aE⟩:=l
        cases hx:x.b9 n with
        |true=>
          have b6:x≠ .cp:=λe=>by rw[e]at hx;cases hx
          rw[ah,Fo b6]at a2;have an:=XH h a2 hx;obtain⟨eG,eO,mL⟩:=kK k o an;refine⟨⟨cw,λ_=>?_⟩,?_,λS aD aj=>?_⟩
          · have:(λ(r:a6) (p:e8)=>(⟨r,bif a.lM n
      then a.fold M e (λ_ S aD=>(p.dR S).get aD r) r.gL
      else a.fold M e (λx S aD=>bif x.b9 n then(p.dR S).get aD r else r.gL) r.gL⟩:aK))=λr p=>⟨r,(p.dR aM).get aE r⟩:=by
              funext r p
              simp only[mT ah,hx]
              cases a.lM n<;>rfl
            rw[this];exact eG
          · unfold run
            rw[tZ a2 hx,tZ ah hx];exact eO
          · unfold run at aj
            rw[tZ ah hx]at aj;exact mL S aD aj
        |false=>
          have XJ:(aG.eB n a ps k).safe M e:=⟨cw,λaj=>by rw[mT ah,hx]at aj;cases aj⟩
          by_cases b6:x= .cp
          · subst b6
            obtain⟨f1,f2⟩:=a3 aM aE ah;have f2:=f2 _ rfl;obtain⟨y,dC,bc,g1,g2⟩:=mq (M:=M) (e:=aE) f2;simp only[zZr,zZb]at g2;rw[ah]at a2;have a2:run M _ e=run M (f aM) aE:=a2;rw[g1]at a2;refine⟨XJ,?_,λS aD aj=>?_⟩
            · have aa:run M (aG.eB n a ps k) e=some (.cp,aM,aE):=by unfold run;rw[qm ah hx]
              rw[aa];show _=run M (f aM) aE;rw[g1];unfold run;rw[qm a2 g2.1]
            · unfold run at aj
              rw[qm ah hx]at aj;cases aj;refine⟨f1,λp ar=>?_⟩;subst ar;exact qo f2 λx hx=>by simp only[zZr]at hx;exact hx.2
          · rw[ah,Fo b6]at a2
            refine⟨XJ,?_,λS aD aj=>?_⟩
            · unfold run
              rw[qm a2 hx,qm ah hx,Fo b6]
            · unfold run at aj
              rw[qm ah hx]at aj;cases aj;exact absurd rfl b6
    exact ao
  | .fc m xid dM cn ca a k,o,e,h=>by
    obtain⟨⟨I,i0,cO⟩,an⟩:=h
    have key: ∀(i:Nat) (v:cd ca),i<(cQ (dM.den M e)).toNat->I i v->a.safe M (bD (bn.put e cn ⟨.int .i64,(i:Int)⟩) ca v)/\
        dN M m xid ca (a.fe f (some λx=>!(x.b9 m)&&(!(x.dw xid)&&sy o x))) (bD (bn.put e cn ⟨.int .i64,(i:Int)⟩) ca v) v=kh (ki M f) (dN M m xid ca a (bD (bn.put e cn ⟨.int .i64,(i:Int)⟩) ca v) v)/\
        (∀bC,dN M m xid ca a (bD (bn.put e cn ⟨.int .i64,(i:Int)⟩) ca v) v= .bJ bC->I (i+1) bC)/\
        ∀S aD,dN M m xid ca a (bD (bn.put e cn ⟨.int .i64,(i:Int)⟩) ca v) v= .ret (some (.cp,S,aD))->(f S).safe M aD/\∀p,o=some p->(f S).gM p=true:=by
      intro i v hi az;obtain⟨s1,s2⟩:=cO i v hi az;obtain⟨cw,a2,a3⟩:=kK a _ s1
      have ai:=XI (m:=m) (xid:=xid) (ca:=ca) (v:=v) a2 λS aD ah=>by
        obtain⟨y,dC,bc,g1,g2⟩:=mq (M:=M) (e:=aD) ((a3 S aD ah).2 _ rfl);simp only[zZr,zZb]at g2;exact⟨y,dC,bc,g1,g2.1,g2.2.1⟩
      refine⟨cw,ai,λbC k7=>s2 bC ?_,λS aD ah=>?_⟩
      · rw[ld,ai,k7]
        rfl
      · unfold dN at ah
        cases l4:run M a (bD (bn.put e cn ⟨.int .i64,(i:Int)⟩) ca v)with
        |none=>rw[l4]at ah;cases ah
        |some l=>
          obtain⟨x,bV,E7⟩:=l;rw[l4]at ah;simp only at ah
          cases hx:x.b9 m with
          |true=>rw[rk hx]at ah;cases ah
          |false=>
            cases aA:x.dw xid with
            |true=>rw[rm hx aA]at ah;cases ah
            |false=>
              rw[mS hx aA]at ah;cases ah;obtain⟨f1,f2⟩:=a3 S aD l4;refine⟨f1,λp ar=>?_⟩;subst ar;exact qo (f2 _ rfl) λx hx=>by simp only[zZr]at hx;exact hx.2.2
    have xq:bI (λi (v:cd ca)=>(a.fe f (some λx=>!(x.b9 m)&&(!(x.dw xid)&&sy o x))).fold M (bD (bn.put e cn ⟨.int .i64,(i:Int)⟩) ca v) (fj m xid ca λ_ _ _=>()) (.c4 v)) 0 (cQ (dM.den M e)).toNat (cr _ (ew e ca))=
        bI (λi (v:cd ca)=>a.fold M (bD (bn.put e cn ⟨.int .i64,(i:Int)⟩) ca v) (fj m xid ca λ_ _ _=>()) (.c4 v)) 0 (cQ (dM.den M e)).toNat (cr _ (ew e ca)):=
      Fm I _ (λi v hi az=>by
        obtain⟨_,g2,g3,_⟩:=key i v hi az;refine⟨?_,λbC k7=>g3 bC ?_⟩
        · rw[ld,ld,g2]
          cases dN M m xid ca a (bD (bn.put e cn ⟨.int .i64,(i:Int)⟩) ca v) v<;>rfl
        · rw[ld]at k7
          exact xp k7) _ 0 _ (by omega) i0
    rw[xq]at an
    have h2:bI (λi (v:cd ca)=>(a.fe f (some λx=>!(x.b9 m)&&(!(x.dw xid)&&sy o x))).fold M (bD (bn.put e cn ⟨.int .i64,(i:Int)⟩) ca v) (fj m xid ca λx S e=>some (x,S,e)) (.c4 v)) 0 (cQ (dM.den M e)).toNat (cr _ (ew e ca))=
        bI (λi (v:cd ca)=>kh (ki M f) (dN M m xid ca a (bD (bn.put e cn ⟨.int .i64,(i:Int)⟩) ca v) v)) 0 (cQ (dM.den M e)).toNat (cr _ (ew e ca)):=
      Fm I _ (λi v hi az=>by
        obtain⟨_,g2,g3,_⟩:=key i v hi az;refine⟨?_,λbC k7=>g3 bC (xp k7)⟩
        rw[BV,g2]) _ 0 _ (by omega) i0
    have iZ: ∀(n i:Nat) (v:cd ca),i+n=(cQ (dM.den M e)).toNat->I i v->∀S aD,bI (λi (v:cd ca)=>dN M m xid ca a (bD (bn.put e cn ⟨.int .i64,(i:Int)⟩) ca v) v) i n v= .inl (some (.cp,S,aD))->(f S).safe M aD/\∀p,o=some p->(f S).gM p=true:=by
      intro n
      induction n with
      |zero=>intro i v _ _ S aD h;cases h
      |succ n bb=>
        intro i v I5 az S aD h;obtain⟨_,_,g3,g4⟩:=key i v (by omega) az
        simp only[bI]at h
        cases ah:dN M m xid ca a (bD (bn.put e cn ⟨.int .i64,(i:Int)⟩) ca v) v with
        |ret r=>rw[ah]at h;cases h;exact g4 S aD ah
        |c4 bC=>rw[ah]at h;cases h
        |bJ bC=>rw[ah]at h;exact bb (i+1) bC (by omega) (g3 bC ah) S aD h
    have cE:run M (.fc m xid dM cn ca a k) e=zZ7 (λr=>r) (λv=>run M k (bD e ca v)) (bI (λi (v:cd ca)=>dN M m xid ca a (bD (bn.put e cn ⟨.int .i64,(i:Int)⟩) ca v) v) 0 (cQ (dM.den M e)).toNat (cr _ (ew e ca))):=by
      unfold run;rw[BW];simp only[BV]
    have OL:run M ((aG.fc m xid dM cn ca a k).fe f o) e=zZ7 (λr=>r) (λv=>run M (k.fe f o) (bD e ca v)) (zWo (ki M f) id (bI (λi (v:cd ca)=>dN M m xid ca a (bD (bn.put e cn ⟨.int .i64,(i:Int)⟩) ca v) v) 0 (cQ (dM.den M e)).toNat (cr _ (ew e ca)))):=by
      show aG.fold M (.fc m xid dM cn ca (a.fe f (some λx=>!(x.b9 m)&&(!(x.dw xid)&&sy o x))) (k.fe f o)) e _ none=_;rw[BW,h2,zq (ki M f) (λ_ _=>rfl)];rfl
    have fI: ∀v,bI (λi (v:cd ca)=>dN M m xid ca a (bD (bn.put e cn ⟨.int .i64,(i:Int)⟩) ca v) v) 0 (cQ (dM.den M e)).toNat (cr _ (ew e ca))= .inr v->(k.fe f o).safe M (bD e ca v):=λv az=>by
      simp only[ld]at an;rw[zq (λ_=>()) (λ_ _=>rfl),az]at an;exact an
    refine⟨⟨⟨I,i0,λi v hi az=>?_⟩,?_⟩,?_,λS aD ah=>?_⟩
    · obtain⟨g1,_,g3,_⟩:=key i v hi az
      exact⟨g1,λbC k7=>g3 bC (xp (by rw[ld]at k7;exact k7))⟩
    · simp only[ld]
      rw[zq (λ_=>()) (λ_ _=>rfl)]
      cases az:bI (λi (v:cd ca)=>dN M m xid ca a (bD (bn.put e cn ⟨.int .i64,(i:Int)⟩) ca v) v) 0 (cQ (dM.den M e)).toNat (cr _ (ew e ca))with
      |inl r=>trivial|inr v=>exact(kK k o (fI v az)).1
    · rw[cE,OL]
      cases az:bI (λi (v:cd ca)=>dN M m xid ca a (bD (bn.put e cn ⟨.int .i64,(i:Int)⟩) ca v) v) 0 (cQ (dM.den M e)).toNat (cr _ (ew e ca))with
      |inl r=>rfl|inr v=>exact(kK k o (fI v az)).2.1
    · rw[cE]at ah
      cases az:bI (λi (v:cd ca)=>dN M m xid ca a (bD (bn.put e cn ⟨.int .i64,(i:Int)⟩) ca v) v) 0 (cQ (dM.den M e)).toNat (cr _ (ew e ca))with
      |inl r=>
        rw[az]at ah;have ah:r=some (.cp,S,aD):=ah;subst ah;exact iZ _ 0 _ (by omega) i0 S aD az
      |inr v=>
        rw[az]at ah;exact(kK k o (fI v az)).2.2 S aD ah
  | .fG m xid ca a k,o,e,h=>by
    obtain⟨⟨I,i0,cO⟩,he,an⟩:=h
    have key: ∀(v:cd ca),I v->a.safe M (bD e ca v)/\
        dN M m xid ca (a.fe f (some λx=>!(x.b9 m)&&(!(x.dw xid)&&sy o x))) (bD e ca v) v=kh (ki M f) (dN M m xid ca a (bD e ca v) v)/\
        (∀bC,dN M m xid ca a (bD e ca v) v= .bJ bC->I bC)/\
        ∀S aD,dN M m xid ca a (bD e ca v) v= .ret (some (.cp,S,aD))->(f S).safe M aD/\∀p,o=some p->(f S).gM p=true:=by
      intro v az;obtain⟨s1,s2⟩:=cO v az;obtain⟨cw,a2,a3⟩:=kK a _ s1
      have ai:=XI (m:=m) (xid:=xid) (ca:=ca) (v:=v) a2 λS aD ah=>by
        obtain⟨y,dC,bc,g1,g2⟩:=mq (M:=M) (e:=aD) ((a3 S aD ah).2 _ rfl);simp only[zZr,zZb]at g2;exact⟨y,dC,bc,g1,g2.1,g2.2.1⟩
      refine⟨cw,ai,λbC k7=>s2 bC ?_,λS aD ah=>?_⟩
      · rw[ld,ai,k7]
        rfl
      · unfold dN at ah
        cases l4:run M a (bD e ca v)with
        |none=>rw[l4]at ah;cases ah
        |some l=>
          obtain⟨x,bV,E7⟩:=l;rw[l4]at ah;simp only at ah
          cases hx:x.b9 m with
          |true=>rw[rk hx]at ah;cases ah
          |false=>
            cases aA:x.dw xid with
            |true=>rw[rm hx aA]at ah;cases ah
            |false=>
              rw[mS hx aA]at ah;cases ah;obtain⟨f1,f2⟩:=a3 S aD l4;refine⟨f1,λp ar=>?_⟩;subst ar;exact qo (f2 _ rfl) λx hx=>by simp only[zZr]at hx;exact hx.2.2
    have xq:=OK (b:=λ(v:cd ca)=>(a.fold M (bD e ca v) (fj m xid ca λ_ _ _=>()) (.c4 v):Step Unit (cd ca))) (c:=λ(v:cd ca)=>((a.fe f (some λx=>!(x.b9 m)&&(!(x.dw xid)&&sy o x))).fold M (bD e ca v) (fj m xid ca λ_ _ _=>()) (.c4 v):Step Unit (cd ca))) I (λv az=>by
        obtain⟨_,g2,g3,_⟩:=key v az;refine⟨?_,λbC k7=>g3 bC ?_⟩
        · rw[ld,ld,g2]
          cases dN M m xid ca a (bD e ca v) v<;>rfl
        · rw[ld]at k7
          exact xp k7) c5 _ i0
    rw[xq.1]at an;have he:=xq.2.1 he
    have h2:=(OK (b:=λ(v:cd ca)=>kh (ki M f) (dN M m xid ca a (bD e ca v) v)) (c:=λ(v:cd ca)=>(a.fe f (some λx=>!(x.b9 m)&&(!(x.dw xid)&&sy o x))).fold M (bD e ca v) (fj m xid ca λx S e=>some (x,S,e)) (.c4 v)) I (λv az=>by
        obtain⟨_,g2,g3,_⟩:=key v az;refine⟨?_,λbC k7=>g3 bC (xp k7)⟩
        rw[BV,g2]) c5 _ i0).1
    have iZ: ∀(n:Nat) (v:cd ca),I v->∀S aD,dk (λ(v:cd ca)=>dN M m xid ca a (bD e ca v) v) n v= .inl (some (.cp,S,aD))->(f S).safe M aD/\∀p,o=some p->(f S).gM p=true:=by
      intro n
      induction n with
      |zero=>intro v _ S aD h;cases h
      |succ n bb=>
        intro v az S aD h;obtain⟨_,_,g3,g4⟩:=key v az;simp only[dk]at h
        cases ah:dN M m xid ca a (bD e ca v) v with
        |ret r=>rw[ah]at h;cases h;exact g4 S aD ah
        |c4 bC=>rw[ah]at h;cases h
        |bJ bC=>rw[ah]at h;exact bb bC (g3 bC ah) S aD h
    have cE:run M (.fG m xid ca a k) e=zZ7 (λr=>r) (λv=>run M k (bD e ca v)) (dk (λ(v:cd ca)=>dN M m xid ca a (bD e ca v) v) c5 (cr _ (ew e ca))):=by
      simp only[run,aG.fold,BV]
    have OL:run M ((aG.fG m xid ca a k).fe f o) e=zZ7 (λr=>r) (λv=>run M (k.fe f o) (bD e ca v)) (zWo (ki M f) id (dk (λ(v:cd ca)=>dN M m xid ca a (bD e ca v) v) c5 (cr _ (ew e ca)))):=by
      rw[<-BT (ki M f) (c:=λ(v:cd ca)=>kh (ki M f) (dN M m xid ca a (bD e ca v) v)) (λ_=>rfl),<-h2];rfl
    have fI: ∀v,dk (λ(v:cd ca)=>dN M m xid ca a (bD e ca v) v) c5 (cr _ (ew e ca))= .inr v->(k.fe f o).safe M (bD e ca v):=λv az=>by
      simp only[ld]at an;rw[BT (λ_=>()) (λ_=>rfl),az]at an;exact an
    refine⟨⟨⟨I,i0,λv az=>?_⟩,he,?_⟩,?_,λS aD ah=>?_⟩
    · obtain⟨g1,_,g3,_⟩:=key v az
      exact⟨g1,λbC k7=>g3 bC (xp (by rw[ld]at k7;exact k7))⟩
    · simp only[ld]
      rw[BT (λ_=>()) (λ_=>rfl)]
      cases az:dk (λ(v:cd ca)=>dN M m xid ca a (bD e ca v) v) c5 (cr _ (ew e ca))with
      |inl r=>trivial|inr v=>exact(kK k o (fI v az)).1
    · rw[cE,OL]
      cases az:dk (λ(v:cd ca)=>dN M m xid ca a (bD e ca v) v) c5 (cr _ (ew e ca))with
      |inl r=>rfl|inr v=>exact(kK k o (fI v az)).2.1
    · rw[cE]at ah
      cases az:dk (λ(v:cd ca)=>dN M m xid ca a (bD e ca v) v) c5 (cr _ (ew e ca))with
      |inl r=>
        rw[az]at ah;have ah:r=some (.cp,S,aD):=ah;subst ah;exact iZ _ _ i0 S aD az
      |inr v=>
        rw[az]at ah;exact(kK k o (fI v az)).2.2 S aD ah
  | .bad _,_,_,h=>h.elim
end
end Go.aH
namespace Go.aH
open Go
theorem rn(G:aV)(e:Env)(l:bn ag): ∀(n i j:Nat),(lb G e l i n)[j]? =if j<n then some (match l.get (i+j)with|some x=>x.den G e|none=>.top)else none
 |0,_,_=>by simp[lb]|n+1,i,0=>by simp only[lb,List.getElem?_cons_zero,Nat.add_zero,Nat.zero_lt_succ,if_true]<;>rfl
 |n+1,i,j+1=>by
  simp only[lb,List.getElem?_cons_succ,rn G e l n (i+1) j];rw[show i+1+j=i+(j+1)by omega]
  simp
theorem JD(G:aV)(e:Env)(l:bn ag): ∀(n i:Nat),(lb G e l i n).length=n
 |0,_=>rfl|n+1,i=>by simp[lb,JD G e l n (i+1)]
theorem zr(G:aV)(N B:Nat)(e:Env)(S:ax)(j:Nat):(S.den G N B e).dn[j]? =if j<N then some ((S.at j).den G e)else none:=by
 simp only[ax.den,rn,zZ0]
 by_cases h:j<N
 ·simp only[h,if_true,zYt]
  unfold ax.at
  cases S.l.get j<;>rfl
 ·simp[h]
def Fp:ag->ag->Bool
 | .bE r i,.bE q j=>zZu i j&&jO r q| .fd c i k r,.fd d j m q=>(zZu i j&&zZu k m)&&(decide (c=d)&&jO r q)|_,_=>false
theorem OM{x y:ag}(h:Fp x y=true):x=y:=by
 unfold Fp at h
 split at h
 ·simp only[zZr]at h
  rw[zWi h.1,jr h.2]
 ·simp only[zZr,decide_eq_true_eq]at h
  rw[zWi h.1.1,zWi h.1.2,h.2.1,jr h.2.2]
 ·cases h
def n9(g:ag):List cv->Option Bool
 |[]=>none| .fb h b::r=>match Fp h g with
  |true=>some b|false=>n9 g r
 |_::r=>n9 g r
theorem ua{e:Env}{g:ag}{b:Bool}: ∀{l:List cv},n9 g l=some b->(∀c∈l,c.ok e)->g.aL e .bool=b
 | .fb h hL::r,an,hc=>by
  simp only[n9]at an
  split at an
  ·rename_i ao
   cases an;rw[<-OM ao];exact hc (.fb h b) (by simp)
  ·exact ua an λc hm=>hc c (by simp[hm])
 | .d1 _ _ _::r,an,hc=>ua (l:=r) an λc hm=>hc c (by simp[hm])
 | .d2 _ _ _ _::r,an,hc=>ua (l:=r) an λc hm=>hc c (by simp[hm])
 | .rg _ _::r,an,hc=>ua (l:=r) an λc hm=>hc c (by simp[hm])
def ag.res(l:List cv):ag->ag
 | .hg g b v=>match n9 g l with
  |some c=>match decide (c=b)with
   |true=>v.res l|false=>.tp []
  |none=>.hg g b (v.res l)
 | .gC g id off=>match n9 g l,id with
  |some true,some id=>.fi id off|some false,_=>.cs (.pointer none)|_,_=>.gC g id off
 |x=>x
theorem XK{l:List cv}{g v:ag}{b:Bool}:(ag.hg g b v).res l=match n9 g l with
 |some c=>match decide (c=b)with
  |true=>v.res l|false=>.tp []
 |none=>.hg g b (v.res l):=by rw[ag.res]
theorem XL{l:List cv}{g:ag}{id:Option Nat}{off:Nat}:(ag.gC g id off).res l=match n9 g l,id with
 |some true,some id=>.fi id off|some false,_=>.cs (.pointer none)|_,_=>.gC g id off:=by
 cases an:n9 g l with
 |none=>simp only[ag.res,an]|some b=>cases b<;>cases id<;>simp only[ag.res,an]
theorem ON{G:aV}{e:Env}{l:List cv}(hc: ∀c∈l,c.ok e): ∀{x:ag},(x.res l).den G e=x.den G e
 | .hg g b v=>by
  have bb:=ON (G:=G) hc (x:=v);rw[XK]
  split
  ·rename_i c an
   have:=ua an hc
   split
   ·rename_i hd
    have hd:=of_decide_eq_true hd;subst hd;rw[bb];simp only[ag.den,this]
    cases c<;>rfl
   ·rename_i hd
    have hd:=of_decide_eq_false hd;simp only[ag.den,this]
    cases c<;>cases b<;>first|rfl|exact absurd rfl hd
  ·simp only[ag.den,bb]
 | .bE _ _=>rfl| .fd _ _ _ _=>rfl| .cs _=>rfl| .ip _ _ _=>rfl| .cH _=>rfl| .tp _=>rfl| .fi _ _=>rfl| .iM _ _ _=>rfl| .aq _=>rfl| .fn _ _ _=>rfl| .jb _=>rfl| .mo _ _=>rfl| .iY _ _ _ _=>rfl| .cM _ _=>rfl| .gC g id off=>by
  rw[XL]
  cases an:n9 g l with
  |none=>rfl|some c=>
   have:=ua an hc
   cases c with
   |true=>cases id with
    |none=>rfl|some id=>simp only[ag.den,this]
   |false=>simp only[ag.den,this]
 | .eE _ _ _ _=>rfl| .top=>rfl
theorem OO{l:List cv}{k:Nat}: ∀{x:ag},x.lt k=true->(x.res l).lt k=true
 | .hg g b v,h=>by
  simp only[ag.lt,zZr]at h;rw[XK]
  split
  ·split
   ·exact OO h.2
   ·rfl
  ·simp only[ag.lt,h.1,OO h.2,Bool.and_self]
 | .bE _ _,h=>h| .fd _ _ _ _,h=>h| .cs _,h=>h| .ip _ _ _,h=>h| .cH _,h=>h| .tp _,h=>h| .fi _ _,h=>h| .iM _ _ _,h=>h| .aq _,h=>h| .fn _ _ _,h=>h| .jb _,h=>h| .mo _ _,h=>h| .iY _ _ _ _,h=>h| .cM _ _,h=>h| .gC g id off,h=>by
  rw[XL]
  cases n9 g l with
  |none=>exact h|some c=>cases c with
   |true=>cases id with
    |none=>exact h|some id=>rfl
   |false=>rfl
 | .eE _ _ _ _,h=>h| .top,h=>h
def ax.bj(N:Nat)(S:ax):Operand->ag
 | .tmp t=>match zZs t N with
  |true=>(S.at t).res S.g|false=>.top
 | .const v=>match v.oneCell' with
  |true=>.cs v|false=>.top
 | .global g=>.mo g 0| .func f=>.fn (.func f) [] []
section
variable {G:aV} {N B:Nat} {e:Env} {S:ax}
theorem b3(hf: ∀c∈S.g,c.ok e)(x:Operand):aR G (S.den G N B e) x=(S.bj N x).den G e:=by
 cases x with
 |tmp t=>
  simp only[aR,ax.bj,List.getD_eq_getElem?_getD,zr]
  cases h:zZs t N with
  |true=>
   have:t<N:=fz h;simp[this,ON hf]
  |false=>
   have: ¬t<N:=λh'=>by rw[nq h']at h;cases h
   simp[this,ag.den]
 |const v=>
  simp only[aR,ax.bj]
  cases v.oneCell'<;>simp[ag.den]
 |global g=>
  simp only[aR,ax.bj,ag.den]
  cases G g with
  |none=>rfl|some l=>simp
 |func f=>simp[aR,ax.bj,ag.den,ag.cc]
def ax.put(S:ax)(dst:Option Nat)(v:ag):ax:=
 match dst with
 |some d=>{S with l:=S.l.put d v}|none=>S
theorem OP(d:Nat)(v:ag)(l:bn ag):lb G e (l.put d v) 0 N=(lb G e l 0 N).set d (v.den G e):=by
 apply zZy;intro j;rw[rn,List.getElem?_set,rn,JD,zZ0,bn.lu]
 by_cases hd:d=j
 ·subst hd
  by_cases aj:d<N<;>simp[aj]
 ·simp[hd]
theorem gu(dst:Option Nat)(v:ag):(S.put dst v).den G N B e=(S.den G N B e).put dst (v.den G e):=by
 cases dst with
 |none=>rfl|some d=>simp only[ax.put,ax.den,aS.put,OP]
theorem fx: ∀(h:List (Nat × b1)) (id:Nat),aF (di G e h) id=(dG h id).map (b1.den G e)
 |[],_=>rfl|(i,o)::r,id=>by
  simp only[di,aF,dG,tY]
  by_cases h:i=id
  ·simp[h]
  ·simp only[h,if_false,decide_false]
   exact fx r id
theorem xr: ∀(h:List (Nat × b1)) (id:Nat) (o:b1),di G e (lL h id o)=eX (di G e h) id (o.den G e)
 |[],_,_=>rfl|(i,p)::r,id,o=>by
  simp only[lL,di,eX,tY]
  by_cases h:i=id
  ·simp[h,di]
  ·simp only[h,decide_false,if_false,di,xr r id o]
end
def b1.lt(k:Nat):b1->Bool
 | .dQ _ l=>ag.c6 k l| .rw _ _ x=>x.lt k| .it _ x p=>x.lt k&&p.lt k
def fT(k:Nat):List (Nat × b1)->Bool
 |[]=>true|(_,o)::r=>o.lt k&&fT k r
def cv.lt(k:Nat):cv->Bool
 | .d1 i _ x=>zZs i k&&x.lt k| .d2 i _ x y=>zZs i k&&(x.lt k&&y.lt k)| .rg i b=>zZs i k&&b.lt k| .fb g _=>g.lt k
def gD(k:Nat):List cv->Bool
 |[]=>true|c::r=>c.lt k&&gD k r
structure ax.cU (S:ax):Prop where
 l: ∀i x,S.l.get i=some x->x.lt S.k=true
 h:fT S.k S.h=true
 g:gD S.k S.g=true
mutual
theorem iq{k m:Nat}(h:k<=m): ∀{x:ag},x.lt k=true->x.lt m=true:=λ{x} hx=>by
 cases x with
 |bE r i=>exact nq (zZw (fz hx) h)|fd c i j r=>exact nq (zZw (fz (i:=i) hx) h)|ip c i j=>exact nq (zZw (fz (i:=i) hx) h)|cH l=>exact zt (l:=l) h hx|tp l=>exact zt (l:=l) h hx|iM id x off=>exact iq (x:=x) h hx|iY id off x n=>exact iq (x:=x) h hx|gC g id off=>exact iq (x:=g) h hx|eE t a rs l=>exact zt h (l:=l) hx|fn f a b=>
  simp only[ag.lt,zZr]at hx⊢;exact⟨zt h hx.1,zt h hx.2⟩
 |hg g b x=>
  simp only[ag.lt,zZr]at hx⊢;exact⟨iq h hx.1,iq h hx.2⟩
 |_=>rfl
theorem zt{k m:Nat}(h:k<=m): ∀{l:List ag},ag.c6 k l=true->ag.c6 m l=true:=λ{l} au=>by
 match l with
 |[]=>rfl|x::r=>
  simp only[ag.c6,zZr]at au⊢;exact⟨iq h au.1,zt h au.2⟩
end
theorem zu{k m:Nat}(h:k<=m): ∀{l:List (Nat × b1)},fT k l=true->fT m l=true
 |[],_=>rfl|(_,o)::r,au=>by
  simp only[fT,zZr]at au⊢;refine⟨?_,zu h au.2⟩
  cases o with
  |dQ t l=>exact zt h (l:=l) au.1|rw t c x=>exact iq h (x:=x) au.1|it q x p=>
   have aa:=au.1;simp only[b1.lt,zZr]at aa⊢;exact⟨iq h aa.1,iq h aa.2⟩
theorem sz{k m:Nat}(h:k<=m): ∀{l:List cv},gD k l=true->gD m l=true
 |[],_=>rfl|c::r,au=>by
  simp only[gD,zZr]at au⊢;refine⟨?_,sz h au.2⟩
  cases c with
  |d1 i f x=>
   have:=au.1;simp only[cv.lt,zZr]at this⊢;exact⟨nq (zZw (fz this.1) h),iq h this.2⟩
  |d2 i f x y=>
   have:=au.1;simp only[cv.lt,zZr]at this⊢;exact⟨nq (zZw (fz this.1) h),iq h this.2.1,iq h this.2.2⟩
  |rg i b=>
   have:=au.1;simp only[cv.lt,zZr]at this⊢;exact⟨nq (zZw (fz this.1) h),iq h this.2⟩
  |fb g b=>exact iq h (x:=g) au.1
section
variable {G:aV} {N B:Nat} {e aD:Env} {S:ax} {k:Nat}
theorem Fq(h:cy k e aD): ∀{l:List (Nat × b1)},fT k l=true->di G aD l=di G e l
 |[],_=>rfl|(_,o)::r,au=>by
  simp only[fT,zZr]at au;simp only[di,Fq h au.2]
  congr 2
  cases o with
  |dQ t l=>simp only[b1.den,BM h (l:=l) au.1]|rw t c x=>simp only[b1.den,fY h (x:=x) au.1]|it q x p=>
   have aa:=au.1;simp only[b1.lt,zZr]at aa;simp only[b1.den,fY h (x:=x) aa.1,fY h (x:=p) aa.2]
theorem nu(h:cy S.k e aD)(af:S.cU):S.den G N B aD=S.den G N B e:=by
 simp only[ax.den,aS.mk.injEq,and_true,true_and];refine⟨?_,Fq h af.h⟩;apply zZy;intro j;rw[rn,rn]
 by_cases aj:j<N
 ·simp only[aj,if_true,zYt]
  cases ai:S.l.get (0+j)with
  |none=>rfl|some x=>exact xj h (af.l _ x ai)
 ·simp[aj]
theorem kL(h:cy k e aD): ∀{l:List cv},gD k l=true->(∀c∈l,c.ok e)->∀c∈l,c.ok aD
 |[],_,_,_,hc=>by cases hc
 |d::r,au,hf,c,hc=>by
  simp only[gD,zZr]at au
  rcases zZf.1 hc with rfl|hc
  ·have aP:=hf c (by simp)
   cases c with
   |d1 i f x=>
    have aa:=au.1;simp only[cv.lt,zZr]at aa;simp only[cv.ok]at aP⊢;rw[h i (fz aa.1),fY h aa.2];exact aP
   |d2 i f x y=>
    have aa:=au.1;simp only[cv.lt,zZr]at aa;simp only[cv.ok]at aP⊢;rw[h i (fz aa.1),fY h aa.2.1,fY h aa.2.2];exact aP
   |rg i b=>
    have aa:=au.1;simp only[cv.lt,zZr]at aa;simp only[cv.ok]at aP⊢;rw[h i (fz aa.1),xi h aa.2];exact aP
   |fb g b=>
    simp only[cv.ok]at aP⊢;rw[fY h (x:=g) au.1];exact aP
  ·exact kL h au.2 (λc hc=>hf c (by simp[hc])) c hc
theorem JE(af:S.cU)(x:Operand):(S.bj N x).lt S.k=true:=by
 cases x with
 |tmp t=>
  simp only[ax.bj]
  split
  ·refine OO ?_
   unfold ax.at
   split
   ·rename_i x hx;exact af.l _ x hx
   ·rfl
  ·rfl
 |const v=>simp only[ax.bj];split<;>rfl
 |global g=>rfl|func f=>rfl
end
def cf.lt(k:Nat):cf->Bool
 | .su _ x=>x.lt k| .f1 _ x=>x.lt k| .f2 _ x y=>x.lt k&&y.lt k| .fC _ x lo hi=>x.lt k&&(ag.c6 k lo.toList&&ag.c6 k hi.toList)| .sv x lo hi=>x.lt k&&(ag.c6 k lo.toList&&ag.c6 k hi.toList)| .Jy _ g x y=>g.lt k&&(x.lt k&&y.lt k)| .Fi _ _ l m=>ag.c6 k l&&ag.c6 k m| .ri _ l=>ag.c6 k l| .up _ l i x=>l.lt k&&(i.lt k&&x.lt k)| .nth _ l i=>ag.c6 k l&&i.lt k| .cD _ x=>x.lt k| .Jz _ _=>true| .JA _ _ m x y=>m.lt k&&(x.lt k&&y.lt k)| .BS _ _ m x=>m.lt k&&x.lt k| .zp _ _ m x=>m.lt k&&x.lt k| .ca _ l=>ag.c6 k l| .vw _ p _=>zZs p k
section
variable {e aD:Env} {k:Nat}
theorem BX(h:cy k e aD): ∀{rs:List a6} {l:List ag},ag.c6 k l=true->iA aD rs l=iA e rs l
 |[],_,_=>by simp[iA]|_::_,[],_=>by simp[iA]|r::rs,x::xs,hx=>by
  simp only[ag.c6,zZr]at hx;simp only[iA,zn h hx.1,BX h hx.2]
theorem JF(h:cy k e aD){o:Option ag}(av:ag.c6 k o.toList=true):rj aD o=rj e o:=by
 cases o with
 |none=>rfl|some x=>
  simp only[Option.toList,ag.c6,Bool.and_true]at av;simp only[rj,xi h av]
theorem XM(h:cy k e aD): ∀{rs:List a6} {l m:List ag},ag.c6 k l=true->ag.c6 k m=true->nr aD rs l m=nr e rs l m
 |[r],[x],[y],au,hm=>by
  simp only[ag.c6,zZr]at au hm;simp only[nr,fY h au.1,fY h hm.1]
 |r::s::rs,x::xs,y::ys,au,hm=>by
  simp only[ag.c6,zZr]at au hm;have:=XM h (rs:=s::rs) au.2 hm.2
  cases xs<;>cases ys<;>simp only[nr,fY h au.1,fY h hm.1,this]
 |[r],x::mm::xs,y::ys,au,hm=>by
  simp only[ag.c6,zZr]at au hm;simp only[nr,fY h au.1,fY h hm.1]
 |[r],[x],y::tq::ys,au,hm=>by
  simp only[ag.c6,zZr]at au hm;simp only[nr,fY h au.1,fY h hm.1]
 |[],_,_,_,_=>by simp[nr]|_::_,[],_,_,_=>by simp[nr]|_::_,_::_,[],_,_=>by simp[nr]
theorem XN(h:cy k e aD){c:bZ}: ∀{l:List ag},ag.c6 k l=true->pA aD c l=pA e c l
 |[],_=>rfl|x::r,au=>by
  simp only[ag.c6,zZr]at au;simp only[pA,zn h au.1,XN h au.2]
theorem XO(h:cy k e aD){r:a6}: ∀{l:List ag} {n:Nat},ag.c6 k l=true->xm aD r l n=xm e r l n
 |[],_,_=>rfl|[x],_,au=>by
  simp only[ag.c6,zZr]at au;simp only[xm,fY h au.1]
 |x::y::l,n,au=>by
  simp only[ag.c6,zZr]at au;have:=XO h (l:=y::l) (n:=n-1) (r:=r) (by simp only[ag.c6,zZr];exact au.2)
  simp only[xm,fY h au.1,this]
theorem ziv(M:List bs)(h:cy k e aD){x:cf}(hx:x.lt k=true):x.den M aD=x.den M e:=by
 cases x with
 |su r x=>simp only[cf.den,zn h (x:=x) hx]|f1 f x=>simp only[cf.den,fY h (x:=x) hx]|f2 f x y=>
  simp only[cf.lt,zZr]at hx;simp only[cf.den,fY h hx.1,fY h hx.2]
 |fC c x lo hi=>
  simp only[cf.lt,zZr]at hx;simp only[cf.den,fY h hx.1,JF h hx.2.1,JF h hx.2.2]
 |sv x lo hi=>
  simp only[cf.lt,zZr]at hx;simp only[cf.den,fY h hx.1,JF h hx.2.1,JF h hx.2.2]
 |Jy r g x y=>
  simp only[cf.lt,zZr]at hx;simp only[cf.den,fY h hx.1,zn h hx.2.1,zn h hx.2.2]
 |Fi n rs l m=>
  simp only[cf.lt,zZr]at hx;simp only[cf.den,XM h hx.1 hx.2]
 |ri c l=>simp only[cf.den,XN h (l:=l) hx]|cD c x=>simp only[cf.den,fY h (x:=x) hx]|Jz r s=>rfl|JA r s m x y=>
  simp only[cf.lt,zZr]at hx;simp only[cf.den,fY h hx.1,fY h hx.2.1,zn h hx.2.2]
 |BS r s m x=>
  simp only[cf.lt,zZr]at hx;simp only[cf.den,fY h hx.1,fY h hx.2]
 |zp r s m x=>
  simp only[cf.lt,zZr]at hx;simp only[cf.den,fY h hx.1,fY h hx.2]
 |up c l i x=>
  simp only[cf.lt,zZr]at hx;simp only[cf.den,fY h hx.1,xi h hx.2.1,zn h hx.2.2]
 |nth r l i=>
  simp only[cf.lt,zZr]at hx;simp only[cf.den,XO h hx.1,xi h hx.2]
 |ca j l=>simp only[cf.den,BX h (l:=l) hx]|vw rs p i=>simp only[cf.den,h p (fz hx)]
end
end Go.aH
namespace Go.aH
open Go
section
variable {P:Program} {G:aV} {o:Oper} {s:aS}
theorem c8.sub{v bC:aC}(h:c8 P G o s v)(ao:Sub v bC):c8 P G o s bC:=λE a w β ro ah=>by
 obtain⟨c,aa,ae⟩:=h E a w β ro ah;exact⟨c,aa,ao _ _ _ _ _ _ ae⟩
def OQ(op:BinOp)(k bl:IntKind):Bool:=
 match op with
 | .add=>decide (k=bl)| .sub=>decide (k=bl)| .mul=>decide (k=bl)| .quo=>decide (k=bl)| .rem=>decide (k=bl)| .and=>decide (k=bl)| .or=>decide (k=bl)| .xor=>decide (k=bl)| .shl=>true| .shr=>true|_=>false
def BY:BinOp->Bool
 | .eql=>true| .neq=>true| .lss=>true| .leq=>true| .gtr=>true| .geq=>true|_=>false
theorem ziw{op:BinOp}{cR ty:TypeId}{x y:Operand}{k bl:IntKind}{a b:Int}(av:o.op= .binOp op cR x y ty)(hx:aR G s x= .ad (.v (.int k a)))(aA:aR G s y= .ad (.v (.int bl b)))(h:OQ op k bl=true)(hn:Jx op b):
 c8 P G o s (.ad (.v (.int k (a1 op k a b)))):=by
 cases op<;>simp only[OQ,zWh,decide_eq_true_eq]at h
 case add=>subst h;exact q5 _ cR ty x y av hx aA (by simp[kv,a1])
 case sub=>subst h;exact q5 _ cR ty x y av hx aA (by simp[kv,a1])
 case mul=>subst h;exact q5 _ cR ty x y av hx aA (by simp[kv,a1])
 case quo=>subst h;exact q5 _ cR ty x y av hx aA (by have: ¬b=0:=hn;simp[kv,a1,this])
 case rem=>subst h;exact q5 _ cR ty x y av hx aA (by have: ¬b=0:=hn;simp[kv,a1,this])
 case and=>subst h;exact BK cR ty x y av hx aA λw=>by simp[binOp,Op.intBits,a1,aH.np]
 case or=>subst h;exact BK cR ty x y av hx aA λw=>by simp[binOp,Op.intBits,a1,aH.ml]
 case xor=>subst h;exact BK cR ty x y av hx aA λw=>by simp[binOp,Op.intBits,a1,aH.jK]
 case shl=>exact q5 _ cR ty x y av hx aA (by have hn:0<=b:=hn;have: ¬b<0:=(by omega);simp[kv,a1,this])
 case shr=>exact q5 _ cR ty x y av hx aA (by have hn:0<=b:=hn;have: ¬b<0:=(by omega);simp[kv,a1,this])
theorem zix{op:BinOp}{cR ty:TypeId}{x y:Operand}{k:IntKind}{a b:Int}(av:o.op= .binOp op cR x y ty)(hx:aR G s x= .ad (.v (.int k a)))(aA:aR G s y= .ad (.v (.int k b)))(h:BY op=true):
 c8 P G o s (.ad (.v (.bool (Fc op a b)))):=by
 cases op<;>simp only[BY,zWh]at h
 all_goals exact q5 _ cR ty x y av hx aA (by simp[kv,I7,Fc])
theorem ziy{op:BinOp}{cR ty:TypeId}{x y:Operand}{a b:ByteArray}(av:o.op= .binOp op cR x y ty)(hx:aR G s x= .ad (.v (.string a)))(aA:aR G s y= .ad (.v (.string b)))(h:BY op=true):
 c8 P G o s (.ad (.v (.bool (gp op a b)))):=by
 cases op<;>simp only[BY,zWh]at h
 all_goals exact q5 _ cR ty x y av hx aA (by simp[kv,gp])
def Fs(G:aV)(s:aS)(o:Option Operand)(z:Option Int):Prop:=
 match o,z with
 |none,none=>True|some y,some z=>∃k,aR G s y= .ad (.v (.int k z))|_,_=>False
theorem XP(i:bZ)(ls:List (hY i)){t:TypeId}{x:Operand}{lo hi:Option Operand}{sA oS:Option Int}(av:o.op= .slice t x lo hi none)(aJ:lY P t=some (dE i))(hx:aR G s x= .ad (.li i ls))(aE:Fs G s lo sA)(bc:Fs G s hi oS)
 (hn:u2 ls.length sA oS):pz P G o s (.ad (.li i (XE ls sA oS))):=by
 cases lo with
 |none=>
  cases sA with
  |some _=>exact aE.elim|none=>
  cases hi with
  |none=>
   cases oS with
   |some _=>exact bc.elim|none=>
   have:=Ju i ls (l:=0) (h:=ls.length) av aJ hx (.inl ⟨rfl,rfl⟩) (.inl ⟨rfl,rfl⟩) (zXx _) (zZv _);rw[zWg,zWf]at this;exact this
  |some y=>
   cases oS with
   |none=>exact bc.elim|some h=>
   obtain⟨k,aA⟩:=bc;have hn:0<=h/\h<=(ls.length:Int):=hn;obtain⟨n,rfl⟩: ∃n:Nat,h=(n:Int):=⟨h.toNat,by omega⟩
   have:=Ju i ls (l:=0) (h:=n) av aJ hx (.inl ⟨rfl,rfl⟩) (.inr ⟨y,k,rfl,aA⟩) (zXx _) (by omega)
   rw[zWf]at this;exact this
 |some y=>
  cases sA with
  |none=>exact aE.elim|some a=>
  obtain⟨k,aA⟩:=aE
  cases hi with
  |none=>
   cases oS with
   |some _=>exact bc.elim|none=>
   have hn:0<=a/\a<=(ls.length:Int):=hn;obtain⟨n,rfl⟩: ∃n:Nat,a=(n:Int):=⟨a.toNat,by omega⟩
   have:=Ju i ls (l:=n) (h:=ls.length) av aJ hx (.inr ⟨y,k,rfl,aA⟩) (.inl ⟨rfl,rfl⟩) (by omega) (zZv _)
   rw[zWg]at this;exact this
  |some ir=>
   cases oS with
   |none=>exact bc.elim|some h=>
   obtain⟨eO,OR⟩:=bc;have hn:0<=a/\a<=h/\h<=(ls.length:Int):=hn;obtain⟨n,rfl⟩: ∃n:Nat,a=(n:Int):=⟨a.toNat,by omega⟩
   obtain⟨m,rfl⟩: ∃n:Nat,h=(n:Int):=⟨h.toNat,by omega⟩
   exact Ju i ls (l:=n) (h:=m) av aJ hx (.inr ⟨y,k,rfl,aA⟩) (.inr ⟨ir,eO,rfl,OR⟩) (by omega) (by omega)
theorem ziz(b:ByteArray){t:TypeId}{x:Operand}{lo hi:Option Operand}{sA oS:Option Int}(av:o.op= .slice t x lo hi none)(aJ:P.underlying t=some .string)(hx:aR G s x= .ad (.v (.string b)))(aE:Fs G s lo sA)(bc:Fs G s hi oS)
 (hn:u2 b.size sA oS):c8 P G o s (.ad (.v (.string (yC b sA oS)))):=by
 cases lo with
 |none=>
  cases sA with
  |some _=>exact aE.elim|none=>
  cases hi with
  |none=>
   cases oS with
   |some _=>exact bc.elim|none=>exact Dm t x none none av aJ hx (l:=0) (h:=b.size) (.inl ⟨rfl,rfl⟩) (.inl ⟨rfl,rfl⟩) (zXx _) (zZv _)
  |some y=>
   cases oS with
   |none=>exact bc.elim|some h=>
   obtain⟨k,aA⟩:=bc;have hn:0<=h/\h<=(b.size:Int):=hn;obtain⟨n,rfl⟩: ∃n:Nat,h=(n:Int):=⟨h.toNat,by omega⟩
   exact Dm t x none _ av aJ hx (l:=0) (h:=n) (.inl ⟨rfl,rfl⟩) (.inr ⟨y,k,rfl,aA⟩) (zXx _) (by omega)
 |some y=>
  cases sA with
  |none=>exact aE.elim|some a=>
  obtain⟨k,aA⟩:=aE
  cases hi with
  |none=>
   cases oS with
   |some _=>exact bc.elim|none=>
   have hn:0<=a/\a<=(b.size:Int):=hn;obtain⟨n,rfl⟩: ∃n:Nat,a=(n:Int):=⟨a.toNat,by omega⟩
   exact Dm t x _ none av aJ hx (l:=n) (h:=b.size) (.inr ⟨y,k,rfl,aA⟩) (.inl ⟨rfl,rfl⟩) (by omega) (zZv _)
  |some ir=>
   cases oS with
   |none=>exact bc.elim|some h=>
   obtain⟨eO,OR⟩:=bc;have hn:0<=a/\a<=h/\h<=(b.size:Int):=hn;obtain⟨n,rfl⟩: ∃n:Nat,a=(n:Int):=⟨a.toNat,by omega⟩
   obtain⟨m,rfl⟩: ∃n:Nat,h=(n:Int):=⟨h.toNat,by omega⟩
   exact Dm t x _ _ av aJ hx (l:=n) (h:=m) (.inr ⟨y,k,rfl,aA⟩) (.inr ⟨ir,eO,rfl,OR⟩) (by omega) (by omega)
end
def JG(P:Program)(t:TypeId):Option a6:=
 match P.underlying t with
 |some (.int k)=>some (.int k)|some .bool=>some .bool|some .string=>some .str|_=>none
def sB(P:Program):Nat->Nat->List Field->Option (List a6)
 |0,_,_=>none|_+1,_,[]=>some []|d+1,k,f::fs=>
  if f.name= "_" ||f.offset != k then none
  else match o4 P f.type with
   |some gs=>match P.info? f.type with
    |some inf=>match sB P d 0 gs,sB P d (k+inf.size) fs with
     |some a,some b=>match zZu a.length inf.size with
      |true=>some (a++b)|false=>none
     |_,_=>none
    |none=>none
   |none=>match JG P f.type with
    |some r=>match sB P d (k+1) fs with
     |some l=>some (r::l)|none=>none
    |none=>none
def xt:(r:a6)->r.den->Value
 | .int k,n=>.int k n| .bool,b=>.bool b| .str,x=>.string x|_,_=>undef
def a6.cmp:a6->Bool
 | .int _=>true| .bool=>true| .str=>true|_=>false
def Ft(d:aK):Value:=xt d.r d.v
def qp:List aK->List aK->Bool
 |d::ds,c::cs=>vx d.r d.v (c.aI d.r)&&qp ds cs|_,_=>true
theorem ziA{P:Program}{t:TypeId}{r:a6}(h:JG P t=some r)(x y:r.den):vm P t (xt r x)=true/\qe (xt r x) (xt r y)=some (vx r x y):=by
 unfold JG at h
 split at h
 ·rename_i k hu;cases h;simp[xt,vm,hu,qe,vx]
 ·rename_i hu;cases h;simp[xt,vm,hu,qe,vx]
 ·rename_i hu;cases h;simp[xt,vm,hu,qe,vx]
 ·cases h
theorem XQ: ∀{a c:List aK} (b d:List aK),a.length=c.length->qp (a++b) (c++d)=(qp a c&&qp b d)
 |[],[],_,_,_=>by simp[qp]|x::a,y::c,b,d,h=>by
  simp only[List.cons_append,qp,XQ (a:=a) (c:=c) b d (by simpa using h),Bool.and_assoc]
 |[],_::_,_,_,h=>by cases h
 |_::_,[],_,_,h=>by cases h
theorem JH{P:Program}: ∀(d k:Nat) (fs:List Field) (rs:List a6),sB P d k fs=some rs->∀(aI cM:List aK),aI.map aK.r=rs->cM.map aK.r=rs->tO P d k fs (aI.map Ft) (cM.map Ft)=some (qp aI cM)
 |0,_,_,_,h,_,_,_,_=>by cases h
 |d+1,k,[],rs,h,aI,cM,ba,af=>by
  simp only[sB,zYt]at h;subst h
  cases py ba
  cases py af
  rfl
 |d+1,k,f::fs,rs,h,aI,cM,ba,af=>by
  simp only[sB]at h;simp only[tO]
  split at h
  ·cases h
  ·rename_i hc
   rw[if_neg hc]
   cases ao:o4 P f.type with
   |some gs=>
    rw[ao]at h;simp only at h⊢
    cases hi:P.info? f.type with
    |none=>rw[hi]at h;cases h
    |some inf=>
     rw[hi]at h;simp only at h⊢
     split at h
     ·rename_i u v aa ae
      split at h
      ·rename_i au
       simp only[zYt]at h;subst h;have au:=zWi au;have XR:(aI.take inf.size).map aK.r=u:=by rw[zWe,ba,<-au,zWd]
       have ziB:(aI.drop inf.size).map aK.r=v:=by rw[zWc,ba,<-au,zWb]
       have tb:(cM.take inf.size).map aK.r=u:=by rw[zWe,af,<-au,zWd]
       have ziC:(cM.drop inf.size).map aK.r=v:=by rw[zWc,af,<-au,zWb]
       rw[<-zWe,<-zWe,<-zWc,<-zWc,JH d 0 gs u aa _ _ XR tb,JH d _ fs v ae _ _ ziB ziC];simp only[zYt];rw[<-XQ _ _ (by have aa:=congrArg zZ5 XR;have ae:=congrArg zZ5 tb;simp only[List.length_map]at aa ae;omega),zWa,zWa]
      ·cases h
     ·cases h
   |none=>
    rw[ao]at h;simp only at h⊢
    split at h
    ·rename_i r ah
     split at h
     ·rename_i l au
      simp only[zYt]at h;subst h;obtain⟨a,zoT,rfl,XS,zv⟩:=oP ba;obtain⟨b,zoU,rfl,jj,tS⟩:=oP af;obtain⟨zoV,bE⟩:=a;obtain⟨bu,yA⟩:=b;simp only at XS jj;subst XS;subst jj;obtain⟨g1,g2⟩:=ziA ah bE yA;simp only[zXq,Ft,g1,g2,if_true,qp,df];rw[JH d _ fs l au _ _ zv tS]
     ·cases h
    ·cases h
theorem JI{P:Program}: ∀(d k:Nat) (fs:List Field) (rs:List a6),sB P d k fs=some rs->∀r∈rs,r.cmp=true
 |0,_,_,_,h,_,_=>by cases h
 |d+1,k,[],rs,h,r,ah=>by
  simp only[sB,zYt]at h;subst h;cases ah
 |d+1,k,f::fs,rs,h,r,ah=>by
  simp only[sB]at h
  split at h
  ·cases h
  ·cases ao:o4 P f.type with
   |some gs=>
    rw[ao]at h;simp only at h
    cases hi:P.info? f.type with
    |none=>rw[hi]at h;cases h
    |some inf=>
     rw[hi]at h;simp only at h
     split at h
     ·rename_i u v aa ae
      split at h
      ·simp only[zYt]at h
       subst h
       rcases List.mem_append.1 ah with q|q
       ·exact JI d 0 gs u aa r q
       ·exact JI d _ fs v ae r q
      ·cases h
     ·cases h
   |none=>
    rw[ao]at h;simp only at h
    split at h
    ·rename_i e5 dW
     split at h
     ·rename_i l au
      simp only[zYt]at h;subst h
      rcases zZf.1 ah with rfl|q
      ·unfold JG at dW
       split at dW<;>first|(cases dW;rfl)|cases dW
      ·exact JI d _ fs l au r q
     ·cases h
    ·cases h
theorem ziD{r:a6}(h:r.cmp=true)(x:r.den):hb r x= .v (xt r x):=by
 cases r<;>first|rfl|cases h
theorem Fu{G:aV}{e:Env}: ∀{rs:List a6} {l:List ag},js rs l=true->(∀r∈rs,r.cmp=true)->iP (ag.cc G e l)=some ((hG e rs l).map Ft)
 |[],[],_,_=>rfl|[],_::_,h,_=>by cases h
 |_::_,[],h,_=>by cases h
 |r::rs,x::xs,h,hc=>by
  simp only[js,zZr]at h;have aa:x.den G e= .ad (hb r (x.aL e r)):=BN h.1 (by have:=hc r (by simp);cases r<;>first|rfl|cases this)
  simp only[ag.cc,hG,aa,ziD (hc r (by simp)),iP,Fu h.2 λr ah=>hc r (by simp[ah]),zXq,Ft]
theorem XT{e:Env}: ∀{rs:List a6} {l m:List ag},js rs l=true->js rs m=true->nr e rs l m=qp (hG e rs l) (hG e rs m)
 |[],[],[],_,_=>rfl|[],_::_,_,h,_=>by cases h
 |[],[],_::_,_,h=>by cases h
 |_::_,[],_,h,_=>by cases h
 |_::_,_::_,[],_,h=>by cases h
 |[r],[x],[y],_,_=>by simp[nr,hG,qp,df]|[r],x::mm::xs,_::_,h,_=>by simp[js]at h|[r],[x],y::tq::ys,_,h=>by simp[js]at h|r::s::rs,x::xs,y::ys,h,h'=>by
  simp only[js,zZr]at h h';have:=XT (e:=e) (rs:=s::rs) (l:=xs) (m:=ys) h.2 h'.2
  cases xs with
  |nil=>simp[js]at h|cons mm xs=>
   cases ys with
   |nil=>simp[js]at h'|cons tq ys=>
    have aw:qp (hG e (r::s::rs) (x::mm::xs)) (hG e (r::s::rs) (y::tq::ys))=(vx r (x.aL e r) (y.aL e r)&&qp (hG e (s::rs) (mm::xs)) (hG e (s::rs) (tq::ys))):=by
     simp only[hG,qp,df]
    rw[aw,<-this];simp only[nr]
    cases vx r (x.aL e r) (y.aL e r)<;>rfl
section
variable {P:Program} {G:aV} {o:Oper} {N B:Nat} {e:Env} {S:ax}
theorem XU(hf: ∀c∈S.g,c.ok e){n:Bool}{op:BinOp}(Fv:op=bif n then .neq else .eql){cR ty:TypeId}{x y:Operand}(av:o.op= .binOp op cR x y ty){fs:List Field}{rs:List a6}(h:o4 P cR=some fs)(ah:sB P 64 0 fs=some rs){l m:List ag}(hx:S.bj N x= .cH l)(aA:S.bj N y= .cH m)
 (au:js rs l=true)(hm:js rs m=true):c8 P G o (S.den G N B e) (.ad (.v (.bool (bif n then !nr e rs l m else nr e rs l m)))):=by
 have hc:=JI 64 0 fs rs ah;have jH:aR G (S.den G N B e) x= .agg (ag.cc G e l):=by rw[b3 hf,hx];rfl
 have pC:aR G (S.den G N B e) y= .agg (ag.cc G e m):=by rw[b3 hf,aA];rfl
 have af:=JH 64 0 fs rs ah _ _ (E9 G e au).1 (E9 G e hm).1;rw[<-XT au hm]at af
 cases n with
 |true=>
  subst Fv;exact WC cR ty x y av h jH pC (Fu au hc) (Fu hm hc) af
 |false=>
  subst Fv;exact WB cR ty x y av h jH pC (Fu au hc) (Fu hm hc) af
end
end Go.aH
