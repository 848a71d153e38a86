/- TD, part Q: regions whose order is fixed. Conditions: none. -/
import Derived.Test.YtmkpmgfieagphaaGreatDoorJTDm2
namespace Go.aM
open Go
def xA(k:Nat):bJ→List b6
 | .f1 .n6 x=>[.d1 k .n6 x]
 | .f1 (.iQ c) x=>[.d1 k (.iQ c) x]
 | .f1 .nj x=>[.d1 k .nj x]
 | .f2 (.ju .add .i64 .i64) x y=>[.d2 k (.ju .add .i64 .i64) x y]
 | .f2 (.pe .lss .i64) x y=>[.d2 k (.pe .lss .i64) x y]
 |_=>[]
def xB(k:Nat):List bJ→List b6→List b6
 |[],g=>g
 |x::r,g=>xB (k+1) r (xA k x++g)
def aq.e2(S:aq)(k:Nat)(xs:List bJ):aq:={S with k:=k+xs.length,g:=xB k xs S.g}
inductive Ey where
 |yes
 |no
 |on (gs:List (ab × Bool))
 |bad
def vo(l:List b6)(b:Bool):ab→Ey
 | .cs (.bool c)=>match decide (c=b)with
  |true=>.yes
  |false=>.no
 | .tp _=>.no
 | .fE h c v=>match h.rt with
  |some .bool=>match vo l b v with
   | .yes=>.on [(h,c)]
   | .no=>.no
   | .on gs=>.on ((h,c)::gs)
   | .bad=>.bad
  |_=>.bad
 |g=>match g.rt,lg g l with
  |some .bool,some c=>match decide (c=b)with
   |true=>.yes
   |false=>.no
  |some .bool,none=>.on [(g,b)]
  |_,_=>.bad
def guardOf(N:Nat)(ops:Array Oper)(S:aq)(o:Oper):Ey:=
 match o.guard with
 |none=>.yes
 |some (j,b)=>match mn ops j with
  |some d=>match Nat.blt d N with
   |true=>vo S.g b ((S.at d).res S.g)
   |false=>.bad
  |none=>.bad
def ht:List (ab × Bool)→List b6→List b6
 |[],l=>l
 |(g,b)::r,l=>.dT g b::ht r l
def qH:List (ab × Bool)→fe→fe
 |[],n=>n
 |(g,b)::r,n=>.Sa g b (qH r n)
def lS(k:Nat):List (ab × Bool)→Bool
 |[]=>true
 |(g,_)::r=>g.lt k&&lS k r
def fH(e:Env):List (ab × Bool)→Bool
 |[]=>true
 |(g,b)::r=>(g.aA e .bool==b)&&fH e r
def L6(P:Program)(B:Nat)(S:aq)(t:TypeId)(x:ab):Option dc:=
 match x.rt,isStr P t&&Nat.ble B S.n with
 |some .str,true=>some ⟨[],[],none,(S.n,.it .st x (.cs (.int .i64 0)))::S.h,S.n+1,.gW S.n⟩
 |_,_=>none
def Ez(P:Program)(N B:Nat)(T:List (Nat × bL))(S:aq)(o:Oper):Option dc:=
 match o.op with
 | .alloc t=>Lk P B S t
 | .box t x=>Ll B S t (S.aZ N x)
 | .store t p x=>Lm P S t (S.aZ N p) (S.aZ N x)
 | .buildSlice t len ps=>match Lv P N B T S t len ps.toList with
  |some r=>some r
  |none=>match Lx P B T S t len ps.toList with
   |some r=>some r
   |none=>match Lu P N T S t len ps.toList with
    |some r=>some r
    |none=>Ly P N B S t len ps.toList
 | .makeSlice t x y=>LA P B T S t (S.aZ N x) (S.aZ N y)
 | .range t x=>L6 P B S t (S.aZ N x)
 | .makeMap t none=>L4 P B T S t
 | .mapUpdate t m x y=>L5 P T S t (S.aZ N m) (S.aZ N x) (S.aZ N y)
 | .call c=>match c.callee,c.args.toList,c.argTypes.toList with
  | .builtin .append,[x,y],[t,bz]=>match Nat.beq t bz with
   |true=>LB P B S t (S.aZ N x) (S.aZ N y)
   |false=>LC P B S t bz (S.aZ N x) (S.aZ N y)
  |_,_,_=>none
 |_=>none
structure qI where
 xs:List bJ
 g:ab
 h:List (Nat × bC)
 v:ab
 bh:ab
def Ti(S:aq)(x:ab):Option qI:=
 match x with
 | .gW id=>match db S.h id with
  |some (.it .st s p)=>match s.rt,p.rt with
   |some .str,some (.int .i64)=>some ⟨[.f2 .l5 s p,.f2 .l7 s p,.f2 .l6 s p,.f2 .kP s p],.aV .bool S.k,jv S.h id (.it .st s (.aV (.int .i64) (S.k+3))),
    .tp [.cs (.bool true),.aV (.int .i64) (S.k+1),.aV (.int .i32) (S.k+2)],.tp [.cs (.bool false)]⟩
   |_,_=>none
  |_=>none
 |_=>none
def L7(N:Nat)(S:aq)(o:Oper):Option qI:=
 match o.op with
 | .next x true=>Ti S (S.aZ N x)
 |_=>none
def qI.ok(q:qI)(S:aq):Bool:=(hs S.k q.xs&&q.g.lt (S.k+q.xs.length))&&(eH (S.k+q.xs.length) q.h&&(q.v.lt (S.k+q.xs.length)&&q.bh.lt (S.k+q.xs.length)))
def qI.st(q:qI)(S:aq)(dst:Option Nat):aq:=(aq.put {S.e2 S.k q.xs with h:=q.h,g:=.dT q.g true::(S.e2 S.k q.xs).g} dst q.v).Eu
def qI.xC(q:qI)(S:aq)(dst:Option Nat):aq:=(aq.put {S.e2 S.k q.xs with g:=.dT q.g false::(S.e2 S.k q.xs).g} dst q.bh).Eu
def bC.kind:bC→bC→Bool
 | .dn _ _,.dn _ _=>true
 | .rw _ c _,.rw _ d _=>Nat.beq (bZ c) (bZ d)
 | .it _ _ _,.it _ _ _=>true
 |_,_=>false
def AA(n:Nat)(aH:List (Nat × bC)):List (Nat × bC)→Bool
 |[]=>true
 |(id,o)::r=>(match Nat.blt id n with
  |true=>match db aH id with
   |some cz=>bC.kind cz o
   |none=>false
  |false=>true)&&AA n aH r
mutual
def ab.rX(n:Nat):ab→Bool
 | .ch l=>ab.tm n l
 | .tp l=>ab.tm n l
 | .eb k _=>Nat.blt k n
 | .gM k _ _=>Nat.blt k n
 | .gT k _ _ _=>Nat.blt k n
 | .aO k=>Nat.blt k n
 | .cO k _=>Nat.blt k n
 | .fg _ (some k) _=>Nat.blt k n
 | .fn _ a b=>ab.tm n a&&ab.tm n b
 | .gW k=>Nat.blt k n
 | .fE _ _ x=>ab.rX n x
 |_=>true
def ab.tm(n:Nat):List ab→Bool
 |[]=>true
 |x::r=>ab.rX n x&&ab.tm n r
end
def og(n:Nat):List (Nat × bC)→Bool
 |[]=>true
 |(id,.dn _ l)::r=>Nat.blt id n&&(ab.tm n l&&og n r)
 |(id,.rw _ _ _)::r=>Nat.blt id n&&og n r
 |(id,.it _ _ _)::r=>Nat.blt id n&&og n r
def aq.back(S:aq)(dst:Option Nat)(C:aq):aq:=(⟨S.l,C.h,C.n,C.k,C.g⟩:aq).put dst (C.at 0)
def EA(S C:aq):Bool:=(ab.rX C.n (C.at 0)&&og C.n C.h)&&(Nat.ble S.n C.n&&AA S.n S.h C.h)
def AB(S:aq)(dst:Option Nat)(C:aq):aB:=
 match EA S C with
 |true=>.cH .cj (S.back dst C)
 |false=>.bad 34
def L8(C:aq):List ab→List ab→Nat→Option (Nat × Nat × Nat)
 | .aO k::r,.aO m::eR,off=>match Nat.beq k m,db C.h k,db C.h m with
  |false,none,some (.rw _ _ _)=>some (off,k,m)
  |_,_,_=>L8 C r eR (off+1)
 |_::r,_::eR,off=>L8 C r eR (off+1)
 |_,_,_=>none
def EB(C:aq):List (Nat × bC)→Option (Nat × Nat × Nat × Nat)
 |[]=>none
 |(id,.dn _ zfc)::r=>match db C.h id with
  |some (.dn _ l)=>match L8 C zfc l 0 with
   |some (off,k,m)=>some (id,off,k,m)
   |none=>EB C r
  |_=>EB C r
 |_::r=>EB C r
def EC(m:Nat):Option ab→Bool
 |some (.aO j)=>Nat.beq j m
 |_=>false
def xD(B id off k m:Nat)(C:aq):aq:=
 match db C.h id,db C.h m with
 |some (.dn t l),some (.rw gN c x)=>match EC m (l[off]?)&&((Nat.ble B k&&Nat.blt k C.n)&& !(Nat.beq id k))with
  |true=>⟨(C.l.map (ab.kill m)).map (ab.kill k),jv ((k,.rw gN c x)::hr k (hr m C.h)) id (.dn t ((ab.ed k (ab.ed m l)).set off (.aO k))),C.n,C.k,C.g⟩
  |false=>C
 |_,_=>C
def vp(B:Nat)(S C:aq):aq:=
 match EB C S.h with
 |some (id,off,k,m)=>xD B id off k m C
 |none=>C
def L9(B:Nat)(C:aq):List (Nat × bC)→Option Nat
 |[]=>none
 |(id,.rw _ _ _)::r=>match db C.h id,Nat.ble B id with
  |none,true=>some id
  |_,_=>L9 B C r
 |_::r=>L9 B C r
def tn(B d k m:Nat)(C:aq):aq:=
 match db C.h m with
 |some (.rw gN c x)=>match EC m (C.l.get d)&&(Nat.ble B k&&Nat.blt k C.n)with
  |true=>aq.put ⟨(C.l.map (ab.kill m)).map (ab.kill k),(k,.rw gN c x)::hr k (hr m C.h),C.n,C.k,C.g⟩ (some d) (.aO k)
  |false=>C
 |_=>C
def vq(B N:Nat)(S C:aq)(dst:Option Nat):aq:=
 match dst with
 |some d=>match C.l.get d,L9 B C S.h with
  |some (.aO m),some k=>match Nat.ble S.n m&&Nat.blt d N with
   |true=>match Nat.blt d N with
    |true=>tn B d k m C
    |false=>C
   |false=>C
  |_,_=>C
 |none=>C
def AD(P:Program)(N:Nat)(S:aq)(o:Oper):Option (Nat × List ab):=
 match o.op with
 | .call c=>match c.callee with
  | .value x=>match S.aZ N x with
   | .fn (.func f) p q=>some (f,p++c.args.toList.map (S.aZ N)++q)
   |_=>none
  | .invoke x name=>match S.aZ N x with
   | .ep t a rs l=>match methodOf P t name,rR a l,decide (pr l=some rs)with
    |some f,some v,true=>some (f,[v]++c.args.toList.map (S.aZ N)++[])
    |_,_,_=>none
   |_=>none
  |_=>none
 |_=>none
def ab.nc(id:Nat)(x y:ab):ab:=
 match y with
 | .aO j=>match Nat.beq j id with
  |true=>x
  |false=>.aO j
 |y=>ab.kill id y
def Ma(id:Nat)(x:ab)(S:aq):aq:=⟨S.l.map (ab.nc id x),hr id S.h,S.n,S.k,S.g⟩
def xE(S:aq)(id:Nat):aq:=
 match db S.h id with
 |some (.rw _ c (.aV r k))=>match hR r (.li c)with
  |true=>Ma id (.aV r k) S
  |false=>S
 |_=>S
def mI:List ab→aq→aq
 |[],S=>S
 | .aO id::r,S=>mI r (xE S id)
 |_::r,S=>mI r S
def Tj(f:Nat):List Nat→Bool
 |[]=>false
 |g::r=>Nat.beq g f||Tj f r
def preB(P:Program)(N:Nat)(S:aq)(o:Oper):Option (List ab):=
 match o.op with
 | .call _=>match o.guard with
  |some _=>none
  |none=>match AD P N S o with
   |some (f,aG)=>match Tj f zc6 with
    |true=>some aG
    |false=>none
   |none=>none
 |_=>none
def AE(f:gF)(x:ab):List b6→Option Nat
 |[]=>none
 | .d1 j g y::r=>match decide (g=f)&&eI y x with
  |true=>some j
  |false=>AE f x r
 |_::r=>AE f x r
def Mb(S:aq)(r:dt):Option (aW × Nat):=
 match r.xs,r.ns,r.v with
 |[.f1 f x],[],.aV t k=>match Nat.beq k S.k with
  |true=>match AE f x S.g with
   |some j=>match Nat.blt j S.k with
    |true=>some (t,j)
    |false=>none
   |none=>none
  |false=>none
 |_,_,_=>none
def Tk(f:cC)(a b:Int):Option ab:=
 match f with
 | .ju .add .i64 .i64=>some (.cs (.int .i64 (bD .add .i64 a b)))
 | .ju .sub .i64 .i64=>some (.cs (.int .i64 (bD .sub .i64 a b)))
 | .ju .mul .i64 .i64=>some (.cs (.int .i64 (bD .mul .i64 a b)))
 | .pe op .i64=>some (.cs (.bool (z6 op a b)))
 |_=>none
def Mc(S:aq)(r:dt):Option ab:=
 match r.xs,r.ns,r.v with
 |[.f2 f (.cs (.int .i64 a)) (.cs (.int .i64 b))],[],.aV t k=>match Nat.beq k S.k&&hR t f.c with
  |true=>Tk f a b
  |false=>none
 |_,_,_=>none
def Md(o:Oper):Nat:=
 match o.op with
 | .pick _ _ _=>1
 | .alloc _=>2
 | .box _ _=>3
 | .build _ _=>4
 | .buildSlice _ _ _=>5
 | .insert _ _ _ _=>6
 | .load _ _=>7
 | .store _ _ _=>8
 | .nilCheck _=>9
 | .binOp _ _ _ _ _=>10
 | .unOp _ _ _=>11
 | .convert _ _ _=>12
 | .makeInterface _ _=>13
 | .makeFunc _ _ _=>14
 | .makeMap _ _=>15
 | .makeSlice _ _ _=>16
 | .slice _ _ _ _ _=>17
 | .fieldAddr _ _ _=>18
 | .field _ _ _=>19
 | .indexAddr _ _ _=>20
 | .index _ _ _=>21
 | .lookup _ _ _ _=>22
 | .mapUpdate _ _ _ _=>23
 | .call c=>match c.callee with
  | .builtin .append=>30
  | .builtin .len=>31
  | .builtin .copy=>32
  | .builtin _=>33
  | .value _=>34
  |_=>35
 | .range _ _=>40
 | .next _ _=>41
 | .extract _ _=>42
 |_=>50
def exec(P:Program)(N B:Nat)(T:List (Nat × bL))(inl:Nat→List ab→aq→aB)(o:Oper)(S:aq)(k:aq→aB):aB:=
 match qD P N S o with
 |some r=>match hs S.k r.xs&&r.v.lt (S.k+r.xs.length)with
  |true=>match Mb S r with
   |some (t,j)=>k (S.put o.dst (.aV t j))
   |none=>match Mc S r with
    |some v=>k (S.put o.dst v)
    |none=>emit S.k r.xs r.ns (k ((S.e2 S.k r.xs).put o.dst r.v))
  |false=>.bad 30
 |none=>match Ez P N B T S o with
  |some r=>match hs S.k r.xs&&(r.v.lt (S.k+r.xs.length)&&eH (S.k+r.xs.length) r.h)with
   |true=>emit S.k r.xs r.ns (k ((r.st S o.dst).e2 S.k r.xs))
   |false=>.bad 31
  |none=>match L7 N S o with
   |some q=>match q.ok S with
    |true=>emit S.k q.xs [] (.it q.g (k (q.st S o.dst)) (k (q.xC S o.dst)))
    |false=>.bad 33
   |none=>match AD P N S o with
    |some (f,aG)=>match m9 P f with
     |true=>iH N S ((inl f aG S).eK (AB S o.dst) none) fun C=>k (vq B N S (vp B S C) o.dst)
     |false=>.bad 32
    |none=>.bad (100+Md o)
def ED(g:ab)(b:Bool)(x y:aB):aB:=
 match b with
 |true=>.it g x y
 |false=>.it g y x
def tq(y:List b6→aB):List (ab × Bool)→aB→List b6→aB
 |[],x,_=>x
 |(g,b)::r,x,l=>ED g b (tq y r x (.dT g b::l)) (y (.dT g (!b)::l))
def rY(S:aq)(dst:Option Nat)(l:List b6):aB:=.cH .cj (aq.put {S with g:=l} dst (.tp []))
def hH(P:Program)(N B:Nat)(T:List (Nat × bL))(inl:Nat→List ab→aq→aB)(ops:Array Oper):List Oper→aq→aB
 |[],S=>.cH .cj S
 |o::r,S=>match guardOf N ops S o with
  | .yes=>match preB P N S o with
   |some aG=>exec P N B T inl o (mI aG S) (hH P N B T inl ops r)
   |none=>exec P N B T inl o S (hH P N B T inl ops r)
  | .no=>hH P N B T inl ops r (S.put o.dst (.tp []))
  | .on gs=>match lS S.k gs with
   |true=>match qD P N {S with g:=ht gs S.g} o with
    |some q=>match hs S.k q.xs&&q.v.lt (S.k+q.xs.length)with
     |true=>emit S.k q.xs (q.ns.map (qH gs)) (hH P N B T inl ops r ((S.e2 S.k q.xs).put o.dst (km gs q.v)))
     |false=>.bad 35
    |none=>qF N S o.dst gs (tq (rY S o.dst) gs (exec P N B T inl o {S with g:=ht gs S.g} (.cH .cj)) S.g) (hH P N B T inl ops r)
   |false=>.bad 36
  | .bad=>.bad 37
section
variable {P:Program} {G:a8} {N B:Nat} {M:List aS} {T:List (Nat × bL)} {inl:Nat→List ab→aq→aB}
theorem zfd{S:aq}{o:Oper}{t:TypeId}{x:Operand}{r:dc}(an:o.op= .range t x)(h:L6 P B S t (S.aZ N x)=some r):mG P G N B M o S r:=fun e hf hx hn=>by
 unfold L6 at h
 split at h
 ·rename_i Am hc
  cases h;simp only[Bool.and_eq_true]at hc
  have jy:aL G (S.den G N B e) x= .av (.v (.string ((S.aZ N x).aA e .str))):=by rw[bE hf];exact fW Am
  have:=zcK (P:=P) (G:=G) (s:=S.den G N B e) t x an (uH hc.1) jy (Nat.le_of_ble_eq_true hc.2)
  unfold dc.st;rw[fa];exact this
 ·cases h
theorem zfe{S:aq}{o:Oper}{q:qI}{e:Env}(h:L7 N S o=some q)(hf:S.ct e)(hx: ∀(j:Nat) (x:bJ),q.xs[j]? =some x→Env.at e (S.k+j)=x.den M e):
 (q.g.aA e .bool=true→dQ P G o (S.den G N B e) ((aq.put {S with h:=q.h} o.dst q.v).den G N B e))∧(q.g.aA e .bool=false→dQ P G o (S.den G N B e) ((S.put o.dst q.bh).den G N B e)):=by
 unfold L7 at h
 split at h
 ·rename_i x an
  unfold Ti at h
  split at h
  ·rename_i id aw
   split at h
   ·rename_i s p ah
    split at h
    ·rename_i aa ae
     cases h
     have jy:aL G (S.den G N B e) x= .ref id:=by rw[bE hf,aw];rfl
     have bd:aE (S.den G N B e).heap id=some (.bM (qo (s.aA e .str) (Int.toNat (p.aA e (.int .i64))))):=by
      show aE (cx G e S.h) id=_;rw[ef,ah];rfl
     have x0:=hx 0 _ rfl
     have ao:=hx 1 _ rfl
     have bW:=hx 2 _ rfl
     have cd:=hx 3 _ rfl
     simp only[bJ.den,cC.den,Nat.add_zero]at x0 ao bW cd
     have th:(ab.aV .bool S.k).aA e .bool=decide (Int.toNat (p.aA e (.int .i64))<ByteArray.size (s.aA e .str)):=by
      simp only[ab.aA,ab.fo,ab.dyn,x0,cA]
     refine⟨fun aI=>?_,fun aI=>?_⟩
     ·rw[th]at aI
      have:=zcM (P:=P) (G:=G) (s:=S.den G N B e) x an jy bd (of_decide_eq_true aI) (c:=(Utf8.decode (s.aA e .str) (Int.toNat (p.aA e (.int .i64)))).1) (k:=(Utf8.decode (s.aA e .str) (Int.toNat (p.aA e (.int .i64)))).2) rfl
      rw[fa]
      have bb:(({S with h:=jv S.h id (.it .st s (.aV (.int .i64) (S.k+3)))}:aq).den G N B e)={S.den G N B e with heap:=eO (S.den G N B e).heap id (.bM (qo (s.aA e .str) (Int.toNat (p.aA e (.int .i64))+(Utf8.decode (s.aA e .str) (Int.toNat (p.aA e (.int .i64)))).2)))}:=by
       simp only[aq.den,s8,bC.den]
       congr 3
       simp only[ab.aA,ab.fo,ab.dyn,cd,cA];rfl
      rw[bb]
      have zff:(ab.tp [.cs (.bool true),.aV (.int .i64) (S.k+1),.aV (.int .i32) (S.k+2)]).den G e= .tuple [.av (.v (.bool true)),.av (.v (.int .i64 ((Int.toNat (p.aA e (.int .i64)):Nat):Int))),.av (.v (.int .i32 (((Utf8.decode (s.aA e .str) (Int.toNat (p.aA e (.int .i64)))).1:Nat):Int)))]:=by
       simp only[ab.den,ab.bQ,ao,bW,cA,fC,ke]
      rw[zff];exact this
     ·rw[th]at aI
      have:=zcL (P:=P) (G:=G) (s:=S.den G N B e) x an jy bd (Nat.le_of_not_lt (of_decide_eq_false aI))
      rw[fa];exact this.step
    ·cases h
   ·cases h
  ·cases h
 ·cases h
theorem Tl{S:aq}{o:Oper}{r:dc}(h:Ez P N B T S o=some r):mG P G N B M o S r:=by
 unfold Ez at h
 split at h
 ·exact zeB (by assumption) h
 ·exact zeC (by assumption) h
 ·exact zeE (by assumption) h
 ·split at h
  ·rename_i aJ
   cases h;exact zeR (by assumption) aJ
  ·split at h
   ·rename_i aJ
    cases h;exact zeQ (by assumption) aJ
   ·split at h
    ·rename_i aJ
     cases h;exact zeO (by assumption) aJ
    ·exact zeS (by assumption) h
 ·exact zeT (by assumption) h
 ·exact zfd (by assumption) h
 ·exact zfa (by assumption) h
 ·exact zfb (by assumption) h
 ·rename_i c an
  split at h
  ·rename_i x y t bz hc hx aI
   split at h
   ·rename_i ad
    have:=Nat.eq_of_beq_eq_true ad
    subst this;obtain⟨callee,args,ts⟩:=c;simp only at hc hx aI;rw[hc,zO hx,zO aI]at an;exact zeW an h
   ·obtain⟨callee,args,ts⟩:=c
    simp only at hc hx aI;rw[hc,zO hx,zO aI]at an;exact zeX an h
  ·cases h
 ·cases h
theorem tr{g:ab}{a b:aB}{e:Env}{v:Bool}(h:g.aA e .bool=v):run M (.it g a b) e=match v with|true=>run M a e|false=>run M b e:=by
 simp only[run,aB.fold,h]
 cases v<;>rfl
def AF:b0→Exit→Prop
 | .cj,.normal=>True
 | .ext n,.exit m=>n=m
 | .ret,.ret=>True
 |_,_=>False
def jB(G:a8)(N B:Nat)(M:List aS)(t:aB)(e:Env)(aX:Nat):Exit→aP→Prop:=fun ex st=>
 ∃x dg ay,run M t e=some (x,dg,ay)∧AF x ex∧cm st (dg.den G N B ay)∧dg.cr∧dg.ct ay∧bX aX e ay∧aX≤dg.k
theorem jB.sub{t bz:aB}{e ay:Env}{k bk:Nat}{ex:Exit}{st:aP}(h:jB G N B M bz ay bk ex st)(af:run M t e=run M bz ay)(aY:bX k e ay)(aj:k≤bk):jB G N B M t e k ex st:=by
 obtain⟨x,dg,bf,aa,ae,au,aR,bA,cB,dM⟩:=h
 exact⟨x,dg,bf,af.trans aa,ae,au,aR,bA,bX.trans aY cB aj,Nat.le_trans aj dM⟩
theorem Tm{x:b0}{ex:Exit}(h:AF x ex)(n:Nat):x.bT n=false:=by
 cases x with
 |lf m=>cases ex<;>cases h
 |_=>rfl
def fK(P:Program)(G:a8)(M:List aS)(inl:Nat→List ab→aq→aB):Prop:=
 ∀f aG (S:aq) e,S.cr→ab.cK S.k aG=true→S.ct e→(inl f aG S).safe M e→
  dF P G f (ab.bQ G e aG) (cx G e S.h) S.n fun r bV=>∃C ay,run M (inl f aG S) e=some (.cj,C,ay)∧r=(C.at 0).den G ay∧bV=cx G ay C.h∧C.cr∧C.ct ay∧bX S.k e ay∧S.k≤C.k
theorem zfg{e:Env}{k:Nat}{x:bJ}(h:Env.at e k=x.den M e): ∀c∈xA k x,c.ok e:=fun c hc=>by
 unfold xA at hc
 split at hc
 ·rw[List.mem_singleton]at hc;subst hc;exact h
 ·rw[List.mem_singleton]at hc;subst hc;exact h
 ·rw[List.mem_singleton]at hc;subst hc;exact h
 ·rw[List.mem_singleton]at hc;subst hc;exact h
 ·rw[List.mem_singleton]at hc;subst hc;exact h
 ·cases hc
theorem zfh{k:Nat}{x:bJ}(h:x.lt k=true):fh (k+1) (xA k x)=true:=by
 have ad:Nat.blt k (k+1)=true:=jV (Nat.lt_succ_self k)
 unfold xA
 split
 ·simp only[fh,b6.lt,ad,gE (Nat.le_succ k) (x:=_) h,Bool.and_self]
 ·simp only[fh,b6.lt,ad,gE (Nat.le_succ k) (x:=_) h,Bool.and_self]
 ·simp only[fh,b6.lt,ad,gE (Nat.le_succ k) (x:=_) h,Bool.and_self]
 ·simp only[bJ.lt,Bool.and_eq_true]at h
  simp only[fh,b6.lt,ad,gE (Nat.le_succ k) h.1,gE (Nat.le_succ k) h.2,Bool.and_self]
 ·simp only[bJ.lt,Bool.and_eq_true]at h
  simp only[fh,b6.lt,ad,gE (Nat.le_succ k) h.1,gE (Nat.le_succ k) h.2,Bool.and_self]
 ·rfl
theorem Tn{k:Nat}: ∀{a b:List b6},fh k a=true→fh k b=true→fh k (a++b)=true
 |[],_,_,h=>h
 |c::a,b,h,h'=>by
  simp only[fh,Bool.and_eq_true]at h;simp only[List.cons_append,fh,h.1,Tn h.2 h',Bool.and_self]
theorem To{e:Env}: ∀{xs:List bJ} {k:Nat} {g:List b6},(∀c∈g,c.ok e)→(∀(j:Nat) (x:bJ),xs[j]? =some x→Env.at e (k+j)=x.den M e)→∀c∈xB k xs g,c.ok e
 |[],_,_,h,_=>h
 |x::r,k,g,h,hx=>by
  refine To (xs:=r) (k:=k+1) (fun c hc=>?_) fun j y ax=>?_
  ·rcases List.mem_append.1 hc with hc|hc
   ·exact zfg (hx 0 x (by simp)) c hc
   ·exact h c hc
  ·have:=hx (j+1) y (by simpa using ax)
   rw[show k+1+j=k+(j+1)by omega];exact this
theorem Tp: ∀{xs:List bJ} {k:Nat} {g:List b6},hs k xs=true→fh k g=true→fh (k+xs.length) (xB k xs g)=true
 |[],_,_,_,h=>h
 |x::r,k,g,ar,h=>by
  simp only[hs,Bool.and_eq_true]at ar
  have:=Tp (xs:=r) (k:=k+1) (g:=xA k x++g) ar.2 (Tn (zfh ar.1) (oa (Nat.le_succ k) h))
  rw[List.length_cons,show k+(r.length+1)=k+1+r.length by omega]
  exact this
theorem rZ{S:aq}{e:Env}{xs:List bJ}(ad:S.cr)(hf:S.ct e)(ar:hs S.k xs=true):
 (S.e2 S.k xs).cr∧(S.e2 S.k xs).ct (di M e S.k xs)∧(S.e2 S.k xs).den G N B (di M e S.k xs)=S.den G N B e:=by
 have aY:bX S.k e (di M e S.k xs):=jW (Nat.le_refl _)
 refine⟨⟨fun i x hx=>gE (Nat.le_add_right _ _) (ad.l i x hx),s9 (Nat.le_add_right _ _) ad.h,Tp ar ad.g⟩,To (ik aY ad.g hf) (jz ar),?_⟩
 exact(lh aY ad:S.den G N B (di M e S.k xs)=S.den G N B e)
theorem jd{S:aq}{dst:Option Nat}{v:ab}(ad:S.cr)(aw:v.lt S.k=true):(S.put dst v).cr:=by
 cases dst with
 |none=>exact ad
 |some d=>
  refine⟨fun i x hx=>?_,ad.h,ad.g⟩
  simp only[aq.put,ba.h0]at hx
  split at hx
  ·cases hx;exact aw
  ·exact ad.l i x hx
theorem AG{e:Env}{f:gF}{x:ab}{j:Nat}: ∀{l:List b6},AE f x l=some j→(∀c∈l,c.ok e)→Env.at e j=⟨f.c,f.den (x.aA e f.a)⟩
 | .d1 i g y::r,h,hc=>by
  simp only[AE]at h
  split at h
  ·rename_i ad
   cases h;simp only[Bool.and_eq_true,decide_eq_true_eq]at ad
   have:=hc (.d1 j g y) (by simp)
   simp only[b6.ok]at this;rw[this,ad.1,e1 ad.2]
  ·exact AG h fun c hm=>hc c (by simp[hm])
 | .d2 _ _ _ _::r,h,hc=>AG (l:=r) h fun c hm=>hc c (by simp[hm])
 | .rg _ _::r,h,hc=>AG (l:=r) h fun c hm=>hc c (by simp[hm])
 | .dT _ _::r,h,hc=>AG (l:=r) h fun c hm=>hc c (by simp[hm])
theorem zfi{S:aq}{r:dt}{t:aW}{j:Nat}{e:Env}(h:Mb S r=some (t,j))(hf:S.ct e)(ar:hs S.k r.xs=true):(ab.aV t j).den G e=r.v.den G (di M e S.k r.xs)∧Nat.blt j S.k=true∧r.ns=[]:=by
 unfold Mb at h
 split at h
 ·rename_i f x bz k hx hn aw
  split at h
  ·rename_i aj
   split at h
   ·rename_i ziO ag
    split at h
    ·rename_i bI
     cases h;refine⟨?_,bI,hn⟩
     have aa:=AG ag hf
     have ae:=jz (M:=M) (e:=e) ar 0 (.f1 f x) (by rw[hx];rfl)
     rw[Nat.add_zero]at ae;rw[aw,Nat.eq_of_beq_eq_true aj];simp only[ab.den];rw[aa,ae]
     have zfj:x.lt S.k=true:=by
      rw[hx]at ar;simp only[hs,bJ.lt,Bool.and_eq_true]at ar;exact ar.1
     simp only[bJ.den];rw[eF (jW (Nat.le_refl _)) zfj]
    ·cases h
   ·cases h
  ·cases h
 ·cases h
theorem zfk{S:aq}{r:dt}{v:ab}{e:Env}(h:Mc S r=some v)(ar:hs S.k r.xs=true):v.den G e=r.v.den G (di M e S.k r.xs)∧v.lt S.k=true∧r.ns=[]:=by
 unfold Mc at h
 split at h
 ·rename_i f a b t k hx hn aw
  split at h
  ·rename_i aj
   simp only[Bool.and_eq_true]at aj
   have ae:=jz (M:=M) (e:=e) ar 0 _ (by rw[hx];rfl)
   rw[Nat.add_zero]at ae;rw[aw,Nat.eq_of_beq_eq_true aj.1,hp aj.2];unfold Tk at h
   split at h<;>first|cases h|skip
   all_goals
    refine⟨?_,rfl,hn⟩
    simp only[ab.den,ae,bJ.den,cA,ab.aA,ab.fo,ab.dyn,cC.den];rfl
  ·cases h
 ·cases h
theorem je{S:aq}{dst:Option Nat}{v:ab}{e:Env}(hf:S.ct e):(S.put dst v).ct e:=by
 cases dst<;>exact hf
theorem jf{S:aq}{dst:Option Nat}{v:ab}:(S.put dst v).k=S.k:=by cases dst<;>rfl
end
end Go.aM
namespace Go.aM
open Go
section
variable {P:Program} {G:a8} {N B:Nat} {M:List aS} {T:List (Nat × bL)} {inl:Nat→List ab→aq→aB}
theorem cv.zfl{ops:Array Oper}{o:Oper}{rest:List Oper}{s:aP}{Q:Exit→aP→Prop}{A:aP→Prop}(ah:dN ops s o=some true)
 (h: ∀(E:Entry) (a:Act) (w:World),Rel E G s a w→∀(K:Act→World→Prop) (Q:Exit→Act→World→Prop),(∀t,A t→∀bc w',Rel E G t bc w'→K bc w')→o.wp P a w K Q)(k: ∀t,A t→cv P G ops Q rest t):cv P G ops Q (o::rest) s:=
 fun E a w af=>wpList_step fun _ hK=>by
  have ax:=n3 af ah
  simp only[ax,if_true];exact h E a w af _ _ fun t aI bc w' dW=>hK bc w' (k t aI E bc w' dW)
mutual
theorem EE{n:Nat}{e:Env}: ∀{x:ab},ab.rX n x=true→gB n (x.den G e)=true:=fun {x} h=>by
 cases x with
 |ch l=>simp only[ab.den,gB];exact xF (l:=l) h
 |tp l=>simp only[ab.den,gB];exact xF (l:=l) h
 |fn f a b=>
  simp only[ab.rX,Bool.and_eq_true]at h;simp only[ab.den,gB,xF h.1,xF h.2,Bool.and_self]
 |eb k o=>simp only[ab.den,gB];exact decide_eq_true (e7 h)
 |gM k x o=>simp only[ab.den,gB];exact decide_eq_true (e7 (i:=k) h)
 |gT k o x n=>simp only[ab.den,gB];exact decide_eq_true (e7 (i:=k) h)
 |cO k n=>simp only[ab.den,gB];exact decide_eq_true (e7 (i:=k) h)
 |fg g i o=>
  cases i with
  |none=>simp only[ab.den];cases g.aA e .bool<;>rfl
  |some k=>
   have aa:decide (k<n)=true:=decide_eq_true (e7 (i:=k) h)
   simp only[ab.den];cases g.aA e .bool
   ·rfl
   ·exact aa
 |aO k=>simp only[ab.den,gB];exact decide_eq_true (e7 h)
 |gW k=>simp only[ab.den,gB];exact decide_eq_true (e7 h)
 |fE g b x=>
  have:gB n (x.den G e)=true:=EE h
  simp only[ab.den]
  cases g.aA e .bool<;>cases b<;>first|exact this|rfl
 |lN g o=>simp only[ab.den];cases G g<;>rfl
 |_=>rfl
theorem xF{n:Nat}{e:Env}: ∀{l:List ab},ab.tm n l=true→k3 n (ab.bQ G e l)=true:=fun {l} h=>by
 match l with
 |[]=>rfl
 |x::r=>
  simp only[ab.tm,Bool.and_eq_true]at h;simp only[ab.bQ,k3,EE h.1,xF h.2,Bool.and_self]
end
theorem xG{n:Nat}{e:Env}: ∀{h:List (Nat × bC)},og n h=true→k4 n (cx G e h)=true
 |[],_=>rfl
 |(id,.dn t l)::r,h=>by
  simp only[og,Bool.and_eq_true]at h;simp only[cx,bC.den,k4,xG h.2.2,xF h.2.1,decide_eq_true (e7 h.1),Bool.and_self]
 |(id,.rw t c x)::r,h=>by
  simp only[og,Bool.and_eq_true]at h;simp only[cx,bC.den,k4,xG h.2,decide_eq_true (e7 h.1),Bool.and_self]
 |(id,.it q x p)::r,h=>by
  simp only[og,Bool.and_eq_true]at h;simp only[cx,bC.den,k4,xG h.2,decide_eq_true (e7 h.1),Bool.and_self]
theorem Tq: ∀{h:List (Nat × bC)} {id:Nat} {o:bC},db h id=some o→(id,o)∈h
 |(i,p)::r,id,o,h=>by
  simp only[db]at h
  split at h
  ·rename_i ad
   cases h;rw[Nat.eq_of_beq_eq_true ad];simp
  ·exact List.mem_cons_of_mem _ (Tq h)
theorem zfm{n:Nat}{aH:List (Nat × bC)}{e ay:Env}: ∀{h:List (Nat × bC)},AA n aH h=true→∀id o,id<n→aE (cx G ay h) id=some o→∃cz,aE (cx G e aH) id=some cz∧Ea cz o:=by
 have key: ∀{h:List (Nat × bC)},AA n aH h=true→∀id py,(id,py)∈h→id<n→∃cz,db aH id=some cz∧bC.kind cz py=true:=by
  intro h
  induction h with
  |nil=>intro _ _ _ hm;cases hm
  |cons p r a1=>
   obtain⟨j,q⟩:=p;intro aj id py hm bI;simp only[AA,Bool.and_eq_true]at aj
   rcases List.mem_cons.1 hm with he|he
   ·cases he
    have aa:=aj.1
    rw[jV bI]at aa;simp only at aa
    split at aa
    ·rename_i cz an;exact⟨cz,an,aa⟩
    ·cases aa
   ·exact a1 aj.2 id py he bI
 intro h aj id o bI ah
 rw[ef]at ah
 cases ai:db h id with
 |none=>rw[ai]at ah;cases ah
 |some py=>
  rw[ai]at ah;cases ah;obtain⟨cz,aa,ae⟩:=key aj id py (Tq ai) bI;refine⟨cz.den G e,by rw[ef,aa];rfl,?_⟩
  cases cz<;>cases py<;>first|trivial|(cases ae;done)|exact Nat.eq_of_beq_eq_true ae
mutual
theorem tt(id:Nat){k:Nat}: ∀{x:ab},x.lt k=true→(x.kill id).lt k=true:=fun {x} h=>by
 cases x with
 |ch l=>exact tu id (l:=l) h
 |tp l=>exact tu id (l:=l) h
 |fn f a b=>
  simp only[ab.lt,Bool.and_eq_true]at h;simp only[ab.kill,ab.lt,Bool.and_eq_true];exact⟨tu id h.1,tu id h.2⟩
 |fE g b x=>
  simp only[ab.lt,Bool.and_eq_true]at h;simp only[ab.kill,ab.lt,Bool.and_eq_true];exact⟨h.1,tt id h.2⟩
 |eb j o=>simp only[ab.kill];split<;>first|rfl|exact h
 |gM j x o=>simp only[ab.kill];split<;>first|rfl|exact h
 |gT j o x n=>simp only[ab.kill];split<;>first|rfl|exact h
 |cO j n=>simp only[ab.kill];split<;>rfl
 |fg g i o=>
  cases i with
  |none=>exact h
  |some j=>simp only[ab.kill];split<;>exact h
 |aO j=>simp only[ab.kill];split<;>first|rfl|exact h
 |gW j=>simp only[ab.kill];split<;>first|rfl|exact h
 |_=>exact h
theorem tu(id:Nat){k:Nat}: ∀{l:List ab},ab.cK k l=true→ab.cK k (ab.ed id l)=true:=fun {l} h=>by
 match l with
 |[]=>rfl
 |x::r=>
  simp only[ab.cK,Bool.and_eq_true]at h;simp only[ab.ed,ab.cK,Bool.and_eq_true];exact⟨tt id h.1,tu id h.2⟩
end
theorem Tr{S:aq}{o:Oper}{r:dc}{e:Env}(ad:S.cr)(hf:S.ct e)(ar:hs S.k r.xs=true)(aw:r.v.lt (S.k+r.xs.length)=true)(bb:eH (S.k+r.xs.length) r.h=true):
 ((r.st S o.dst).e2 S.k r.xs).cr∧((r.st S o.dst).e2 S.k r.xs).ct (di M e S.k r.xs):=by
 obtain⟨b7,a2,_⟩:=rZ (M:=M) (G:=fun _=>none) (N:=0) (B:=0) ad hf ar
 have ah:(r.st S o.dst).g=S.g:=by unfold dc.st;cases o.dst<;>rfl
 refine⟨⟨fun i x hx=>?_,?_,?_⟩,?_⟩
 ·have hx:(r.st S o.dst).l.get i=some x:=hx
  show x.lt (S.k+r.xs.length)=true
  have base: ∀x,(r.l S.l).get i=some x→x.lt (S.k+r.xs.length)=true:=fun x hx=>by
   unfold dc.l at hx
   split at hx
   ·exact gE (Nat.le_add_right _ _) (ad.l i x hx)
   ·rw[ba.get_map]at hx
    cases aJ:S.l.get i with
    |none=>rw[aJ]at hx;cases hx
    |some y=>
     rw[aJ]at hx;cases hx;exact tt _ (gE (Nat.le_add_right _ _) (ad.l i y aJ))
  unfold dc.st at hx
  cases hd:o.dst with
  |none=>rw[hd]at hx;exact base x hx
  |some d=>
   rw[hd]at hx;simp only[aq.put,ba.h0]at hx
   split at hx
   ·cases hx;exact aw
   ·exact base x hx
 ·have:((r.st S o.dst).e2 S.k r.xs).h=r.h:=by unfold dc.st aq.e2;cases o.dst<;>rfl
  rw[this];exact bb
 ·show fh (S.k+r.xs.length) (xB S.k r.xs (r.st S o.dst).g)=true
  rw[ah];exact b7.g
 ·show ∀c∈xB S.k r.xs (r.st S o.dst).g,_
  rw[ah];exact a2
theorem AH{k:Nat}: ∀{a b:List ab},ab.cK k a=true→ab.cK k b=true→ab.cK k (a++b)=true
 |[],_,_,h=>h
 |x::a,b,h,h'=>by
  simp only[ab.cK,Bool.and_eq_true]at h;simp only[List.cons_append,ab.cK,h.1,AH h.2 h',Bool.and_self]
theorem Me{k:Nat}{x:ab}(hx:x.lt k=true): ∀{l:List ab} {i:Nat},ab.cK k l=true→ab.cK k (l.set i x)=true
 |[],_,h=>h
 |y::l,0,h=>by simp only[ab.cK,Bool.and_eq_true,List.set]at h⊢;exact⟨hx,h.2⟩
 |y::l,i+1,h=>by simp only[ab.cK,Bool.and_eq_true,List.set]at h⊢;exact⟨h.1,Me hx h.2⟩
theorem EF{k:Nat}{o:bC}(an:o.lt k=true): ∀{l:List (Nat × bC)} {i:Nat},eH k l=true→eH k (jv l i o)=true
 |[],_,_=>by simp only[jv,eH,an,Bool.and_self]
 |(j,x)::l,i,h=>by
  simp only[eH,Bool.and_eq_true]at h;simp only[jv]
  split
  ·simp only[eH,Bool.and_eq_true];exact⟨an,h.2⟩
  ·simp only[eH,Bool.and_eq_true];exact⟨h.1,EF an h.2⟩
theorem vr{k id:Nat}{o:bC}: ∀{l:List (Nat × bC)},eH k l=true→db l id=some o→o.lt k=true
 |[],_,h=>by cases h
 |(j,x)::l,ar,h=>by
  simp only[eH,Bool.and_eq_true]at ar;simp only[db]at h
  split at h
  ·cases h;exact ar.1
  ·exact vr ar.2 h
theorem Mf{e:Env}{x:ab}: ∀{l:List ab} {i:Nat},ab.bQ G e (l.set i x)=(ab.bQ G e l).set i (x.den G e)
 |[],_=>rfl
 |y::l,0=>rfl
 |y::l,i+1=>by simp only[List.set,ab.bQ,Mf (l:=l)]
theorem oh(id:Nat){k:Nat}: ∀{h:List (Nat × bC)},eH k h=true→eH k (hr id h)=true
 |[],h=>h
 |(j,.dn t l)::r,h=>by
  simp only[eH,Bool.and_eq_true]at h;unfold hr
  split
  ·exact oh id h.2
  ·simp only[eH,Bool.and_eq_true]
   exact⟨tu id h.1,oh id h.2⟩
 |(j,.rw t c x)::r,h=>by
  simp only[eH,Bool.and_eq_true]at h;unfold hr
  split
  ·exact oh id h.2
  ·simp only[eH,Bool.and_eq_true]
   exact⟨h.1,oh id h.2⟩
 |(j,.it q x p)::r,h=>by
  simp only[eH,Bool.and_eq_true]at h;unfold hr
  split
  ·exact oh id h.2
  ·simp only[eH,Bool.and_eq_true]
   exact⟨h.1,oh id h.2⟩
theorem zfn{id off k m:Nat}{C:aq}{e:Env}(ad:C.cr)(hf:C.ct e):(xD B id off k m C).cr∧(xD B id off k m C).ct e∧(xD B id off k m C).k=C.k∧cm (C.den G N B e) ((xD B id off k m C).den G N B e):=by
 unfold xD
 split
 ·rename_i t l gN c x ah hm
  split
  ·rename_i hc
   simp only[Bool.and_eq_true,Bool.not_eq_true']at hc;obtain⟨aU,⟨da,c9⟩,gk⟩:=hc;refine⟨⟨fun i y ax=>?_,EF (o:=.dn t _) (Me (x:=.aO k) rfl (tu _ (tu _ (vr (o:=.dn t l) ad.h ah)))) ?_,ad.g⟩,hf,rfl,?_⟩
   ·simp only[ba.get_map]at ax
    cases aJ:C.l.get i with
    |none=>rw[aJ]at ax;cases ax
    |some z=>
     rw[aJ]at ax;simp only[Option.map_some,Option.some.injEq]at ax;subst ax;exact tt _ (tt _ (ad.l i z aJ))
   ·have aa:=vr (o:=.rw gN c x) ad.h hm
    have ae:=oh k (oh m ad.h)
    simp only[eH,Bool.and_eq_true];exact⟨aa,ae⟩
   ·refine cm.zeK id off m k gN (bZ c) (t:=t) (cs:=ab.bQ G e l) (es:=List.map (cb c) (x.aA e (.li c))) (by simp only[aq.den,ef,ah,Option.map_some,bC.den]) (by simp only[aq.den,ef,hm,Option.map_some,bC.den]) ?_ (Nat.le_of_ble_eq_true da) (e7 c9) (Nat.ne_of_beq_eq_false gk) ?_
    ·rw[e6,List.getElem?_map]
     unfold EC at aU
     split at aU
     ·rename_i ar
      rw[ar]
      have:=Nat.eq_of_beq_eq_true aU
      subst this;rfl
     ·cases aU
    ·simp only[aq.den,xw,s8,cx,bC.den,pv,Mf,vk,ab.den]
  ·exact⟨ad,hf,rfl,cm.refl _⟩
 ·exact⟨ad,hf,rfl,cm.refl _⟩
theorem zfo{S C:aq}{e:Env}(ad:C.cr)(hf:C.ct e):(vp B S C).cr∧(vp B S C).ct e∧(vp B S C).k=C.k∧cm (C.den G N B e) ((vp B S C).den G N B e):=by
 unfold vp
 split
 ·exact zfn ad hf
 ·exact⟨ad,hf,rfl,cm.refl _⟩
theorem cm.tn{s bq:aP}(d m k gN n:Nat){es:List (List a6)}(hm:aE s.heap m=some (.row false gN n es))(hc:s.cQ[d]? =some (.aO m))(ad:s.base≤k)(bI:k<s.next)
 (h:(aP.put ⟨ed k (ed m s.cQ),(k,.row false gN n es)::du k (du m s.heap),s.next,s.base⟩ (some d) (.aO k):aP)=bq):cm s bq:=by
 subst h
 intro E G a w ⟨β,ro,af⟩
 have Ls:=af.heap.c7 m _ hm
 have fc:=af.SP (w':=w) m k ad bI hm (.row false gN n es) (β m) rfl rfl rfl (Nat.le_refl _) (fun _ _ _=>rfl) (fun _ ad=>.inl ad) rfl (by
  cases Ls with
  |row _ _ _ xs aa ae au=>exact .row gN n es xs (by rw[dR];exact aa) ae au)
 have aw:=af.slot d _ hc
 have Ts:=fc.put (some d) (.aO k) (a.tmps.getD d undef) (by
  generalize a.tmps.getD d undef=bR at aw⊢
  cases aw with
  |aO _ _ _ ak=>
   refine .aO _ _ bI fun z bz cJ dP _=>?_
   rw[ak _ _ _ _ hm]
   exact(dR _ _ _).symm)
 have aY:a.put (some d) (a.tmps.getD d undef)=a:=by
  have hd:d<a.tmps.size:=by
   rw[af.size];exact(List.getElem?_eq_some_iff.1 hc).1
  have:a.tmps.setIfInBounds d (a.tmps.getD d undef)=a.tmps:=by
   apply Array.ext
   ·simp
   ·intro i aa ae
    rw[Array.getElem_setIfInBounds]
    split
    ·rename_i hi
     subst hi;simp[Array.getD,hd]
    ·rfl
  show({a with tmps:=a.tmps.setIfInBounds d (a.tmps.getD d undef)}:Act)=a
  rw[this]
 rw[aY]at Ts
 exact⟨_,ro,Ts⟩
theorem zfp{d k m:Nat}{C:aq}{e:Env}(hd:d<N)(ad:C.cr)(hf:C.ct e):(tn B d k m C).cr∧(tn B d k m C).ct e∧(tn B d k m C).k=C.k∧cm (C.den G N B e) ((tn B d k m C).den G N B e):=by
 unfold Go.aM.tn
 split
 ·rename_i gN c x hm
  split
  ·rename_i hc
   simp only[Bool.and_eq_true]at hc;obtain⟨aU,da,c9⟩:=hc;refine⟨jd ⟨fun i y ax=>?_,?_,ad.g⟩ rfl,je hf,jf,?_⟩
   ·simp only[ba.get_map]at ax
    cases aJ:C.l.get i with
    |none=>rw[aJ]at ax;cases ax
    |some z=>
     rw[aJ]at ax;simp only[Option.map_some,Option.some.injEq]at ax;subst ax;exact tt _ (tt _ (ad.l i z aJ))
   ·have aa:=vr (o:=.rw gN c x) ad.h hm
    have ae:=oh k (oh m ad.h)
    simp only[eH,Bool.and_eq_true];exact⟨aa,ae⟩
   ·refine cm.tn d m k gN (bZ c) (es:=List.map (cb c) (x.aA e (.li c))) (by simp only[aq.den,ef,hm,Option.map_some,bC.den]) ?_ (Nat.le_of_ble_eq_true da) (e7 c9) ?_
    ·unfold EC at aU
     split at aU
     ·rename_i ar
      have:=Nat.eq_of_beq_eq_true aU
      subst this;simp only[aq.den,n9,hd,if_true,Nat.zero_add,ar,ab.den]
     ·cases aU
    ·rw[fa]
     simp only[aq.den,xw,cx,bC.den,pv,ab.den]
  ·exact⟨ad,hf,rfl,cm.refl _⟩
 ·exact⟨ad,hf,rfl,cm.refl _⟩
theorem zfq{S C:aq}{dst:Option Nat}{e:Env}(ad:C.cr)(hf:C.ct e):(vq B N S C dst).cr∧(vq B N S C dst).ct e∧(vq B N S C dst).k=C.k∧cm (C.den G N B e) ((vq B N S C dst).den G N B e):=by
 unfold vq
 split
 ·split
  ·split
   ·split
    ·rename_i hd
     exact zfp (e7 hd) ad hf
    ·exact⟨ad,hf,rfl,cm.refl _⟩
   ·exact⟨ad,hf,rfl,cm.refl _⟩
  ·exact⟨ad,hf,rfl,cm.refl _⟩
 ·exact⟨ad,hf,rfl,cm.refl _⟩
theorem Tt{o:Oper}{S:aq}{e:Env}{f:Nat}{aG:List ab}(h:AD P N S o=some (f,aG))(hf:S.ct e)(ad:S.cr):
 ∃p q xs,ab.bQ G e aG=p++xs.toList.map (aL G (S.den G N B e))++q∧vf P G o (S.den G N B e) f p q xs∧ab.cK S.k aG=true:=by
 have xH: ∀l:List Operand,ab.cK S.k (l.map (S.aZ N))=true:=fun l=>by
  induction l with
  |nil=>rfl
  |cons y r a1=>simp only[List.map_cons,ab.cK,DK ad y,a1,Bool.and_self]
 unfold AD at h
 split at h
 ·rename_i c Af
  obtain⟨callee,args,ts⟩:=c
  split at h
  ·rename_i x hx
   simp only at hx;subst hx
   split at h
   ·rename_i ziP p q' vb
    cases h;refine⟨ab.bQ G e p,ab.bQ G e q',args,?_,.value Af (by rw[bE hf,vb];rfl),?_⟩
    ·rw[e6,e6,e6,List.map_append,List.map_append,List.map_map]
     congr 2
     exact List.map_congr_left fun y _=>(bE hf y).symm
    ·have fN:=DK (N:=N) ad x
     rw[vb]at fN;simp only[ab.lt,Bool.and_eq_true]at fN;exact AH (AH fN.1 (xH _)) fN.2
   ·cases h
  ·rename_i x name hx
   simp only at hx;subst hx
   split at h
   ·rename_i t a rs l vb
    split at h
    ·rename_i g v hm aw gL
     cases h;refine⟨[v.den G e],[],args,?_,.invoke Af hm fun E a w β ro af=>zeq hf vb aw (of_decide_eq_true gL) af,?_⟩
     ·simp only[e6,List.map_append,List.map_map,List.map_cons,List.map_nil]
      congr 2
      exact List.map_congr_left fun y _=>(bE hf y).symm
     ·have fN:=DK (N:=N) ad x
      rw[vb]at fN;exact AH (AH (by simp only[ab.cK,zes fN aw,Bool.and_self]) (xH _)) rfl
    ·cases h
   ·cases h
  ·cases h
 ·cases h
theorem Mg(bU:fK P G M inl){ops:Array Oper}{o:Oper}{r:List Oper}{S:aq}{k:aq→aB}{e:Env}{Q:Exit→aP→Prop}(ad:S.cr)(hf:S.ct e)(hw:dN ops (S.den G N B e) o=some true)(ai:(exec P N B T inl o S k).safe M e)
 (aj: ∀dg ay,dg.cr→dg.ct ay→bX S.k e ay→S.k≤dg.k→(k dg).safe M ay→run M (exec P N B T inl o S k) e=run M (k dg) ay→cv P G ops Q r (dg.den G N B ay)):cv P G ops Q (o::r) (S.den G N B e):=by
 have iC:=ai
 unfold exec at iC
 split at iC
 ·rename_i q aw
  split at iC
  ·rename_i hc
   split at iC
   ·rename_i t j AI
    have gO:exec P N B T inl o S k=k (S.put o.dst (.aV t j)):=by unfold exec;rw[aw];simp only[hc,AI]
    simp only[Bool.and_eq_true]at hc;obtain⟨dx,eS,Mh⟩:=zfi (M:=M) (G:=G) AI hf hc.1
    have bS:bX S.k e (di M e S.k q.xs):=jW (Nat.le_refl _)
    have dD:=vd (G:=G) (B:=B) (M:=M) aw (di M e S.k q.xs) (ik bS ad.g hf) (jz hc.1) (by rw[Mh];intro n hn;cases hn)
    rw[lh bS ad,←dx]at dD
    have mX:(S.den G N B e).put o.dst ((ab.aV t j).den G e)=(S.put o.dst (.aV t j)).den G N B e:=by rw[fa]
    refine cv.step hw (mX ▸ dD.step) ?_
    exact aj _ e (jd ad eS) (je hf) (bX.refl _ _) (by rw[jf];exact Nat.le_refl _) iC (by rw[gO])
   rename_i AI
   split at iC
   ·rename_i v xo
    have gO:exec P N B T inl o S k=k (S.put o.dst v):=by unfold exec;rw[aw];simp only[hc,AI,xo]
    simp only[Bool.and_eq_true]at hc;obtain⟨dx,eS,Mh⟩:=zfk (M:=M) (G:=G) (e:=e) xo hc.1
    have bS:bX S.k e (di M e S.k q.xs):=jW (Nat.le_refl _)
    have dD:=vd (G:=G) (B:=B) (M:=M) aw (di M e S.k q.xs) (ik bS ad.g hf) (jz hc.1) (by rw[Mh];intro n hn;cases hn)
    rw[lh bS ad,←dx]at dD
    have mX:(S.den G N B e).put o.dst (v.den G e)=(S.put o.dst v).den G N B e:=by rw[fa]
    refine cv.step hw (mX ▸ dD.step) ?_
    exact aj _ e (jd ad eS) (je hf) (bX.refl _ _) (by rw[jf];exact Nat.le_refl _) iC (by rw[gO])
   rename_i xo
   have gO:exec P N B T inl o S k=emit S.k q.xs q.ns (k ((S.e2 S.k q.xs).put o.dst q.v)):=by unfold exec;rw[aw];simp only[hc,AI,xo]
   simp only[Bool.and_eq_true]at hc;obtain⟨gR,gw⟩:=mH iC;obtain⟨b7,a2,a3⟩:=rZ (M:=M) (G:=G) (N:=N) (B:=B) ad hf hc.1
   have bS:bX S.k e (di M e S.k q.xs):=jW (Nat.le_refl _)
   have dD:=vd (G:=G) (B:=B) (M:=M) aw (di M e S.k q.xs) (ik bS ad.g hf) (jz hc.1) gR
   rw[lh bS ad]at dD
   have mX:(S.den G N B e).put o.dst (q.v.den G (di M e S.k q.xs))=((S.e2 S.k q.xs).put o.dst q.v).den G N B (di M e S.k q.xs):=by rw[fa,a3]
   refine cv.step hw (mX ▸ dD.step) ?_
   exact aj _ _ (jd b7 hc.2) (je a2) bS (by rw[jf];exact Nat.le_add_right _ _) gw (by rw[gO,lR])
  ·exact iC.elim
 ·rename_i aw
  split at iC
  ·rename_i q aJ
   split at iC
   ·rename_i hc
    have gO:exec P N B T inl o S k=emit S.k q.xs q.ns (k ((q.st S o.dst).e2 S.k q.xs)):=by unfold exec;rw[aw,aJ];simp only[hc]
    simp only[Bool.and_eq_true]at hc;obtain⟨gR,gw⟩:=mH iC
    have bS:bX S.k e (di M e S.k q.xs):=jW (Nat.le_refl _)
    have dD:=Tl (G:=G) (M:=M) aJ (di M e S.k q.xs) (ik bS ad.g hf) (jz hc.1) gR
    rw[lh bS ad]at dD;obtain⟨dx,eS⟩:=Tr (M:=M) (o:=o) ad hf hc.1 hc.2.1 hc.2.2;refine cv.step hw dD ?_
    have q9:S.k≤((q.st S o.dst).e2 S.k q.xs).k:=Nat.le_add_right _ _
    exact aj ((q.st S o.dst).e2 S.k q.xs) _ dx eS bS q9 gw (by rw[gO,lR])
   ·exact iC.elim
  ·rename_i aJ
   split at iC
   ·rename_i q qh
    split at iC
    ·rename_i hc
     have gO:exec P N B T inl o S k=emit S.k q.xs [] (.it q.g (k (q.st S o.dst)) (k (q.xC S o.dst))):=by unfold exec;rw[aw,aJ,qh];simp only[hc]
     simp only[qI.ok,Bool.and_eq_true]at hc;obtain⟨_,gw⟩:=mH iC
     have bS:bX S.k e (di M e S.k q.xs):=jW (Nat.le_refl _)
     obtain⟨b7,a2,a3⟩:=rZ (M:=M) (G:=G) (N:=N) (B:=B) ad hf hc.1.1;obtain⟨dx,eS⟩:=zfe (P:=P) (G:=G) (B:=B) qh (ik bS ad.g hf) (jz hc.1.1);rw[lh bS ad]at dx eS
     have q9: ∀b,Nat.ble S.k (S.k+b)=true:=fun b=>Nat.ble_eq_true_of_le (Nat.le_add_right _ _)
     have cp:run M (exec P N B T inl o S k) e=run M (.it q.g (k (q.st S o.dst)) (k (q.xC S o.dst))) (di M e S.k q.xs):=by rw[gO,lR]
     have dT: ∀b,q.g.aA (di M e S.k q.xs) .bool=b→∀c∈(b6.dT q.g b::(S.e2 S.k q.xs).g),c.ok (di M e S.k q.xs):=fun b ah c hm=>by
      rcases List.mem_cons.1 hm with rfl|hm
      ·exact ah
      ·exact a2 c hm
     cases ah:q.g.aA (di M e S.k q.xs) .bool with
     |true=>
      refine cv.step hw (dx ah) ?_
      have qJ:(q.st S o.dst).cr:=Te (jd (S:={S.e2 S.k q.xs with h:=q.h,g:=.dT q.g true::(S.e2 S.k q.xs).g}) ⟨b7.l,hc.2.1,by simp only[fh,b6.lt,Bool.and_eq_true];exact⟨hc.1.2,b7.g⟩⟩ hc.2.2.1)
      have e8:(q.st S o.dst).ct (di M e S.k q.xs):=Tf (je (S:={S.e2 S.k q.xs with h:=q.h,g:=.dT q.g true::(S.e2 S.k q.xs).g}) (dT true ah))
      have hd:(aq.put {S with h:=q.h} o.dst q.v).den G N B (di M e S.k q.xs)=(q.st S o.dst).den G N B (di M e S.k q.xs):=by cases o.dst<;>rfl
      rw[hd];exact aj _ _ qJ e8 bS (by show S.k≤(aq.put _ _ _).k;rw[jf];exact Nat.le_add_right _ _) (gw.1 ah) (by rw[cp,tr ah])
     |false=>
      refine cv.step hw (eS ah) ?_
      have qJ:(q.xC S o.dst).cr:=Te (jd (S:={S.e2 S.k q.xs with g:=.dT q.g false::(S.e2 S.k q.xs).g}) ⟨b7.l,b7.h,by simp only[fh,b6.lt,Bool.and_eq_true];exact⟨hc.1.2,b7.g⟩⟩ hc.2.2.2)
      have e8:(q.xC S o.dst).ct (di M e S.k q.xs):=Tf (je (S:={S.e2 S.k q.xs with g:=.dT q.g false::(S.e2 S.k q.xs).g}) (dT false ah))
      have hd:(S.put o.dst q.bh).den G N B (di M e S.k q.xs)=(q.xC S o.dst).den G N B (di M e S.k q.xs):=by cases o.dst<;>rfl
      rw[hd];exact aj _ _ qJ e8 bS (by show S.k≤(aq.put _ _ _).k;rw[jf];exact Nat.le_add_right _ _) (gw.2 ah) (by rw[cp,tr ah])
    ·exact iC.elim
   rename_i qh
   split at iC
   ·rename_i f aG uW
    split at iC
    ·rename_i gC
     have gO:exec P N B T inl o S k=iH N S ((inl f aG S).eK (AB S o.dst) none) fun C=>k (vq B N S (vp B S C) o.dst):=by unfold exec;rw[aw,aJ,qh,uW];simp only[gC]
     obtain⟨t1,_,t3⟩:=Ev (G:=G) (B:=B) ad hf iC;obtain⟨g1,g2,g3⟩:=jg (inl f aG S) none t1;obtain⟨p,q',args,mX,vg,bI⟩:=Tt (G:=G) (B:=B) uW hf ad
     have hk:=bU f _ S e ad bI hf g1
     rw[mX]at hk
     refine cv.zfl (A:=fun t=>∃C ay,run M (inl f aG S) e=some (.cj,C,ay)∧C.cr∧C.ct ay∧bX S.k e ay∧S.k≤C.k∧EA S C=true∧t=(S.back o.dst C).den G N B ay) hw
      (zex vg gC hk fun r bV ⟨C,ay,aU,da,c9,gk,iJ,kC,jL⟩=>?_) fun t ⟨C,ay,aU,gk,iJ,kC,jL,bg,aI⟩=>?_
     ·have ah:=(g3 C ay aU).1
      have bg:EA S C=true:=by
       unfold AB at ah
       split at ah
       ·assumption
       ·exact ah.elim
      have er:=bg
      simp only[EA,Bool.and_eq_true]at er;refine⟨C.n,Nat.le_of_ble_eq_true er.2.1,?_,?_,?_,C,ay,aU,gk,iJ,kC,jL,bg,?_⟩
      ·rw[da];exact EE er.1.1
      ·rw[c9];exact xG er.1.2
      ·rw[c9];exact zfm er.2.2
      ·rw[da,c9,aq.back,fa]
       have:=lh (G:=G) (N:=N) (B:=B) kC ad
       have qg:ki G ay S.l 0 N=ki G e S.l 0 N:=congrArg aP.cQ this
       simp only[aq.den,qg]
     ·subst aI
      have ah:=(g3 C ay aU)
      have cp:run M ((inl f aG S).eK (AB S o.dst) none) e=some (.cj,S.back o.dst C,ay):=by
       rw[g2,aU];simp only[iA,AB,bg];rfl
      have qJ:(S.back o.dst C).cr:=by
       unfold aq.back;refine jd ⟨fun i x hx=>gE jL (ad.l i x hx),gk.h,gk.g⟩ ?_
       show(C.at 0).lt C.k=true;unfold aq.at
       cases hC:C.l.get 0 with
       |none=>rfl
       |some y=>exact gk.l 0 y hC
      obtain⟨dO,bf,s1,s2,pA,pB,pC,pD,pE⟩:=t3 _ _ cp qJ (je iJ) kC (by unfold aq.back;rw[jf];exact jL)
      obtain⟨gR,gw,Mi,zfr⟩:=zfo (G:=G) (N:=N) (B:=B) (S:=S) s2 pA;obtain⟨dv,en,wc,wb⟩:=zfq (G:=G) (N:=N) (B:=B) (S:=S) (dst:=o.dst) gR gw;exact cv.le (cm.trans s1 (cm.trans zfr wb)) (aj _ bf dv en pB (by rw[wc,Mi];exact pC) pD (by rw[gO,pE]))
    ·exact iC.elim
   ·exact iC.elim
def Tu(G:a8)(N B:Nat)(ops:Array Oper)(o:Oper)(S:aq)(e:Env):Ey→Prop
 | .yes=>dN ops (S.den G N B e) o=some true
 | .no=>dN ops (S.den G N B e) o=some false
 | .on gs=>(fH e gs=true→dN ops (S.den G N B e) o=some true)∧(fH e gs=false→dN ops (S.den G N B e) o=some false)
 | .bad=>True
def qK(b:Bool):aD→Option Bool
 | .av (.v (.bool c))=>some (c==b)
 | .tuple _=>some false
 |_=>none
def EG(G:a8)(b:Bool)(e:Env)(v:ab):Ey→Prop
 | .yes=>qK b (v.den G e)=some true
 | .no=>qK b (v.den G e)=some false
 | .on gs=>(fH e gs=true→qK b (v.den G e)=some true)∧(fH e gs=false→qK b (v.den G e)=some false)
 | .bad=>True
theorem Tv{a b:Bool}(h:a=b):(a==b)=true:=by cases a<;>cases b<;>first|rfl|cases h
theorem Tw{a b:Bool}(h: ¬a=b):(a==b)=false:=by cases a<;>cases b<;>first|rfl|exact absurd rfl h
theorem ll{l:List b6}{b:Bool}{e:Env}(hf: ∀c∈l,c.ok e)(g:ab):EG G b e g (match g.rt,lg g l with
 |some .bool,some c=>match decide (c=b)with
  |true=>.yes
  |false=>.no
 |some .bool,none=>.on [(g,b)]
 |_,_=>.bad):=by
 split
 ·rename_i c aa ae
  have aj:=qz ae hf
  have hd:=fW (G:=G) (e:=e) aa
  rw[aj]at hd
  cases gC:decide (c=b)with
  |true=>show qK b (g.den G e)=some true;rw[hd];exact congrArg some (Tv (of_decide_eq_true gC))
  |false=>show qK b (g.den G e)=some false;rw[hd];exact congrArg some (Tw (of_decide_eq_false gC))
 ·rename_i aa ae
  have hd:=fW (G:=G) (e:=e) aa
  simp only[EG,fH,Bool.and_true];rw[hd];exact⟨fun h=>congrArg some h,fun h=>congrArg some h⟩
 ·trivial
theorem xI{h:ab}{c:Bool}{v:ab}{e:Env}(hc:h.aA e .bool=c):(ab.fE h c v).den G e=v.den G e:=by
 simp only[ab.den,hc];cases c<;>rfl
theorem Tx{h:ab}{c:Bool}{v:ab}{e:Env}(hc:h.aA e .bool= !c):(ab.fE h c v).den G e= .tuple []:=by
 simp only[ab.den,hc];cases c<;>rfl
theorem Ty{l:List b6}{b:Bool}{e:Env}(hf: ∀c∈l,c.ok e): ∀v:ab,EG G b e v (vo l b v)
 | .fE h c v=>by
  have a1:=Ty (b:=b) hf v
  have Mj:h.aA e .bool≠c→qK b ((ab.fE h c v).den G e)=some false:=fun hn=>by
   rw[Tx (by cases bb:h.aA e .bool<;>cases c<;>first|rfl|exact absurd bb hn)]
   rfl
  simp only[vo]
  split
  ·cases ah:vo l b v with
   |yes=>
    rw[ah]at a1;refine⟨fun aY=>?_,fun aY=>?_⟩
    ·simp only[fH,Bool.and_true,beq_iff_eq]at aY
     rw[xI aY];exact a1
    ·simp only[fH,Bool.and_true,beq_eq_false_iff_ne]at aY
     exact Mj aY
   |no=>
    rw[ah]at a1;show qK b _=some false
    by_cases bb:h.aA e .bool=c
    ·rw[xI bb];exact a1
    ·exact Mj bb
   |on gs=>
    rw[ah]at a1;refine⟨fun aY=>?_,fun aY=>?_⟩
    ·simp only[fH,Bool.and_eq_true,beq_iff_eq]at aY
     rw[xI aY.1];exact a1.1 aY.2
    ·by_cases bb:h.aA e .bool=c
     ·rw[xI bb]
      refine a1.2 ?_
      simp only[fH,bb,beq_self_eq_true,Bool.true_and]at aY;exact aY
     ·exact Mj bb
   |bad=>trivial
  ·trivial
 | .cs x=>by
  unfold vo
  split
  ·rename_i c heq
   cases heq
   cases gC:decide (c=b)with
   |true=>exact congrArg some (Tv (of_decide_eq_true gC))
   |false=>exact congrArg some (Tw (of_decide_eq_false gC))
  ·rename_i heq;cases heq
  ·rename_i heq;cases heq
  ·exact ll hf _
 | .tp l=>rfl
 | .aV r i=>ll hf (.aV r i)
 | .fd c i k r=>ll hf (.fd c i k r)
 | .ip c i k=>ll hf (.ip c i k)
 | .ch l=>ll hf (.ch l)
 | .eb i o=>ll hf (.eb i o)
 | .gM i x o=>ll hf (.gM i x o)
 | .aO i=>ll hf (.aO i)
 | .fn f a b=>ll hf (.fn f a b)
 | .gW i=>ll hf (.gW i)
 | .lN g o=>ll hf (.lN g o)
 | .gT i o x n=>ll hf (.gT i o x n)
 | .cO i n=>ll hf (.cO i n)
 | .fg g i o=>ll hf (.fg g i o)
 | .ep t a rs l=>ll hf (.ep t a rs l)
 | .top=>ll hf .top
theorem Mk{ops:Array Oper}{o:Oper}{S:aq}{e:Env}(hf:S.ct e):Tu G N B ops o S e (guardOf N ops S o):=by
 unfold guardOf
 cases ah:o.guard with
 |none=>simp only[Tu,dN,ah]
 |some J6=>
  obtain⟨j,b⟩:=J6;simp only
  cases hd:mn ops j with
  |none=>trivial
  |some d=>
   simp only
   cases iZ:Nat.blt d N with
   |false=>trivial
   |true=>
    have bI:d<N:=e7 iZ
    have af:=KI (G:=G) hf (x:=S.at d)
    have hc:=Ty (G:=G) (b:=b) hf ((S.at d).res S.g)
    rw[EG.eq_def]at hc
    have key: ∀q,qK b (((S.at d).res S.g).den G e)=some q→dN ops (S.den G N B e) o=some q:=fun q h=>by
     rw[af]at h;simp only[dN,ah,hd,u3,if_pos bI];generalize (S.at d).den G e=v at h;unfold qK at h
     split at h
     ·rename_i c
      cases h
      cases b<;>cases c<;>rfl
     ·cases h;rfl
     ·cases h
    simp only;generalize vo S.g b ((S.at d).res S.g)=fE at hc
    cases fE with
    |yes=>exact key _ hc
    |no=>exact key _ hc
    |on gs=>exact⟨fun h=>key _ (hc.1 h),fun h=>key _ (hc.2 h)⟩
    |bad=>trivial
end
end Go.aM
namespace Go.aM
open Go
section
variable {P:Program} {G:a8} {N B:Nat} {M:List aS} {T:List (Nat × bL)} {inl:Nat→List ab→aq→aB}
theorem AJ{S:aq}{g:ab}{b:Bool}(ad:S.cr)(ah:g.lt S.k=true):({S with g:=.dT g b::S.g}:aq).cr:=
 ⟨ad.l,ad.h,by
  show(b6.lt S.k (.dT g b)&&fh S.k S.g)=true;rw[ad.g,Bool.and_true]
  exact ah⟩
theorem AK{S:aq}{g:ab}{b:Bool}{e:Env}(hf:S.ct e)(ah:g.aA e .bool=b):({S with g:=.dT g b::S.g}:aq).ct e:=fun c hc=>by
 rcases List.mem_cons.1 hc with rfl|hc
 ·exact ah
 ·exact hf c hc
theorem Ml{a b:Bool}(h: ¬a=b):a= !b:=by cases a<;>cases b<;>first|rfl|exact absurd rfl h
theorem Tz{g:ab}{b:Bool}{x y:aB}{e:Env}(h:g.aA e .bool=b):run M (ED g b x y) e=run M x e:=by
 cases b<;>exact tr h
theorem zfs{g:ab}{b:Bool}{x y:aB}{e:Env}(h:g.aA e .bool= !b):run M (ED g b x y) e=run M y e:=by
 cases b<;>exact tr h
theorem zft{g:ab}{b:Bool}{x y:aB}{e:Env}(ai:(ED g b x y).safe M e)(h:g.aA e .bool=b):x.safe M e:=by
 cases b with
 |true=>exact ai.1 h
 |false=>exact ai.2 h
theorem xJ{S:aq}: ∀{gs:List (ab × Bool)},S.cr→lS S.k gs=true→({S with g:=ht gs S.g}:aq).cr
 |[],ad,_=>ad
 |(g,b)::r,ad,h=>by
  simp only[lS,Bool.and_eq_true]at h;exact AJ (S:={S with g:=ht r S.g}) (b:=b) (xJ ad h.2) h.1
theorem xK{S:aq}{e:Env}: ∀{gs:List (ab × Bool)},S.ct e→fH e gs=true→({S with g:=ht gs S.g}:aq).ct e
 |[],hf,_=>hf
 |(g,b)::r,hf,h=>by
  simp only[fH,Bool.and_eq_true,beq_iff_eq]at h;exact AK (S:={S with g:=ht r S.g}) (b:=b) (xK hf h.2) h.1
theorem EH{k:Nat}{v:ab}: ∀{gs:List (ab × Bool)},lS k gs=true→v.lt k=true→(km gs v).lt k=true
 |[],_,h=>h
 |(g,b)::r,ah,h=>by
  simp only[lS,Bool.and_eq_true]at ah;simp only[km,ab.lt,ah.1,EH ah.2 h,Bool.and_self]
theorem EI{k m:Nat}(h:k≤m): ∀{gs:List (ab × Bool)},lS k gs=true→lS m gs=true
 |[],_=>rfl
 |(g,b)::r,ah=>by
  simp only[lS,Bool.and_eq_true]at ah⊢;exact⟨gE h ah.1,EI h ah.2⟩
theorem EJ{k:Nat}{e ay:Env}(h:bX k e ay): ∀{gs:List (ab × Bool)},lS k gs=true→fH ay gs=fH e gs
 |[],_=>rfl
 |(g,b)::r,ah=>by
  simp only[lS,Bool.and_eq_true]at ah;simp only[fH,eF h ah.1,EJ h ah.2]
theorem EK{v:ab}{e:Env}: ∀{gs:List (ab × Bool)},fH e gs=true→(km gs v).den G e=v.den G e
 |[],_=>rfl
 |(g,b)::r,h=>by
  simp only[fH,Bool.and_eq_true,beq_iff_eq]at h;exact(xI h.1).trans (EK h.2)
theorem EL{v:ab}{e:Env}: ∀{gs:List (ab × Bool)},fH e gs=false→(km gs v).den G e= .tuple []
 |[],h=>by cases h
 |(g,b)::r,h=>by
  by_cases ah:g.aA e .bool=b
  ·simp only[fH,ah,beq_self_eq_true,Bool.true_and]at h
   exact(xI ah).trans (EL h)
  ·exact Tx (Ml ah)
theorem EM{n:fe}{e:Env}: ∀{gs:List (ab × Bool)},(qH gs n).ok M e→fH e gs=true→n.ok M e
 |[],h,_=>h
 |(g,b)::r,h,aY=>by
  simp only[fH,Bool.and_eq_true,beq_iff_eq]at aY;exact EM (gs:=r) (h aY.1) aY.2
theorem Mm{x:aB}{y:List b6→aB}{e:Env}: ∀{gs:List (ab × Bool)} {l:List b6},fH e gs=true→run M (tq y gs x l) e=run M x e∧((tq y gs x l).safe M e→x.safe M e)
 |[],_,_=>⟨rfl,fun h=>h⟩
 |(g,b)::r,l,h=>by
  simp only[fH,Bool.and_eq_true,beq_iff_eq]at h;obtain⟨aa,ae⟩:=Mm (x:=x) (y:=y) (l:=.dT g b::l) h.2;exact⟨(Tz h.1).trans aa,fun ai=>ae (zft ai h.1)⟩
theorem Mn{x:aB}{y:List b6→aB}{e:Env}{k:Nat}: ∀{gs:List (ab × Bool)} {l:List b6},fH e gs=false→lS k gs=true→fh k l=true→(∀c∈l,c.ok e)→∃h2,run M (tq y gs x l) e=run M (y h2) e∧fh k h2=true∧∀c∈h2,c.ok e
 |[],_,h,_,_,_=>by cases h
 |(g,b)::r,l,h,ah,ar,hc=>by
  simp only[lS,Bool.and_eq_true]at ah
  have sN: ∀b,fh k (.dT g b::l)=true:=fun b=>by
   show(b6.lt k (.dT g b)&&fh k l)=true;rw[ar,Bool.and_true];exact ah.1
  by_cases fq:g.aA e .bool=b
  ·simp only[fH,fq,beq_self_eq_true,Bool.true_and]at h
   obtain⟨h2,aa,ae,au⟩:=Mn (x:=x) (y:=y) (k:=k) (gs:=r) (l:=.dT g b::l) h ah.2 (sN b) fun c hm=>by
    rcases List.mem_cons.1 hm with rfl|hm
    ·exact fq
    ·exact hc c hm
   exact⟨h2,(Tz fq).trans aa,ae,au⟩
  ·refine⟨.dT g (!b)::l,zfs (Ml fq),sN _,fun c hm=>?_⟩
   rcases List.mem_cons.1 hm with rfl|hm
   ·exact Ml fq
   ·exact hc c hm
theorem TA{S:aq}{dst:Option Nat}{l:List b6}{e:Env}(ad:S.cr)(ar:fh S.k l=true)(hc: ∀c∈l,c.ok e):
 ∃aT:aq,rY S dst l= .cH .cj aT∧aT.cr∧aT.ct e∧S.k≤aT.k∧aT.den G N B e=(S.den G N B e).put dst (.tuple []):=
 ⟨_,rfl,jd ⟨ad.l,ad.h,ar⟩ rfl,je hc,by rw[jf];exact Nat.le_refl _,by rw[fa];rfl⟩
mutual
theorem TB(id t n:Nat)(es:List (List a6)): ∀a:aD,Sub (hN [(id,.row true t n es)] a) (dX id a):=fun a=>by
 cases a with
 |agg l=>exact(xL id t n es l).agg
 |tuple l=>exact(xL id t n es l).tuple
 |aO k=>
  by_cases h:k=id
  ·simp only[dX,h,if_true]
   exact Sub.top _
  ·simp only[dX,h,if_false,hN,aE,if_neg (fun e:id=k=>h e.symm)]
   exact Sub.refl _
 |fn f p q=>
  intro w ro σ β N c hc;simp only[hN]at hc
  cases hc with
  |fn _ _ _ c d aa ae au aR=>
   have ak:=(xL id t n es p).at
   have aJ:=(xL id t n es q).at
   refine .fn f _ _ c d (by rw[aa,ak.1]) (by rw[ae,aJ.1]) (fun j y ag=>?_) fun j y ag=>?_
   ·obtain⟨x,hx,ai⟩:=ak.2 j y ag
    exact ai _ _ _ _ _ _ (au j x hx)
   ·obtain⟨x,hx,ai⟩:=aJ.2 j y ag
    exact ai _ _ _ _ _ _ (aR j x hx)
 |av x=>exact Sub.refl _
 |top=>exact Sub.refl _
 |ptr k o=>simp only[dX,hN];split<;>first|exact Sub.top _|exact Sub.refl _
 |dA k o=>simp only[dX,hN];split<;>first|exact Sub.top _|exact Sub.refl _
 |cW k i o=>simp only[dX,hN];split<;>first|exact Sub.top _|exact Sub.refl _
 |ref k=>simp only[dX,hN];split<;>first|exact Sub.top _|exact Sub.refl _
theorem xL(id t n:Nat)(es:List (List a6)): ∀l:List aD,fQ (kF [(id,.row true t n es)] l) (ed id l):=fun l=>by
 match l with
 |[]=>exact .nil
 |x::r=>exact .cons (TB id t n es x) (xL id t n es r)
end
theorem TC(σ:Heap): ∀l:List aD,kF σ l=l.map (hN σ)
 |[]=>rfl
 |x::r=>by simp only[kF,List.map_cons,TC σ r]
theorem zfu{e:Env}{id t:Nat}{c:bL}{k:Nat}: ∀y:ab,Sub (hN [(id,.row true t (bZ c) (List.map (cb c) ((ab.aV (.li c) k).aA e (.li c))))] (y.den G e)) ((ab.nc id (.aV (.li c) k) y).den G e):=fun y=>by
 unfold ab.nc
 split
 ·rename_i j
  split
  ·rename_i ag
   obtain rfl:=Nat.eq_of_beq_eq_true ag;simp only[ab.den,hN,aE,if_true];rw[show(ab.aV (.li c) k).aA e (.li c)=(Env.at e k).aG (.li c)by simp only[ab.aA,ab.fo,ab.dyn,cA]]
   exact lM.fk fun _ _ _ h=>.li _ _ _ h
  ·rename_i ag
   have b5: ¬id=j:=fun h=>by rw[h,Nat.beq_refl]at ag;cases ag
   simp only[ab.den,hN,aE,if_neg b5];exact Sub.refl _
 ·rw[Ec]
  exact TB _ _ _ _ _
theorem zfv{S:aq}{e:Env}(id:Nat)(ad:S.cr)(hf:S.ct e):(xE S id).cr∧(xE S id).ct e∧(xE S id).k=S.k∧cm (S.den G N B e) ((xE S id).den G N B e):=by
 unfold xE
 split
 ·rename_i t c r k ah
  split
  ·rename_i af
   cases hp af
   have hx:(ab.aV (.li c) k).lt S.k=true:=vr (o:=.rw t c (.aV (.li c) k)) ad.h ah
   refine⟨⟨fun i y ax=>?_,oh id ad.h,ad.g⟩,hf,rfl,?_⟩
   ·simp only[Ma,ba.get_map]at ax
    cases aJ:S.l.get i with
    |none=>rw[aJ]at ax;cases ax
    |some z=>
     rw[aJ]at ax;simp only[Option.map_some,Option.some.injEq]at ax;subst ax;show(ab.nc id _ z).lt S.k=true;unfold ab.nc
     split
     ·split
      ·exact hx
      ·rfl
     ·exact tt _ (ad.l i z aJ)
   ·have bd:aE (S.den G N B e).heap id=some (.row false t (bZ c) (List.map (cb c) ((ab.aV (.li c) k).aA e (.li c)))):=by
     simp only[aq.den,ef,ah,Option.map_some,bC.den]
    refine(cm.nc (S.den G N B e) id).trans ?_
    unfold Go.aM.nc;rw[bd];refine cm.of rfl (Nat.le_refl _) ?_ (fun i v aw=>?_) fun j o an=>?_
    ·simp only[aq.den,nW,DJ]
    ·simp only[aq.den,n9]at aw
     split at aw
     rotate_left
     ·cases aw
     rename_i hi;simp only[Ma,ba.get_map,Option.some.injEq]at aw;subst aw
     refine⟨hN [(id,.row true t (bZ c) (List.map (cb c) ((ab.aV (.li c) k).aA e (.li c))))] (match S.l.get (0+i)with
      |some x=>x.den G e
      |none=>.top),by simp only[aq.den,TC,List.getElem?_map,n9,if_pos hi,Option.map_some]<;>rfl,?_⟩
     cases aJ:S.l.get (0+i)with
     |none=>exact Sub.top _
     |some z=>exact zfu z
    ·have an:aE (cx G e (hr id S.h)) j=some o:=an
     rw[pv,qk]at an
     split at an
     ·cases an
     rename_i b5
     cases aJ:aE (cx G e S.h) j with
     |none=>rw[aJ]at an;cases an
     |some TD=>
      rw[aJ]at an;simp only[Option.map_some,Option.some.injEq]at an;subst an;refine⟨kI [(id,.row true t (bZ c) (List.map (cb c) ((ab.aV (.li c) k).aA e (.li c))))] TD,?_,?_⟩
      ·rw[qn,zg]
       rw[if_neg (fun h=>b5 h.symm)];show Option.map _ (aE (cx G e S.h) j)=_;rw[aJ];rfl
      ·cases TD with
       |box t cs=>exact .box t (xL _ _ _ _ cs)
       |row z t n es=>exact .same _
       |bM bN=>exact .same _
  ·exact⟨ad,hf,rfl,cm.refl _⟩
 ·exact⟨ad,hf,rfl,cm.refl _⟩
theorem Mo{e:Env}: ∀(aG:List ab) {S:aq},S.cr→S.ct e→(mI aG S).cr∧(mI aG S).ct e∧(mI aG S).k=S.k∧cm (S.den G N B e) ((mI aG S).den G N B e)
 |[],S,ad,hf=>⟨ad,hf,rfl,cm.refl _⟩
 |a::r,S,ad,hf=>by
  unfold mI
  split
  ·rename_i h;cases h
  ·rename_i id eR h
   cases h;obtain⟨aa,ae,au,aR⟩:=zfv (G:=G) (N:=N) (B:=B) id ad hf;obtain⟨g1,g2,g3,g4⟩:=Mo r aa ae;exact⟨g1,g2,g3.trans au,aR.trans g4⟩
  ·rename_i h
   cases h;exact Mo r ad hf
theorem zfw{ops:Array Oper}{o:Oper}{S:aq}{aG:List ab}{e:Env}(ak:preB P N S o=some aG)(ad:S.cr)(hf:S.ct e):
 (mI aG S).cr∧(mI aG S).ct e∧(mI aG S).k=S.k∧cm (S.den G N B e) ((mI aG S).den G N B e)∧dN ops ((mI aG S).den G N B e) o=some true:=by
 have hn:o.guard=none:=by
  unfold preB at ak
  split at ak
  ·split at ak
   ·cases ak
   ·assumption
  ·cases ak
 obtain⟨aa,ae,au,aR⟩:=Mo (G:=G) (N:=N) (B:=B) aG ad hf
 exact⟨aa,ae,au,aR,by unfold dN;rw[hn]⟩
theorem uo(bU:fK P G M inl){ops:Array Oper}: ∀(l:List Oper) {S:aq} {e:Env} {Q:Exit→aP→Prop},S.cr→S.ct e→(hH P N B T inl ops l S).safe M e→(∀ex st,jB G N B M (hH P N B T inl ops l S) e S.k ex st→Q ex st)→cv P G ops Q l (S.den G N B e)
 |[],S,e,Q,ad,hf,_,et=>cv.nil (et _ _ ⟨.cj,S,e,rfl,trivial,cm.refl _,ad,hf,bX.refl _ _,Nat.le_refl _⟩)
 |o::r,S,e,Q,ad,hf,ai,et=>by
  have ah:=Mk (G:=G) (N:=N) (B:=B) (ops:=ops) (o:=o) hf
  have eX:=ai
  unfold hH at eX
  cases iU:guardOf N ops S o with
  |yes=>
   rw[iU]at ah eX;simp only at eX
   cases ak:preB P N S o with
   |some aG=>
    rw[ak]at eX
    have gO:hH P N B T inl ops (o::r) S=exec P N B T inl o (mI aG S) (hH P N B T inl ops r):=by rw[hH,iU];simp only[ak]
    obtain⟨f1,f2,f3,f4,f5⟩:=zfw (G:=G) (B:=B) (ops:=ops) ak ad hf;refine cv.le f4 (Mg bU f1 f2 f5 eX fun dg ay aa ae au aR bA cB=>uo bU r aa ae bA fun ex st ak=>et ex st (ak.sub ?_ (f3 ▸ au) (f3 ▸ aR)))
    rw[gO,cB]
   |none=>
    rw[ak]at eX
    have gO:hH P N B T inl ops (o::r) S=exec P N B T inl o S (hH P N B T inl ops r):=by rw[hH,iU];simp only[ak]
    refine Mg bU ad hf ah eX fun dg ay aa ae au aR bA cB=>uo bU r aa ae bA fun ex st ak=>et ex st (ak.sub ?_ au aR)
    rw[gO,cB]
  |no=>
   rw[iU]at ah eX
   have gO:hH P N B T inl ops (o::r) S=hH P N B T inl ops r (S.put o.dst (.tp [])):=by rw[hH,iU]
   refine cv.pass ah ?_
   have hd:(S.den G N B e).put o.dst (.tuple [])=(S.put o.dst (.tp [])).den G N B e:=by rw[fa];rfl
   rw[hd];refine uo bU r (jd ad rfl) (je hf) eX fun ex st ak=>et ex st (ak.sub (by rw[gO]) (bX.refl _ _) (by rw[jf];exact Nat.le_refl _))
  |on gs=>
   rw[iU]at ah eX;simp only at eX;obtain⟨g1,g2⟩:=ah
   split at eX
   ·rename_i kM
    split at eX
    ·rename_i q aw
     split at eX
     ·rename_i hc
      have gO:hH P N B T inl ops (o::r) S=emit S.k q.xs (q.ns.map (qH gs)) (hH P N B T inl ops r ((S.e2 S.k q.xs).put o.dst (km gs q.v))):=by rw[hH,iU];simp only[kM,aw,hc]
      simp only[Bool.and_eq_true]at hc;obtain⟨gR,gw⟩:=mH eX;obtain⟨b7,a2,a3⟩:=rZ (M:=M) (G:=G) (N:=N) (B:=B) ad hf hc.1
      have bS:bX S.k e (di M e S.k q.xs):=jW (Nat.le_refl _)
      have h9:fH (di M e S.k q.xs) gs=fH e gs:=EJ bS kM
      have aj:S.k≤S.k+q.xs.length:=Nat.le_add_right _ _
      have fy:(km gs q.v).lt (S.k+q.xs.length)=true:=EH (EI aj kM) hc.2
      have Mp:((S.e2 S.k q.xs).put o.dst (km gs q.v)).cr:=jd b7 fy
      have AL:=uo bU (ops:=ops) r (Q:=Q) Mp (je a2) gw fun ex st ak=>et ex st (ak.sub (by rw[gO,lR]) bS (by rw[jf];exact aj))
      rw[fa,a3]at AL
      cases fq:fH e gs with
      |true=>
       have h5:=xK hf fq
       have ih:=xJ ad kM
       have dD:=vd (G:=G) (B:=B) (M:=M) aw (di M e S.k q.xs) (ik bS ih.g h5) (jz hc.1) fun n hn=>EM (gR (qH gs n) (List.mem_map.2 ⟨n,hn,rfl⟩)) (h9.trans fq)
       have xM:({S with g:=ht gs S.g}:aq).den G N B (di M e S.k q.xs)=S.den G N B e:=lh (S:={S with g:=ht gs S.g}) bS ih
       rw[xM]at dD;refine cv.step (g1 fq) dD.step ?_
       rw[EK (h9.trans fq)]at AL;exact AL
      |false=>
       refine cv.pass (g2 fq) ?_
       rw[EL (h9.trans fq)]at AL;exact AL
     ·exact eX.elim
    ·rename_i aw
     have gO:hH P N B T inl ops (o::r) S=qF N S o.dst gs (tq (rY S o.dst) gs (exec P N B T inl o {S with g:=ht gs S.g} (.cH .cj)) S.g) (hH P N B T inl ops r):=by rw[hH,iU];simp only[aw,kM]
     obtain⟨t1,_,t3⟩:=L2 (G:=G) (B:=B) ad hf eX
     have fin: ∀(aT:aq) (aC:Env),run M (tq (rY S o.dst) gs (exec P N B T inl o {S with g:=ht gs S.g} (.cH .cj)) S.g) e=some (.cj,aT,aC)→aT.cr→aT.ct aC→bX S.k e aC→S.k≤aT.k→cv P G ops Q r (aT.den G N B aC):=fun aT aC af aa ae au aR=>by
      obtain⟨dO,bf,s1,s2,pA,pB,pC,pD,pE⟩:=t3 aT aC af aa ae au aR;exact cv.le s1 (uo bU r s2 pA pD fun ex st ak=>et ex st (ak.sub (by rw[gO,pE]) pB pC))
     cases fq:fH e gs with
     |false=>
      refine cv.pass (g2 fq) ?_
      obtain⟨h2,c3,dj,gV⟩:=Mn (M:=M) (x:=exec P N B T inl o {S with g:=ht gs S.g} (.cH .cj)) (y:=rY S o.dst) (l:=S.g) fq kM ad.g hf
      obtain⟨aT,rV,pF,Mq,Mr,Ms⟩:=TA (G:=G) (N:=N) (B:=B) (dst:=o.dst) ad dj gV;rw[←Ms];exact fin aT e (by rw[c3,rV];rfl) pF Mq (bX.refl _ _) Mr
     |true=>
      have h5:=xK hf fq
      have ih:=xJ ad kM
      obtain⟨f1,f2⟩:=Mm (M:=M) (x:=exec P N B T inl o {S with g:=ht gs S.g} (.cH .cj)) (y:=rY S o.dst) (l:=S.g) fq
      refine Mg bU (S:={S with g:=ht gs S.g}) ih h5 (g1 fq) (f2 t1) fun dg ay aa ae au aR _ cB=>fin dg ay ?_ aa ae au aR
      exact f1.trans cB
   ·exact eX.elim
  |bad=>rw[iU]at eX;exact eX.elim
end
end Go.aM
namespace Go.aM
open Go
def AM(i:Nat)(y:ab):List b6→Bool
 |[]=>false
 | .rg j b::r=>(Nat.beq j i&&eI b y)||AM i y r
 |_::r=>AM i y r
def xN(j:Nat)(all:List b6):List b6→Option Bool
 |[]=>none
 | .d2 i (.pe .lss .i64) x y::r=>match Nat.beq i j with
  |true=>match eI x y with
   |true=>some false
   |false=>match x with
    | .aV (.int .i64) m=>match AM m y all&&(match y.rt with|some (.int .i64)=>true|_=>false)with
     |true=>some true
     |false=>none
    |_=>none
  |false=>xN j all r
 |_::r=>xN j all r
def Mt(g:ab)(l:List b6):Option Bool:=
 match lg g l with
 |some b=>some b
 |none=>match g with
  | .aV .bool j=>xN j l l
  |_=>none
def AN(i:Nat):List b6→Option ab
 |[]=>none
 | .d1 j .nj x::r=>match Nat.beq j i with
  |true=>match x.rt with
   |some .bool=>some x
   |_=>none
  |false=>AN i r
 |_::r=>AN i r
def aq.dT(S:aq)(v:ab)(b:Bool):aq:=
 match v with
 | .aV .bool i=>match AN i S.g with
  |some x=>{S with g:=.dT x (!b):: .dT (.aV .bool i) b::S.g}
  |none=>{S with g:=.dT (.aV .bool i) b::S.g}
 |v=>{S with g:=.dT v b::S.g}
def Mu(N:Nat)(S:aq)(x:Operand)(f g:aq→aB):aB:=
 match S.aZ N x with
 | .cs (.bool true)=>f S
 | .cs (.bool false)=>g S
 |v=>match v.rt with
  |some .bool=>match Mt v S.g with
   |some true=>f S
   |some false=>g S
   |none=>.it v (f (S.dT v true)) (g (S.dT v false))
  |_=>.bad 38
def comp(P:Program)(N B:Nat)(T:List (Nat × bL))(inl:Nat→List ab→aq→aB)(L:(aq→aB)→Nat→aq→aB)(D:Array Oper→aq→aB):Code→Nat→aq→aB
 | .skip,_,S=>.cH .cj S
 | .ret,_,S=>.cH .ret S
 | .exit id,_,S=>.cH (.ext id) S
 | .region _ ops draw,_,S=>match draw with
  |true=>D ops S
  |false=>hH P N B T inl ops ops.toList S
 | .cond x a b,cur,S=>Mu N S x (comp P N B T inl L D a cur) (comp P N B T inl L D b cur)
 | .block id c,_,S=>(comp P N B T inl L D c id S).rel (pg id)
 | .seq a b,cur,S=>iH N S (comp P N B T inl L D a cur S) (comp P N B T inl L D b cur)
 | .loop c,cur,S=>L (comp P N B T inl L D c cur) cur S
 |_,_,_=>.bad 6
section
variable {P:Program} {G:a8} {N B:Nat} {M:List aS} {T:List (Nat × bL)} {inl:Nat→List ab→aq→aB} {L:(aq→aB)→Nat→aq→aB} {D:Array Oper→aq→aB}
theorem AO{i:Nat}{y:ab}{e:Env}: ∀{l:List b6},AM i y l=true→(∀c∈l,c.ok e)→0≤ck (Env.at e i)∧ck (Env.at e i)<ck (y.dyn e)
 | .rg j b::r,h,hc=>by
  simp only[AM,Bool.or_eq_true,Bool.and_eq_true]at h
  rcases h with⟨aa,ae⟩|h
  ·rw[←Nat.eq_of_beq_eq_true aa,←e1 ae]
   exact hc (.rg j b) (by simp)
  ·exact AO h fun c hm=>hc c (by simp[hm])
 | .d1 _ _ _::r,h,hc=>AO (l:=r) h fun c hm=>hc c (by simp[hm])
 | .d2 _ _ _ _::r,h,hc=>AO (l:=r) h fun c hm=>hc c (by simp[hm])
 | .dT _ _::r,h,hc=>AO (l:=r) h fun c hm=>hc c (by simp[hm])
theorem zfx(d:aF):(d.aG (.int .i64):Int)=ck d∨(d.aG (.int .i64):Int)=0:=by
 obtain⟨r,v⟩:=d
 by_cases h:r= .int .i64
 ·subst h
  exact .inl (cA _ _)
 ·refine .inr ?_
  unfold aF.aG
  split
  ·rename_i h' _;exact absurd h' h
  ·rfl
theorem AP{j:Nat}{e:Env}{b:Bool}{all:List b6}(aY: ∀c∈all,c.ok e): ∀{l:List b6},xN j all l=some b→(∀c∈l,c.ok e)→(ab.aV .bool j).aA e .bool=b
 | .d2 i f x y::r,h,hc=>by
  have aH:=hc (.d2 i f x y) (by simp)
  have af: ∀{b},xN j all r=some b→(ab.aV .bool j).aA e .bool=b:=fun h=>AP aY h fun c hm=>hc c (by simp[hm])
  unfold xN at h
  split at h
  ·cases h
  ·rename_i zz iI sU eR heq
   cases heq
   split at h
   ·rename_i rv
    have rv:=Nat.eq_of_beq_eq_true rv
    subst rv;simp only[b6.ok]at aH
    have aw:(ab.aV .bool i).aA e .bool=z6 .lss (x.aA e (.int .i64)) (y.aA e (.int .i64)):=by
     simp only[ab.aA,ab.fo,ab.dyn,cA,aH];rfl
    rw[aw]
    split at h
    ·rename_i he
     cases h;rw[e1 he];exact decide_eq_false (Int.lt_irrefl _)
    ·split at h
     ·rename_i m _
      split at h
      ·rename_i aj
       cases h;simp only[Bool.and_eq_true]at aj
       have aa:=AO aj.1 aY
       have ax:y.rt=some (.int .i64):=by
        have:=aj.2
        split at this
        ·assumption
        ·cases this
       rw[lP ax]at aa
       have hx:(ab.aV (.int .i64) m).aA e (.int .i64)=(Env.at e m).aG (.int .i64):=by simp only[ab.aA,ab.fo,ab.dyn,cA]
       rw[hx];refine decide_eq_true ?_
       have ae:=aa.2
       rcases zfx (Env.at e m)with q|q
       ·rw[q];exact ae
       ·rw[q];exact Int.lt_of_le_of_lt aa.1 ae
      ·cases h
     ·cases h
   ·exact af h
  ·rename_i heq
   cases heq;exact af h
 | .d1 _ _ _::r,h,hc=>AP aY (l:=r) h fun c hm=>hc c (by simp[hm])
 | .rg _ _::r,h,hc=>AP aY (l:=r) h fun c hm=>hc c (by simp[hm])
 | .dT _ _::r,h,hc=>AP aY (l:=r) h fun c hm=>hc c (by simp[hm])
theorem TE{e:Env}{g:ab}{b:Bool}{l:List b6}(h:Mt g l=some b)(hc: ∀c∈l,c.ok e):g.aA e .bool=b:=by
 unfold Mt at h
 split at h
 ·rename_i aj;cases h;exact qz aj hc
 ·split at h
  ·exact AP hc h hc
  ·cases h
def jc(P:Program)(G:a8)(N B:Nat)(M:List aS)(c:Code)(f:aq→aB):Prop:=
 ∀(S:aq) (e:Env),S.cr→S.ct e→(f S).safe M e→b2 P G c (jB G N B M (f S) e S.k) (S.den G N B e)
theorem Mv{i:Nat}{x:ab}{e:Env}{k:Nat}: ∀{l:List b6},AN i l=some x→(∀c∈l,c.ok e)→fh k l=true→(ab.aV .bool i).aA e .bool= !(x.aA e .bool)∧x.lt k=true
 |[],h,_,_=>by cases h
 |c::r,h,hc,ar=>by
  have zj: ∀c∈r,c.ok e:=fun c hm=>hc c (List.mem_cons_of_mem _ hm)
  have sN:c.lt k=true∧fh k r=true:=by simpa only[fh,Bool.and_eq_true]using ar
  unfold AN at h
  split at h
  ·rename_i heq;cases heq
  ·rename_i j y eR heq
   cases heq
   split at h
   ·rename_i ag
    have ag:=Nat.eq_of_beq_eq_true ag
    subst ag
    split at h
    ·cases h
     have aH:Env.at e j=⟨gF.nj.c,gF.nj.den (x.aA e gF.nj.a)⟩:=hc _ (List.mem_cons_self ..)
     have aa:=sN.1
     simp only[b6.lt,Bool.and_eq_true]at aa;refine⟨?_,aa.2⟩
     simp only[ab.aA,ab.fo,ab.dyn,aH,cA];rfl
    ·cases h
   ·exact Mv h zj sN.2
  ·rename_i heq
   cases heq;exact Mv h zj sN.2
theorem TF{S:aq}{v:ab}{b:Bool}{e:Env}(ad:S.cr)(hf:S.ct e)(ar:v.lt S.k=true)(aw:v.aA e .bool=b):(S.dT v b).cr∧(S.dT v b).ct e∧(S.dT v b).k=S.k∧(S.dT v b).den G N B e=S.den G N B e:=by
 unfold aq.dT
 split
 ·rename_i i
  split
  ·rename_i x hx
   obtain⟨aa,ae⟩:=Mv hx hf ad.g;rw[aw]at aa
   have au:x.aA e .bool= !b:=by rw[aa];cases x.aA e .bool<;>rfl
   have b7:=AJ (b:=b) ad ar
   have a2:=AK hf aw
   exact⟨AJ (S:={S with g:=.dT (.aV .bool i) b::S.g}) (b:=!b) b7 ae,AK (S:={S with g:=.dT (.aV .bool i) b::S.g}) a2 au,rfl,rfl⟩
  ·exact⟨AJ ad ar,AK hf aw,rfl,rfl⟩
 ·exact⟨AJ ad ar,AK hf aw,rfl,rfl⟩
theorem zfy{x:Operand}{a b:Code}{f g:aq→aB}(hf:jc P G N B M a f)(ah:jc P G N B M b g):jc P G N B M (.cond x a b) (fun S=>Mu N S x f g):=by
 intro S e ad e8 ai
 have hx:=bE (G:=G) (N:=N) (B:=B) e8 x
 have bI:=DK (N:=N) ad x
 simp only at ai⊢
 unfold Mu at ai⊢
 generalize S.aZ N x=v at ai hx bI⊢
 split at ai
 ·exact b2.QW hx (hf S e ad e8 ai)
 ·exact b2.QX hx (ah S e ad e8 ai)
 ·rename_i aa ae
  split at ai
  ·rename_i af
   have hd:=fW (G:=G) (e:=e) af
   rw[←hx]at hd
   have hd:=hd.trans (show _=aD.av (.v (.bool _))from rfl)
   split at ai
   ·rename_i aj
    rw[TE aj e8]at hd;exact b2.QW hd (hf S e ad e8 ai)
   ·rename_i aj
    rw[TE aj e8]at hd;exact b2.QX hd (ah S e ad e8 ai)
   ·refine b2.cond hd (fun aI=>?_) (fun aI=>?_)
    ·obtain⟨c3,dj,gV,pG⟩:=TF (G:=G) (N:=N) (B:=B) ad e8 bI aI
     have:=hf _ e c3 dj (ai.1 aI)
     rw[pG]at this;refine b2.mono this fun ex st ak=>ak.sub ?_ (bX.refl _ _) (Nat.le_of_eq gV.symm)
     rw[tr aI]
    ·obtain⟨c3,dj,gV,pG⟩:=TF (G:=G) (N:=N) (B:=B) ad e8 bI aI
     have:=ah _ e c3 dj (ai.2 aI)
     rw[pG]at this;refine b2.mono this fun ex st ak=>ak.sub ?_ (bX.refl _ _) (Nat.le_of_eq gV.symm)
     rw[tr aI]
  ·exact ai.elim
theorem zfz{id:Nat}{c:Code}{f:aq→aB}(hf:jc P G N B M c f):jc P G N B M (.block id c) (fun S=>(f S).rel (pg id)):=by
 intro S e ad e8 ai
 have an:=zdE (f S) id
 refine b2.block (b2.mono (hf S e ad e8 ((kY an).1 ai)) fun ex st ak=>?_)
 obtain⟨x,dg,ay,aa,ae,au,aR,bA,cB,dM⟩:=ak
 have af:run M ((f S).rel (pg id)) e=some (pg id x,dg,ay):=by rw[wh an,aa];rfl
 cases x with
 |cj=>cases ex<;>first|exact⟨_,dg,ay,af,trivial,au,aR,bA,cB,dM⟩|exact ae.elim
 |ret=>cases ex<;>first|exact⟨_,dg,ay,af,trivial,au,aR,bA,cB,dM⟩|exact ae.elim
 |lf n=>exact(by cases ex<;>exact ae.elim)
 |ext n=>
  cases ex with
  |exit m=>
   have ae:n=m:=ae
   subst ae;show(bif Nat.beq n id then _ else _)
   cases ad:Nat.beq n id with
   |true=>exact⟨.cj,dg,ay,by rw[af];simp only[pg,ad],trivial,au,aR,bA,cB,dM⟩
   |false=>exact⟨.ext n,dg,ay,by rw[af];simp only[pg,ad],rfl,au,aR,bA,cB,dM⟩
  |_=>exact ae.elim
theorem y3{a b:Code}{f g:aq→aB}(hf:jc P G N B M a f)(ah:jc P G N B M b g):jc P G N B M (.seq a b) (fun S=>iH N S (f S) g):=by
 intro S e ad e8 ai
 obtain⟨t1,t2,t3⟩:=Ev (G:=G) (B:=B) ad e8 ai
 refine b2.seq (b2.mono (hf S e ad e8 t1) fun ex st ak=>?_)
 obtain⟨x,dg,ay,aa,ae,au,aR,bA,cB,dM⟩:=ak
 have other:x≠ .cj→ex≠ .normal→jB G N B M (iH N S (f S) g) e S.k ex st:=fun b5 _=>⟨x,dg,ay,t2 x dg ay aa b5 (Tm ae),ae,au,aR,bA,cB,dM⟩
 cases x with
 |cj=>
  cases ex with
  |normal=>
   obtain⟨dO,bf,s1,s2,pA,pB,pC,pD,pE⟩:=t3 dg ay aa aR bA cB dM;exact b2.le au (b2.le s1 (b2.mono (ah dO bf s2 pA pD) fun ex st ak=>ak.sub pE pB pC))
  |_=>exact ae.elim
 |ret=>cases ex<;>first|exact other (by simp) (by simp)|exact ae.elim
 |ext n=>cases ex<;>first|exact other (by simp) (by simp)|exact ae.elim
 |lf n=>cases ex<;>exact ae.elim
theorem Mw{c:Code}{x:b0}{ex:Exit}(h:AF x ex)(k: ∀{Q:Exit→aP→Prop} {s:aP},Q ex s→b2 P G c Q s):jc P G N B M c (fun S=>.cH x S):=
 fun S e ad hf _=>k ⟨x,S,e,rfl,h,cm.refl _,ad,hf,bX.refl _ _,Nat.le_refl _⟩
def Mx(P:Program)(G:a8)(N B:Nat)(M:List aS)(L:(aq→aB)→Nat→aq→aB):Prop:=∀c f id,jc P G N B M c f→jc P G N B M (.loop c) (L f id)
def My(P:Program)(G:a8)(N B:Nat)(M:List aS)(D:Array Oper→aq→aB):Prop:=∀id ops,jc P G N B M (.region id ops true) (D ops)
theorem oN(bU:fK P G M inl)(fS:Mx P G N B M L)(ml:My P G N B M D): ∀(c:Code) (cur:Nat),jc P G N B M c (comp P N B T inl L D c cur)
 | .skip,_=>Mw (ex:=.normal) trivial b2.skip
 | .ret,_=>Mw (ex:=.ret) trivial b2.ret
 | .exit id,_=>Mw (ex:=.exit id) rfl b2.exit
 | .region id ops draw,_=>by
  cases draw with
  |true=>exact ml id ops
  |false=>
   intro S e ad hf ai
   have iX:ops=ops.toList.toArray:=by simp
   rw[iX];refine b2.region ?_
   rw[←iX];exact uo bU ops.toList ad hf ai fun _ _ h=>h
 | .cond x a b,cur=>zfy (oN bU fS ml a cur) (oN bU fS ml b cur)
 | .block id c,_=>zfz (oN bU fS ml c id)
 | .seq a b,cur=>y3 (oN bU fS ml a cur) (oN bU fS ml b cur)
 | .loop c,cur=>fS c _ cur (oN bU fS ml c cur)
 | .rangeFunc _ _ _ _,_=>fun _ _ _ _ h=>h.elim
 | .scope _,_=>fun _ _ _ _ h=>h.elim
 | .label _,_=>fun _ _ _ _ h=>h.elim
 | .goto _,_=>fun _ _ _ _ h=>h.elim
 | .refuse _,_=>fun _ _ _ _ h=>h.elim
end
end Go.aM
namespace Go.aM
open Go
def AQ:Nat→List ab→List (Nat × ab)
 |_,[]=>[]
 |i,x::r=>(i,x)::AQ (i+1) r
def xO(P:Program)(N:Nat)(S:aq):List ResultVar→Option (List ab)
 |[]=>some []
 | .tmp t::r=>match xO P N S r with
  |some l=>some (S.aZ N (.tmp t)::l)
  |none=>none
 | .cell p t::r=>match xO P N S r,u5 S (S.aZ N (.tmp p))with
  |some l,some cs=>match p9 P t cs with
   |some v=>some (v::l)
   |none=>none
  |_,_=>none
def Mz(P:Program)(fn:Func)(N:Nat)(S:aq):Option ab:=
 match xO P N S fn.results.toList with
 |some [x]=>some x
 |some l=>some (.tp l)
 |none=>none
def sE:b0→b0
 | .ret=>.cj
 |x=>x
def zfA:b0→Bool
 | .cj=>true
 | .ret=>true
 |_=>false
def ur(P:Program)(fn:Func)(N:Nat)(S:aq):aB:=
 match Mz P fn N S with
 |some v=>match v.lt S.k with
  |true=>.cH .cj {S with l:=ba.put .emp 0 v}
  |false=>.bad 44
 |none=>.bad 43
structure jK where
 L:Nat→Nat→(Nat→List ab→aq→aB)→(aq→aB)→Nat→aq→aB
 D:Nat→Nat→(Nat→List ab→aq→aB)→Array Oper→aq→aB
def qa(aG:List ab)(S:aq):aq:={S with l:=fi (AQ 0 aG)}
def MA(P:Program)(H:jK)(T:List (Nat × bL))(inl:Nat→List ab→aq→aB)(c:Code)(N:Nat)(aG:List ab)(S:aq):aB:=
 comp P N S.n T inl (H.L N S.n inl) (H.D N S.n inl) c 0 (qa aG S)
def xP(n:Nat)(m:Nat):Nat:=
 match n with
 |0=>m
 |k+1=>k+1
def aB.nw:aB→Nat
 | .cH _ _=>0
 | .lt _ _ t=>t.nw
 | .eG _ t=>t.nw
 | .it _ a b=>xP a.nw b.nw
 | .dC _ a _ k=>xP a.nw k.nw
 | .ej _ _ _ _ _ a k=>xP a.nw k.nw
 | .e0 _ _ _ a k=>xP a.nw k.nw
 | .bad n=>n
def zfB(f n:Nat):Nat:=
 match Nat.ble 1000 n with
 |true=>n
 |false=>f*1000+n
def Cy(P:Program)(f:Nat)(fn:Func)(N:Nat)(t:aB):aB:=
 match t.fp zfA with
 |true=>(t.rel sE).eK (ur P fn N) none
 |false=>.bad (zfB f t.nw)
def MB(P:Program)(H:jK)(T:List (Nat × bL))(inl:Nat→List ab→aq→aB)(f:Nat)(aG:List ab)(S:aq):aB:=
 match P.funcs[f]? with
 |some fn=>match fn.body with
  |some c=>Cy P f fn (aG.length+(fn.ntmps-aG.length)) (MA P H T inl c (aG.length+(fn.ntmps-aG.length)) aG S)
  |none=>.bad 41
 |none=>.bad 42
section
variable {P:Program} {G:a8} {N B:Nat} {M:List aS} {T:List (Nat × bL)} {inl:Nat→List ab→aq→aB} {H:jK}
def MC(P:Program)(G:a8)(M:List aS)(H:jK):Prop:=∀(inl:Nat→List ab→aq→aB),fK P G M inl→∀N B,Mx P G N B M (H.L N B inl)∧My P G N B M (H.D N B inl)
theorem TG{t:TypeId}{l:List ab}{v:ab}{e:Env}(h:p9 P t l=some v):
 (∃n,mi P t=some n∧n≤l.length∧0<n∧v.den G e= .agg ((ab.bQ G e l).take n))∨(mi P t=none∧scalar P t=true∧∃r,l=v::r):=by
 unfold p9 at h
 split at h
 ·rename_i n hn
  split at h
  ·rename_i ad
   simp only[Bool.and_eq_true]at ad;cases h;refine .inl ⟨n,hn,Nat.le_of_ble_eq_true ad.1,Nat.le_of_ble_eq_true ad.2,?_⟩
   simp only[ab.den,e6,List.map_take]
  ·cases h
 ·rename_i hn
  split at h
  ·rename_i ai
   cases h;exact .inr ⟨hn,ai,_,rfl⟩
  ·cases h
theorem EN{S:aq}{e:Env}(hf:S.ct e): ∀{l:List ResultVar} {vs:List ab},xO P N S l=some vs→m7 P (S.den G N B e) l=some (ab.bQ G e vs)
 |[],vs,h=>by cases h;rfl
 | .tmp t::r,vs,h=>by
  simp only[xO]at h
  split at h
  ·rename_i l ar
   cases h
   have:=bE (G:=G) (N:=N) (B:=B) hf (.tmp t)
   simp only[m7,EN hf ar,ab.bQ,←this];rfl
  ·cases h
 | .cell p t::r,vs,h=>by
  simp only[xO]at h
  split at h
  ·rename_i l cs ar hc
   split at h
   ·rename_i v aw
    cases h
    have aa:=bE (G:=G) (N:=N) (B:=B) hf (.tmp p)
    have ae:=Ai (G:=G) (N:=N) (B:=B) (e:=e) hc
    rw[←aa]at ae
    have ae:fl (S.den G N B e).heap ((S.den G N B e).cQ.getD p .top)=some (ab.bQ G e cs):=ae
    simp only[m7,EN hf ar,ae,ab.bQ]
    rcases TG (G:=G) (e:=e) aw with⟨n,g1,g2,g3,g4⟩|⟨g1,g2,eR,g3⟩
    ·simp only[g1,g4]
     rw[if_pos ⟨by rw[me];exact g2,g3⟩]
    ·subst g3
     simp only[g1,g2,if_true,ab.bQ]
   ·cases h
  ·cases h
theorem PS{fn:Func}{S:aq}{e:Env}{v:ab}(hf:S.ct e)(h:Mz P fn N S=some v):zu P fn (S.den G N B e)=some (v.den G e):=by
 unfold Mz at h
 unfold zu
 split at h
 ·rename_i x hx
  cases h;rw[EN hf hx];rfl
 ·rename_i l b5 ar
  cases h;rw[EN hf ar]
  match l with
  |[]=>rfl
  |[x]=>exact absurd rfl (b5 x)
  |x::y::l=>rfl
 ·cases h
theorem Cz(t:aB):t.iz sE:=np (t.lvl+1) (Nat.lt_succ_self _) (fun n _ x h=>by cases x<;>first|rfl|exact h) (fun n x h=>by cases x<;>first|rfl|exact h)
theorem MD: ∀{l:List ab} {i j:Nat},(fi (AQ i l)).get j=if j<i then none else l[j-i]?
 |[],i,j=>by simp only[AQ,fi];split<;>simp[ba.get]
 |x::r,i,j=>by
  simp only[AQ,fi,ba.h0,MD (l:=r)]
  by_cases h:i=j
  ·subst h;simp
  ·rw[if_neg h]
   by_cases ae:j<i
   ·rw[if_pos ae,if_pos (by omega)]
   ·rw[if_neg ae,if_neg (by omega),show j-i=(j-(i+1))+1 by omega,List.getElem?_cons_succ]
theorem PO{aG:List ab}{S:aq}{e:Env}{k:Nat}:(qa aG S).den G (aG.length+k) S.n e=⟨ab.bQ G e aG++List.replicate k .top,cx G e S.h,S.n,S.n⟩:=by
 simp only[aq.den,qa,aP.mk.injEq,and_true,true_and]
 apply List.ext_getElem?
 intro j
 rw[n9,Nat.zero_add,MD,if_neg (Nat.not_lt_zero _),Nat.sub_zero,e6,List.getElem?_append,List.getElem?_replicate,List.length_map]
 by_cases h:j<aG.length
 ·rw[if_pos (by omega),if_pos h,List.getElem?_map,List.getElem?_eq_getElem h]
  rfl
 ·rw[if_neg h]
  by_cases ae:j<aG.length+k
  ·rw[if_pos ae,if_pos (by omega),List.getElem?_eq_none (by omega)]
  ·rw[if_neg ae,if_neg (by omega)]
theorem PN{aG:List ab}{S:aq}(ad:S.cr)(ar:ab.cK S.k aG=true):(qa aG S).cr:=by
 refine⟨fun i x hx=>?_,ad.h,ad.g⟩
 simp only[qa,MD,Nat.not_lt_zero,if_false,Nat.sub_zero]at hx
 have hm:=List.mem_of_getElem? hx
 clear hx
 induction aG with
 |nil=>cases hm
 |cons y r a1=>
  simp only[ab.cK,Bool.and_eq_true]at ar
  rcases List.mem_cons.1 hm with rfl|hm
  ·exact ar.1
  ·exact a1 ar.2 hm
theorem b2.PR{c:Code}{Q:Exit→aP→Prop}{s:aP}(h:b2 P G c (fun e st=>∃EO,cm st EO∧Q e EO) s):b2 P G c Q s:=fun E a w af=>
 wp_mono (h E a w af) fun _ bc w' ⟨st,⟨EO,ar,aJ⟩,ae⟩=>⟨EO,aJ,ar E G bc w' ae⟩
theorem zfC(kX:MC P G M H)(bU:fK P G M inl):fK P G M (MB P H T inl):=by
 intro f aG S e ad ar hf ai
 unfold MB at ai⊢
 split at ai
 ·rename_i fn nM
  split at ai
  ·rename_i c hc
   generalize iZ:aG.length+(fn.ntmps-aG.length)=N at ai;generalize aI:MA P H T inl c N aG S=t at ai;unfold Cy at ai⊢
   split at ai
   ·rename_i y4
    obtain⟨g1,g2,g3⟩:=jg (t.rel sE) none ai
    have uq:t.safe M e:=(kY (Cz t)).1 g1
    have y5:=oN (T:=T) (B:=S.n) (N:=N) bU (kX inl bU N S.n).1 (kX inl bU N S.n).2 c 0 (qa aG S) e (PN ad ar) hf (by
     unfold MA at aI;rw[aI];exact uq)
    have cE:comp P N S.n T inl (H.L N S.n inl) (H.D N S.n inl) c 0 (qa aG S)=t:=aI
    rw[cE,←iZ,PO,iZ]at y5;refine dF.PQ (k:=fn.ntmps-aG.length) nM hc (by rw[me]) (b2.PR (b2.mono y5 fun ex st ak=>?_))
    obtain⟨x,dg,ay,aa,ae,au,aR,bA,cB,dM⟩:=ak;refine⟨_,au,?_⟩
    obtain⟨iI,dO,bf,c3,dj⟩:=jh (M:=M) (e:=e) y4;rw[aa]at c3
    cases c3
    have af:run M (t.rel sE) e=some (.cj,dg,ay):=by
     rw[wh (Cz t),aa]
     cases x<;>first|rfl|cases dj
    obtain⟨oO,_⟩:=g3 dg ay af;rw[af]at g2
    have g2:run M ((t.rel sE).eK (ur P fn N) none) e=run M (ur P fn N dg) ay:=g2
    unfold ur at oO g2
    split at oO
    ·rename_i v aw
     split at oO
     ·rename_i fy
      simp only[aw,fy]at g2;refine⟨(by cases x<;>cases ex<;>first|exact .inl rfl|exact .inr rfl|exact ae.elim|cases dj),v.den G ay,cx G ay dg.h,PS bA aw,fun _ _ h=>h,{dg with l:=ba.put .emp 0 v},ay,g2,?_,rfl,⟨fun i x hx=>?_,aR.h,aR.g⟩,bA,cB,dM⟩
      ·simp only[aq.at,ba.h0,if_true]
      ·simp only[ba.h0]at hx
       split at hx
       ·cases hx;exact fy
       ·simp[ba.get]at hx
     ·exact oO.elim
    ·exact oO.elim
   ·exact ai.elim
  ·exact ai.elim
 ·exact ai.elim
end
end Go.aM
