/- TD, part Q: regions whose order is fixed. Conditions: none. -/
import Derived.Test.YtmkpmgfieagphaaGreatDoorYTDm2
namespace Go.aO
open Go
def xn(k:Nat):bQ→List cc
 | .f1 .nL x=>[.d1 k .nL x]
 | .f1 (.iz c) x=>[.d1 k (.iz c) x]
 | .f1 .mY x=>[.d1 k .mY x]
 | .f2 (.jt .add .i64 .i64) x y=>[.d2 k (.jt .add .i64 .i64) x y]
 | .f2 (.oV .lss .i64) x y=>[.d2 k (.oV .lss .i64) x y]
 |_=>[]
def xo(k:Nat):List bQ→List cc→List cc
 |[],g=>g
 |x::r,g=>xo (k+1) r (xn k x++g)
def aq.eT(S:aq)(k:Nat)(xs:List bQ):aq:={S with k:=k+xs.length,g:=xo k xs S.g}
inductive EG where
 |yes
 |no
 |on (gs:List (ab × Bool))
 |bad
def u2(l:List cc)(b:Bool):ab→EG
 | .cs (.bool c)=>match decide (c=b)with
  |true=>.yes
  |false=>.no
 | .tp _=>.no
 | .fL h c v=>match h.rt with
  |some .bool=>match u2 l b v with
   | .yes=>.on [(h,c)]
   | .no=>.no
   | .on gs=>.on ((h,c)::gs)
   | .bad=>.bad
  |_=>.bad
 |g=>match g.rt,k1 g l with
  |some .bool,some c=>match decide (c=b)with
   |true=>.yes
   |false=>.no
  |some .bool,none=>.on [(g,b)]
  |_,_=>.bad
def guardOf(N:Nat)(ops:Array Oper)(S:aq)(o:Oper):EG:=
 match o.guard with
 |none=>.yes
 |some (j,b)=>match l6 ops j with
  |some d=>match Nat.blt d N with
   |true=>u2 S.g b ((S.at d).res S.g)
   |false=>.bad
  |none=>.bad
def hp:List (ab × Bool)→List cc→List cc
 |[],l=>l
 |(g,b)::r,l=>.dV g b::hp r l
def qh:List (ab × Bool)→fi→fi
 |[],n=>n
 |(g,b)::r,n=>.SJ g b (qh r n)
def lG(k:Nat):List (ab × Bool)→Bool
 |[]=>true
 |(g,_)::r=>g.lt k&&lG k r
def fP(e:Env):List (ab × Bool)→Bool
 |[]=>true
 |(g,b)::r=>(g.aC e .bool==b)&&fP e r
def MK(P:Program)(B:Nat)(S:aq)(t:TypeId)(x:ab):Option dk:=
 match x.rt,isStr P t&&Nat.ble B S.n with
 |some .str,true=>some ⟨[],[],none,(S.n,.it .st x (.cs (.int .i64 0)))::S.h,S.n+1,.gR S.n⟩
 |_,_=>none
def EH(P:Program)(N B:Nat)(T:List (Nat × bJ))(S:aq)(o:Oper):Option dk:=
 match o.op with
 | .alloc t=>L2 P B S t
 | .box t x=>L3 B S t (S.a8 N x)
 | .store t p x=>L4 P S t (S.a8 N p) (S.a8 N x)
 | .buildSlice t len ps=>match Md P N B T S t len ps.toList with
  |some r=>some r
  |none=>match Me P B T S t len ps.toList with
   |some r=>some r
   |none=>match Mc P N T S t len ps.toList with
    |some r=>some r
    |none=>Mf P N B S t len ps.toList
 | .makeSlice t x y=>Mg P B T S t (S.a8 N x) (S.a8 N y)
 | .range t x=>MK P B S t (S.a8 N x)
 | .makeMap t none=>MI P B T S t
 | .mapUpdate t m x y=>MJ P T S t (S.a8 N m) (S.a8 N x) (S.a8 N y)
 | .call c=>match c.callee,c.args.toList,c.argTypes.toList with
  | .builtin .append,[x,y],[t,bI]=>match Nat.beq t bI with
   |true=>Mh P B S t (S.a8 N x) (S.a8 N y)
   |false=>Mi P B S t bI (S.a8 N x) (S.a8 N y)
  |_,_,_=>none
 |_=>none
structure qi where
 xs:List bQ
 g:ab
 h:List (Nat × bK)
 v:ab
 bp:ab
def TS(S:aq)(x:ab):Option qi:=
 match x with
 | .gR id=>match dj S.h id with
  |some (.it .st s p)=>match s.rt,p.rt with
   |some .str,some (.int .i64)=>some ⟨[.f2 .lS s p,.f2 .lU s p,.f2 .lT s p,.f2 .kF s p],.aQ .bool S.k,ju S.h id (.it .st s (.aQ (.int .i64) (S.k+3))),
    .tp [.cs (.bool true),.aQ (.int .i64) (S.k+1),.aQ (.int .i32) (S.k+2)],.tp [.cs (.bool false)]⟩
   |_,_=>none
  |_=>none
 |_=>none
def ML(N:Nat)(S:aq)(o:Oper):Option qi:=
 match o.op with
 | .next x true=>TS S (S.a8 N x)
 |_=>none
def qi.ok(q:qi)(S:aq):Bool:=(gS S.k q.xs&&q.g.lt (S.k+q.xs.length))&&(eI (S.k+q.xs.length) q.h&&(q.v.lt (S.k+q.xs.length)&&q.bp.lt (S.k+q.xs.length)))
def qi.st(q:qi)(S:aq)(dst:Option Nat):aq:=(aq.put {S.eT S.k q.xs with h:=q.h,g:=.dV q.g true::(S.eT S.k q.xs).g} dst q.v).EC
def qi.xp(q:qi)(S:aq)(dst:Option Nat):aq:=(aq.put {S.eT S.k q.xs with g:=.dV q.g false::(S.eT S.k q.xs).g} dst q.bp).EC
def bK.kind:bK→bK→Bool
 | .cQ _ _,.cQ _ _=>true
 | .rw _ c _,.rw _ d _=>Nat.beq (b5 c) (b5 d)
 | .it _ _ _,.it _ _ _=>true
 |_,_=>false
def Ax(n:Nat)(aP:List (Nat × bK)):List (Nat × bK)→Bool
 |[]=>true
 |(id,o)::r=>(match Nat.blt id n with
  |true=>match dj aP id with
   |some ct=>bK.kind ct o
   |none=>false
  |false=>true)&&Ax n aP r
mutual
def ab.rz(n:Nat):ab→Bool
 | .bO l=>ab.sT n l
 | .tp l=>ab.sT n l
 | .cq k _=>Nat.blt k n
 | .gr k _ _=>Nat.blt k n
 | .gq k _ _ _=>Nat.blt k n
 | .aR k=>Nat.blt k n
 | .cY k _=>Nat.blt k n
 | .fl _ (some k) _=>Nat.blt k n
 | .fn _ a b=>ab.sT n a&&ab.sT n b
 | .gR k=>Nat.blt k n
 | .fL _ _ x=>ab.rz n x
 |_=>true
def ab.sT(n:Nat):List ab→Bool
 |[]=>true
 |x::r=>ab.rz n x&&ab.sT n r
end
def nU(n:Nat):List (Nat × bK)→Bool
 |[]=>true
 |(id,.cQ _ l)::r=>Nat.blt id n&&(ab.sT n l&&nU n r)
 |(id,.rw _ _ _)::r=>Nat.blt id n&&nU n r
 |(id,.it _ _ _)::r=>Nat.blt id n&&nU n r
def aq.back(S:aq)(dst:Option Nat)(C:aq):aq:=(⟨S.l,C.h,C.n,C.k,C.g⟩:aq).put dst (C.at 0)
def EI(S C:aq):Bool:=(ab.rz C.n (C.at 0)&&nU C.n C.h)&&(Nat.ble S.n C.n&&Ax S.n S.h C.h)
def Ay(S:aq)(dst:Option Nat)(C:aq):aD:=
 match EI S C with
 |true=>.cR .cp (S.back dst C)
 |false=>.bad 34
def MM(C:aq):List ab→List ab→Nat→Option (Nat × Nat × Nat)
 | .aR k::r,.aR m::eV,off=>match Nat.beq k m,dj C.h k,dj C.h m with
  |false,none,some (.rw _ _ _)=>some (off,k,m)
  |_,_,_=>MM C r eV (off+1)
 |_::r,_::eV,off=>MM C r eV (off+1)
 |_,_,_=>none
def EJ(C:aq):List (Nat × bK)→Option (Nat × Nat × Nat × Nat)
 |[]=>none
 |(id,.cQ _ zgb)::r=>match dj C.h id with
  |some (.cQ _ l)=>match MM C zgb l 0 with
   |some (off,k,m)=>some (id,off,k,m)
   |none=>EJ C r
  |_=>EJ C r
 |_::r=>EJ C r
def EK(m:Nat):Option ab→Bool
 |some (.aR j)=>Nat.beq j m
 |_=>false
def xq(B id off k m:Nat)(C:aq):aq:=
 match dj C.h id,dj C.h m with
 |some (.cQ t l),some (.rw gN c x)=>match EK m (l[off]?)&&((Nat.ble B k&&Nat.blt k C.n)&& !(Nat.beq id k))with
  |true=>⟨(C.l.map (ab.kill m)).map (ab.kill k),ju ((k,.rw gN c x)::ho k (ho m C.h)) id (.cQ t ((ab.ef k (ab.ef m l)).set off (.aR k))),C.n,C.k,C.g⟩
  |false=>C
 |_,_=>C
def u3(B:Nat)(S C:aq):aq:=
 match EJ C S.h with
 |some (id,off,k,m)=>xq B id off k m C
 |none=>C
def MN(B:Nat)(C:aq):List (Nat × bK)→Option Nat
 |[]=>none
 |(id,.rw _ _ _)::r=>match dj C.h id,Nat.ble B id with
  |none,true=>some id
  |_,_=>MN B C r
 |_::r=>MN B C r
def sU(B d k m:Nat)(C:aq):aq:=
 match dj C.h m with
 |some (.rw gN c x)=>match EK m (C.l.get d)&&(Nat.ble B k&&Nat.blt k C.n)with
  |true=>aq.put ⟨(C.l.map (ab.kill m)).map (ab.kill k),(k,.rw gN c x)::ho k (ho m C.h),C.n,C.k,C.g⟩ (some d) (.aR k)
  |false=>C
 |_=>C
def u4(B N:Nat)(S C:aq)(dst:Option Nat):aq:=
 match dst with
 |some d=>match C.l.get d,MN B C S.h with
  |some (.aR m),some k=>match Nat.ble S.n m&&Nat.blt d N with
   |true=>match Nat.blt d N with
    |true=>sU B d k m C
    |false=>C
   |false=>C
  |_,_=>C
 |none=>C
def Az(P:Program)(N:Nat)(S:aq)(o:Oper):Option (Nat × List ab):=
 match o.op with
 | .call c=>match c.callee with
  | .value x=>match S.a8 N x with
   | .fn (.func f) p q=>some (f,p++c.args.toList.map (S.a8 N)++q)
   |_=>none
  | .invoke x name=>match S.a8 N x with
   | .er t a rs l=>match methodOf P t name,rp a l,decide (o4 l=some rs)with
    |some f,some v,true=>some (f,[v]++c.args.toList.map (S.a8 N)++[])
    |_,_,_=>none
   |_=>none
  |_=>none
 |_=>none
def ab.mS(id:Nat)(x y:ab):ab:=
 match y with
 | .aR j=>match Nat.beq j id with
  |true=>x
  |false=>.aR j
 |y=>ab.kill id y
def MO(id:Nat)(x:ab)(S:aq):aq:=⟨S.l.map (ab.mS id x),ho id S.h,S.n,S.k,S.g⟩
def xr(S:aq)(id:Nat):aq:=
 match dj S.h id with
 |some (.rw _ c (.aQ r k))=>match hO r (.li c)with
  |true=>MO id (.aQ r k) S
  |false=>S
 |_=>S
def mn:List ab→aq→aq
 |[],S=>S
 | .aR id::r,S=>mn r (xr S id)
 |_::r,S=>mn r S
def TT(f:Nat):List Nat→Bool
 |[]=>false
 |g::r=>Nat.beq g f||TT f r
def preB(P:Program)(N:Nat)(S:aq)(o:Oper):Option (List ab):=
 match o.op with
 | .call _=>match o.guard with
  |some _=>none
  |none=>match Az P N S o with
   |some (f,aJ)=>match TT f zd5 with
    |true=>some aJ
    |false=>none
   |none=>none
 |_=>none
def AA(f:gI)(x:ab):List cc→Option Nat
 |[]=>none
 | .d1 j g y::r=>match decide (g=f)&&eJ y x with
  |true=>some j
  |false=>AA f x r
 |_::r=>AA f x r
def MP(S:aq)(r:dy):Option (a6 × Nat):=
 match r.xs,r.ns,r.v with
 |[.f1 f x],[],.aQ t k=>match Nat.beq k S.k with
  |true=>match AA f x S.g with
   |some j=>match Nat.blt j S.k with
    |true=>some (t,j)
    |false=>none
   |none=>none
  |false=>none
 |_,_,_=>none
def TU(f:cD)(a b:Int):Option ab:=
 match f with
 | .jt .add .i64 .i64=>some (.cs (.int .i64 (bL .add .i64 a b)))
 | .jt .sub .i64 .i64=>some (.cs (.int .i64 (bL .sub .i64 a b)))
 | .jt .mul .i64 .i64=>some (.cs (.int .i64 (bL .mul .i64 a b)))
 | .oV op .i64=>some (.cs (.bool (zY op a b)))
 |_=>none
def MQ(S:aq)(r:dy):Option ab:=
 match r.xs,r.ns,r.v with
 |[.f2 f (.cs (.int .i64 a)) (.cs (.int .i64 b))],[],.aQ t k=>match Nat.beq k S.k&&hO t f.c with
  |true=>TU f a b
  |false=>none
 |_,_,_=>none
def MR(o:Oper):Nat:=
 match o.op with
 | .pick _ _ _=>1
 | .alloc _=>2
 | .box _ _=>3
 | .build _ _=>4
 | .buildSlice _ _ _=>5
 | .insert _ _ _ _=>6
 | .load _ _=>7
 | .store _ _ _=>8
 | .nilCheck _=>9
 | .binOp _ _ _ _ _=>10
 | .unOp _ _ _=>11
 | .convert _ _ _=>12
 | .makeInterface _ _=>13
 | .makeFunc _ _ _=>14
 | .makeMap _ _=>15
 | .makeSlice _ _ _=>16
 | .slice _ _ _ _ _=>17
 | .fieldAddr _ _ _=>18
 | .field _ _ _=>19
 | .indexAddr _ _ _=>20
 | .index _ _ _=>21
 | .lookup _ _ _ _=>22
 | .mapUpdate _ _ _ _=>23
 | .call c=>match c.callee with
  | .builtin .append=>30
  | .builtin .len=>31
  | .builtin .copy=>32
  | .builtin _=>33
  | .value _=>34
  |_=>35
 | .range _ _=>40
 | .next _ _=>41
 | .extract _ _=>42
 |_=>50
def exec(P:Program)(N B:Nat)(T:List (Nat × bJ))(inl:Nat→List ab→aq→aD)(o:Oper)(S:aq)(k:aq→aD):aD:=
 match qd P N S o with
 |some r=>match gS S.k r.xs&&r.v.lt (S.k+r.xs.length)with
  |true=>match MP S r with
   |some (t,j)=>k (S.put o.dst (.aQ t j))
   |none=>match MQ S r with
    |some v=>k (S.put o.dst v)
    |none=>emit S.k r.xs r.ns (k ((S.eT S.k r.xs).put o.dst r.v))
  |false=>.bad 30
 |none=>match EH P N B T S o with
  |some r=>match gS S.k r.xs&&(r.v.lt (S.k+r.xs.length)&&eI (S.k+r.xs.length) r.h)with
   |true=>emit S.k r.xs r.ns (k ((r.st S o.dst).eT S.k r.xs))
   |false=>.bad 31
  |none=>match ML N S o with
   |some q=>match q.ok S with
    |true=>emit S.k q.xs [] (.it q.g (k (q.st S o.dst)) (k (q.xp S o.dst)))
    |false=>.bad 33
   |none=>match Az P N S o with
    |some (f,aJ)=>match mP P f with
     |true=>iN N S ((inl f aJ S).eL (Ay S o.dst) none) fun C=>k (u4 B N S (u3 B S C) o.dst)
     |false=>.bad 32
    |none=>.bad (100+MR o)
def EL(g:ab)(b:Bool)(x y:aD):aD:=
 match b with
 |true=>.it g x y
 |false=>.it g y x
def sV(y:List cc→aD):List (ab × Bool)→aD→List cc→aD
 |[],x,_=>x
 |(g,b)::r,x,l=>EL g b (sV y r x (.dV g b::l)) (y (.dV g (!b)::l))
def rA(S:aq)(dst:Option Nat)(l:List cc):aD:=.cR .cp (aq.put {S with g:=l} dst (.tp []))
def hE(P:Program)(N B:Nat)(T:List (Nat × bJ))(inl:Nat→List ab→aq→aD)(ops:Array Oper):List Oper→aq→aD
 |[],S=>.cR .cp S
 |o::r,S=>match guardOf N ops S o with
  | .yes=>match preB P N S o with
   |some aJ=>exec P N B T inl o (mn aJ S) (hE P N B T inl ops r)
   |none=>exec P N B T inl o S (hE P N B T inl ops r)
  | .no=>hE P N B T inl ops r (S.put o.dst (.tp []))
  | .on gs=>match lG S.k gs with
   |true=>match qd P N {S with g:=hp gs S.g} o with
    |some q=>match gS S.k q.xs&&q.v.lt (S.k+q.xs.length)with
     |true=>emit S.k q.xs (q.ns.map (qh gs)) (hE P N B T inl ops r ((S.eT S.k q.xs).put o.dst (kd gs q.v)))
     |false=>.bad 35
    |none=>qf N S o.dst gs (sV (rA S o.dst) gs (exec P N B T inl o {S with g:=hp gs S.g} (.cR .cp)) S.g) (hE P N B T inl ops r)
   |false=>.bad 36
  | .bad=>.bad 37
section
variable {P:Program} {G:bd} {N B:Nat} {M:List aV} {T:List (Nat × bJ)} {inl:Nat→List ab→aq→aD}
theorem zgc{S:aq}{o:Oper}{t:TypeId}{x:Operand}{r:dk}(ao:o.op= .range t x)(h:MK P B S t (S.a8 N x)=some r):mm P G N B M o S r:=fun e hf hx hn=>by
 unfold MK at h
 split at h
 ·rename_i Aj hc
  cases h;simp only[Bool.and_eq_true]at hc
  have jx:aM G (S.den G N B e) x= .aw (.v (.string ((S.a8 N x).aC e .str))):=by rw[bM hf];exact gd Aj
  have:=zdH (P:=P) (G:=G) (s:=S.den G N B e) t x ao (ui hc.1) jx (Nat.le_of_ble_eq_true hc.2)
  unfold dk.st;rw[ff];exact this
 ·cases h
theorem zgd{S:aq}{o:Oper}{q:qi}{e:Env}(h:ML N S o=some q)(hf:S.cA e)(hx: ∀(j:Nat) (x:bQ),q.xs[j]? =some x→Env.at e (S.k+j)=x.den M e):
 (q.g.aC e .bool=true→dS P G o (S.den G N B e) ((aq.put {S with h:=q.h} o.dst q.v).den G N B e))∧(q.g.aC e .bool=false→dS P G o (S.den G N B e) ((S.put o.dst q.bp).den G N B e)):=by
 unfold ML at h
 split at h
 ·rename_i x ao
  unfold TS at h
  split at h
  ·rename_i id ax
   split at h
   ·rename_i s p ah
    split at h
    ·rename_i aa ae
     cases h
     have jx:aM G (S.den G N B e) x= .ref id:=by rw[bM hf,ax];rfl
     have bh:aG (S.den G N B e).heap id=some (.bT (p0 (s.aC e .str) (Int.toNat (p.aC e (.int .i64))))):=by
      show aG (cH G e S.h) id=_;rw[eh,ah];rfl
     have x0:=hx 0 _ rfl
     have an:=hx 1 _ rfl
     have aH:=hx 2 _ rfl
     have aX:=hx 3 _ rfl
     simp only[bQ.den,cD.den,Nat.add_zero]at x0 an aH aX
     have sP:(ab.aQ .bool S.k).aC e .bool=decide (Int.toNat (p.aC e (.int .i64))<ByteArray.size (s.aC e .str)):=by
      simp only[ab.aC,ab.fu,ab.dyn,x0,cI]
     refine⟨fun aK=>?_,fun aK=>?_⟩
     ·rw[sP]at aK
      have:=zdJ (P:=P) (G:=G) (s:=S.den G N B e) x ao jx bh (of_decide_eq_true aK) (c:=(Utf8.decode (s.aC e .str) (Int.toNat (p.aC e (.int .i64)))).1) (k:=(Utf8.decode (s.aC e .str) (Int.toNat (p.aC e (.int .i64)))).2) rfl
      rw[ff]
      have bk:(({S with h:=ju S.h id (.it .st s (.aQ (.int .i64) (S.k+3)))}:aq).den G N B e)={S.den G N B e with heap:=eQ (S.den G N B e).heap id (.bT (p0 (s.aC e .str) (Int.toNat (p.aC e (.int .i64))+(Utf8.decode (s.aC e .str) (Int.toNat (p.aC e (.int .i64)))).2)))}:=by
       simp only[aq.den,sI,bK.den]
       congr 3
       simp only[ab.aC,ab.fu,ab.dyn,aX,cI];rfl
      rw[bk]
      have zge:(ab.tp [.cs (.bool true),.aQ (.int .i64) (S.k+1),.aQ (.int .i32) (S.k+2)]).den G e= .tuple [.aw (.v (.bool true)),.aw (.v (.int .i64 ((Int.toNat (p.aC e (.int .i64)):Nat):Int))),.aw (.v (.int .i32 (((Utf8.decode (s.aC e .str) (Int.toNat (p.aC e (.int .i64)))).1:Nat):Int)))]:=by
       simp only[ab.den,ab.bX,an,aH,cI,fJ,j5]
      rw[zge];exact this
     ·rw[sP]at aK
      have:=zdI (P:=P) (G:=G) (s:=S.den G N B e) x ao jx bh (Nat.le_of_not_lt (of_decide_eq_false aK))
      rw[ff];exact this.step
    ·cases h
   ·cases h
  ·cases h
 ·cases h
theorem TV{S:aq}{o:Oper}{r:dk}(h:EH P N B T S o=some r):mm P G N B M o S r:=by
 unfold EH at h
 split at h
 ·exact zfA (by assumption) h
 ·exact zfB (by assumption) h
 ·exact zfD (by assumption) h
 ·split at h
  ·rename_i aN
   cases h;exact zfQ (by assumption) aN
  ·split at h
   ·rename_i aN
    cases h;exact zfP (by assumption) aN
   ·split at h
    ·rename_i aN
     cases h;exact zfN (by assumption) aN
    ·exact zfR (by assumption) h
 ·exact zfS (by assumption) h
 ·exact zgc (by assumption) h
 ·exact zf9 (by assumption) h
 ·exact zga (by assumption) h
 ·rename_i c ao
  split at h
  ·rename_i x y t bI hc hx aK
   split at h
   ·rename_i ad
    have:=Nat.eq_of_beq_eq_true ad
    subst this;obtain⟨callee,args,ts⟩:=c;simp only at hc hx aK;rw[hc,zM hx,zM aK]at ao;exact zfV ao h
   ·obtain⟨callee,args,ts⟩:=c
    simp only at hc hx aK;rw[hc,zM hx,zM aK]at ao;exact zfW ao h
  ·cases h
 ·cases h
theorem sW{g:ab}{a b:aD}{e:Env}{v:Bool}(h:g.aC e .bool=v):run M (.it g a b) e=match v with|true=>run M a e|false=>run M b e:=by
 simp only[run,aD.fold,h]
 cases v<;>rfl
def AB:b7→Exit→Prop
 | .cp,.normal=>True
 | .ext n,.exit m=>n=m
 | .ret,.ret=>True
 |_,_=>False
def h1(G:bd)(N B:Nat)(M:List aV)(t:aD)(e:Env)(a1:Nat):Exit→aU→Prop:=fun ex st=>
 ∃x dn aB,run M t e=some (x,dn,aB)∧AB x ex∧cu st (dn.den G N B aB)∧dn.cz∧dn.cA aB∧b3 a1 e aB∧a1≤dn.k
theorem h1.sub{t bI:aD}{e aB:Env}{k bu:Nat}{ex:Exit}{st:aU}(h:h1 G N B M bI aB bu ex st)(ag:run M t e=run M bI aB)(ba:b3 k e aB)(aj:k≤bu):h1 G N B M t e k ex st:=by
 obtain⟨x,dn,bo,aa,ae,au,aW,bN,c5,eD⟩:=h
 exact⟨x,dn,bo,ag.trans aa,ae,au,aW,bN,b3.trans ba c5 aj,Nat.le_trans aj eD⟩
theorem TW{x:b7}{ex:Exit}(h:AB x ex)(n:Nat):x.b0 n=false:=by
 cases x with
 |k0 m=>cases ex<;>cases h
 |_=>rfl
def fE(P:Program)(G:bd)(M:List aV)(inl:Nat→List ab→aq→aD):Prop:=
 ∀f aJ (S:aq) e,S.cz→ab.cV S.k aJ=true→S.cA e→(inl f aJ S).safe M e→
  dJ P G f (ab.bX G e aJ) (cH G e S.h) S.n fun r b1=>∃C aB,run M (inl f aJ S) e=some (.cp,C,aB)∧r=(C.at 0).den G aB∧b1=cH G aB C.h∧C.cz∧C.cA aB∧b3 S.k e aB∧S.k≤C.k
theorem zgf{e:Env}{k:Nat}{x:bQ}(h:Env.at e k=x.den M e): ∀c∈xn k x,c.ok e:=fun c hc=>by
 unfold xn at hc
 split at hc
 ·rw[List.mem_singleton]at hc;subst hc;exact h
 ·rw[List.mem_singleton]at hc;subst hc;exact h
 ·rw[List.mem_singleton]at hc;subst hc;exact h
 ·rw[List.mem_singleton]at hc;subst hc;exact h
 ·rw[List.mem_singleton]at hc;subst hc;exact h
 ·cases hc
theorem zgg{k:Nat}{x:bQ}(h:x.lt k=true):fm (k+1) (xn k x)=true:=by
 have ad:Nat.blt k (k+1)=true:=jP (Nat.lt_succ_self k)
 unfold xn
 split
 ·simp only[fm,cc.lt,ad,gG (Nat.le_succ k) (x:=_) h,Bool.and_self]
 ·simp only[fm,cc.lt,ad,gG (Nat.le_succ k) (x:=_) h,Bool.and_self]
 ·simp only[fm,cc.lt,ad,gG (Nat.le_succ k) (x:=_) h,Bool.and_self]
 ·simp only[bQ.lt,Bool.and_eq_true]at h
  simp only[fm,cc.lt,ad,gG (Nat.le_succ k) h.1,gG (Nat.le_succ k) h.2,Bool.and_self]
 ·simp only[bQ.lt,Bool.and_eq_true]at h
  simp only[fm,cc.lt,ad,gG (Nat.le_succ k) h.1,gG (Nat.le_succ k) h.2,Bool.and_self]
 ·rfl
theorem TX{k:Nat}: ∀{a b:List cc},fm k a=true→fm k b=true→fm k (a++b)=true
 |[],_,_,h=>h
 |c::a,b,h,h'=>by
  simp only[fm,Bool.and_eq_true]at h;simp only[List.cons_append,fm,h.1,TX h.2 h',Bool.and_self]
theorem TY{e:Env}: ∀{xs:List bQ} {k:Nat} {g:List cc},(∀c∈g,c.ok e)→(∀(j:Nat) (x:bQ),xs[j]? =some x→Env.at e (k+j)=x.den M e)→∀c∈xo k xs g,c.ok e
 |[],_,_,h,_=>h
 |x::r,k,g,h,hx=>by
  refine TY (xs:=r) (k:=k+1) (fun c hc=>?_) fun j y ay=>?_
  ·rcases List.mem_append.1 hc with hc|hc
   ·exact zgf (hx 0 x (by simp)) c hc
   ·exact h c hc
  ·have:=hx (j+1) y (by simpa using ay)
   rw[show k+1+j=k+(j+1)by omega];exact this
theorem TZ: ∀{xs:List bQ} {k:Nat} {g:List cc},gS k xs=true→fm k g=true→fm (k+xs.length) (xo k xs g)=true
 |[],_,_,_,h=>h
 |x::r,k,g,ar,h=>by
  simp only[gS,Bool.and_eq_true]at ar
  have:=TZ (xs:=r) (k:=k+1) (g:=xn k x++g) ar.2 (TX (zgg ar.1) (nP (Nat.le_succ k) h))
  rw[List.length_cons,show k+(r.length+1)=k+1+r.length by omega]
  exact this
theorem qj{S:aq}{e:Env}{xs:List bQ}(ad:S.cz)(hf:S.cA e)(ar:gS S.k xs=true):
 (S.eT S.k xs).cz∧(S.eT S.k xs).cA (dq M e S.k xs)∧(S.eT S.k xs).den G N B (dq M e S.k xs)=S.den G N B e:=by
 have ba:b3 S.k e (dq M e S.k xs):=jy (Nat.le_refl _)
 refine⟨⟨fun i x hx=>gG (Nat.le_add_right _ _) (ad.l i x hx),sJ (Nat.le_add_right _ _) ad.h,TZ ar ad.g⟩,TY (ic ba ad.g hf) (jz ar),?_⟩
 exact(k2 ba ad:S.den G N B (dq M e S.k xs)=S.den G N B e)
theorem je{S:aq}{dst:Option Nat}{v:ab}(ad:S.cz)(ax:v.lt S.k=true):(S.put dst v).cz:=by
 cases dst with
 |none=>exact ad
 |some d=>
  refine⟨fun i x hx=>?_,ad.h,ad.g⟩
  simp only[aq.put,bg.hV]at hx
  split at hx
  ·cases hx;exact ax
  ·exact ad.l i x hx
theorem AD{e:Env}{f:gI}{x:ab}{j:Nat}: ∀{l:List cc},AA f x l=some j→(∀c∈l,c.ok e)→Env.at e j=⟨f.c,f.den (x.aC e f.a)⟩
 | .d1 i g y::r,h,hc=>by
  simp only[AA]at h
  split at h
  ·rename_i ad
   cases h;simp only[Bool.and_eq_true,decide_eq_true_eq]at ad
   have:=hc (.d1 j g y) (by simp)
   simp only[cc.ok]at this;rw[this,ad.1,e4 ad.2]
  ·exact AD h fun c hm=>hc c (by simp[hm])
 | .d2 _ _ _ _::r,h,hc=>AD (l:=r) h fun c hm=>hc c (by simp[hm])
 | .rg _ _::r,h,hc=>AD (l:=r) h fun c hm=>hc c (by simp[hm])
 | .dV _ _::r,h,hc=>AD (l:=r) h fun c hm=>hc c (by simp[hm])
theorem zgh{S:aq}{r:dy}{t:a6}{j:Nat}{e:Env}(h:MP S r=some (t,j))(hf:S.cA e)(ar:gS S.k r.xs=true):(ab.aQ t j).den G e=r.v.den G (dq M e S.k r.xs)∧Nat.blt j S.k=true∧r.ns=[]:=by
 unfold MP at h
 split at h
 ·rename_i f x bI k hx hn ax
  split at h
  ·rename_i aj
   split at h
   ·rename_i zjS af
    split at h
    ·rename_i bR
     cases h;refine⟨?_,bR,hn⟩
     have aa:=AD af hf
     have ae:=jz (M:=M) (e:=e) ar 0 (.f1 f x) (by rw[hx];rfl)
     rw[Nat.add_zero]at ae;rw[ax,Nat.eq_of_beq_eq_true aj];simp only[ab.den];rw[aa,ae]
     have zgi:x.lt S.k=true:=by
      rw[hx]at ar;simp only[gS,bQ.lt,Bool.and_eq_true]at ar;exact ar.1
     simp only[bQ.den];rw[eG (jy (Nat.le_refl _)) zgi]
    ·cases h
   ·cases h
  ·cases h
 ·cases h
theorem zgj{S:aq}{r:dy}{v:ab}{e:Env}(h:MQ S r=some v)(ar:gS S.k r.xs=true):v.den G e=r.v.den G (dq M e S.k r.xs)∧v.lt S.k=true∧r.ns=[]:=by
 unfold MQ at h
 split at h
 ·rename_i f a b t k hx hn ax
  split at h
  ·rename_i aj
   simp only[Bool.and_eq_true]at aj
   have ae:=jz (M:=M) (e:=e) ar 0 _ (by rw[hx];rfl)
   rw[Nat.add_zero]at ae;rw[ax,Nat.eq_of_beq_eq_true aj.1,hk aj.2];unfold TU at h
   split at h<;>first|cases h|skip
   all_goals
    refine⟨?_,rfl,hn⟩
    simp only[ab.den,ae,bQ.den,cI,ab.aC,ab.fu,ab.dyn,cD.den];rfl
  ·cases h
 ·cases h
theorem jf{S:aq}{dst:Option Nat}{v:ab}{e:Env}(hf:S.cA e):(S.put dst v).cA e:=by
 cases dst<;>exact hf
theorem jg{S:aq}{dst:Option Nat}{v:ab}:(S.put dst v).k=S.k:=by cases dst<;>rfl
end
end Go.aO
namespace Go.aO
open Go
section
variable {P:Program} {G:bd} {N B:Nat} {M:List aV} {T:List (Nat × bJ)} {inl:Nat→List ab→aq→aD}
theorem cE.zgk{ops:Array Oper}{o:Oper}{rest:List Oper}{s:aU}{Q:Exit→aU→Prop}{A:aU→Prop}(ah:dO ops s o=some true)
 (h: ∀(E:Entry) (a:Act) (w:World),Rel E G s a w→∀(K:Act→World→Prop) (Q:Exit→Act→World→Prop),(∀t,A t→∀bf w',Rel E G t bf w'→K bf w')→o.wp P a w K Q)(k: ∀t,A t→cE P G ops Q rest t):cE P G ops Q (o::rest) s:=
 fun E a w ag=>wpList_step fun _ hK=>by
  have ay:=nH ag ah
  simp only[ay,if_true];exact h E a w ag _ _ fun t aK bf w' dY=>hK bf w' (k t aK E bf w' dY)
mutual
theorem EM{n:Nat}{e:Env}: ∀{x:ab},ab.rz n x=true→gD n (x.den G e)=true:=fun {x} h=>by
 cases x with
 |bO l=>simp only[ab.den,gD];exact xt (l:=l) h
 |tp l=>simp only[ab.den,gD];exact xt (l:=l) h
 |fn f a b=>
  simp only[ab.rz,Bool.and_eq_true]at h;simp only[ab.den,gD,xt h.1,xt h.2,Bool.and_self]
 |cq k o=>simp only[ab.den,gD];exact decide_eq_true (fb h)
 |gr k x o=>simp only[ab.den,gD];exact decide_eq_true (fb (i:=k) h)
 |gq k o x n=>simp only[ab.den,gD];exact decide_eq_true (fb (i:=k) h)
 |cY k n=>simp only[ab.den,gD];exact decide_eq_true (fb (i:=k) h)
 |fl g i o=>
  cases i with
  |none=>simp only[ab.den];cases g.aC e .bool<;>rfl
  |some k=>
   have aa:decide (k<n)=true:=decide_eq_true (fb (i:=k) h)
   simp only[ab.den];cases g.aC e .bool
   ·rfl
   ·exact aa
 |aR k=>simp only[ab.den,gD];exact decide_eq_true (fb h)
 |gR k=>simp only[ab.den,gD];exact decide_eq_true (fb h)
 |fL g b x=>
  have:gD n (x.den G e)=true:=EM h
  simp only[ab.den]
  cases g.aC e .bool<;>cases b<;>first|exact this|rfl
 |lB g o=>simp only[ab.den];cases G g<;>rfl
 |_=>rfl
theorem xt{n:Nat}{e:Env}: ∀{l:List ab},ab.sT n l=true→kQ n (ab.bX G e l)=true:=fun {l} h=>by
 match l with
 |[]=>rfl
 |x::r=>
  simp only[ab.sT,Bool.and_eq_true]at h;simp only[ab.bX,kQ,EM h.1,xt h.2,Bool.and_self]
end
theorem xu{n:Nat}{e:Env}: ∀{h:List (Nat × bK)},nU n h=true→kR n (cH G e h)=true
 |[],_=>rfl
 |(id,.cQ t l)::r,h=>by
  simp only[nU,Bool.and_eq_true]at h;simp only[cH,bK.den,kR,xu h.2.2,xt h.2.1,decide_eq_true (fb h.1),Bool.and_self]
 |(id,.rw t c x)::r,h=>by
  simp only[nU,Bool.and_eq_true]at h;simp only[cH,bK.den,kR,xu h.2,decide_eq_true (fb h.1),Bool.and_self]
 |(id,.it q x p)::r,h=>by
  simp only[nU,Bool.and_eq_true]at h;simp only[cH,bK.den,kR,xu h.2,decide_eq_true (fb h.1),Bool.and_self]
theorem T0: ∀{h:List (Nat × bK)} {id:Nat} {o:bK},dj h id=some o→(id,o)∈h
 |(i,p)::r,id,o,h=>by
  simp only[dj]at h
  split at h
  ·rename_i ad
   cases h;rw[Nat.eq_of_beq_eq_true ad];simp
  ·exact List.mem_cons_of_mem _ (T0 h)
theorem zgl{n:Nat}{aP:List (Nat × bK)}{e aB:Env}: ∀{h:List (Nat × bK)},Ax n aP h=true→∀id o,id<n→aG (cH G aB h) id=some o→∃ct,aG (cH G e aP) id=some ct∧Ei ct o:=by
 have key: ∀{h:List (Nat × bK)},Ax n aP h=true→∀id pa,(id,pa)∈h→id<n→∃ct,dj aP id=some ct∧bK.kind ct pa=true:=by
  intro h
  induction h with
  |nil=>intro _ _ _ hm;cases hm
  |cons p r a7=>
   obtain⟨j,q⟩:=p;intro aj id pa hm bR;simp only[Ax,Bool.and_eq_true]at aj
   rcases List.mem_cons.1 hm with he|he
   ·cases he
    have aa:=aj.1
    rw[jP bR]at aa;simp only at aa
    split at aa
    ·rename_i ct ao;exact⟨ct,ao,aa⟩
    ·cases aa
   ·exact a7 aj.2 id pa he bR
 intro h aj id o bR ah
 rw[eh]at ah
 cases ai:dj h id with
 |none=>rw[ai]at ah;cases ah
 |some pa=>
  rw[ai]at ah;cases ah;obtain⟨ct,aa,ae⟩:=key aj id pa (T0 ai) bR;refine⟨ct.den G e,by rw[eh,aa];rfl,?_⟩
  cases ct<;>cases pa<;>first|trivial|(cases ae;done)|exact Nat.eq_of_beq_eq_true ae
mutual
theorem sX(id:Nat){k:Nat}: ∀{x:ab},x.lt k=true→(x.kill id).lt k=true:=fun {x} h=>by
 cases x with
 |bO l=>exact sY id (l:=l) h
 |tp l=>exact sY id (l:=l) h
 |fn f a b=>
  simp only[ab.lt,Bool.and_eq_true]at h;simp only[ab.kill,ab.lt,Bool.and_eq_true];exact⟨sY id h.1,sY id h.2⟩
 |fL g b x=>
  simp only[ab.lt,Bool.and_eq_true]at h;simp only[ab.kill,ab.lt,Bool.and_eq_true];exact⟨h.1,sX id h.2⟩
 |cq j o=>simp only[ab.kill];split<;>first|rfl|exact h
 |gr j x o=>simp only[ab.kill];split<;>first|rfl|exact h
 |gq j o x n=>simp only[ab.kill];split<;>first|rfl|exact h
 |cY j n=>simp only[ab.kill];split<;>rfl
 |fl g i o=>
  cases i with
  |none=>exact h
  |some j=>simp only[ab.kill];split<;>exact h
 |aR j=>simp only[ab.kill];split<;>first|rfl|exact h
 |gR j=>simp only[ab.kill];split<;>first|rfl|exact h
 |_=>exact h
theorem sY(id:Nat){k:Nat}: ∀{l:List ab},ab.cV k l=true→ab.cV k (ab.ef id l)=true:=fun {l} h=>by
 match l with
 |[]=>rfl
 |x::r=>
  simp only[ab.cV,Bool.and_eq_true]at h;simp only[ab.ef,ab.cV,Bool.and_eq_true];exact⟨sX id h.1,sY id h.2⟩
end
theorem T1{S:aq}{o:Oper}{r:dk}{e:Env}(ad:S.cz)(hf:S.cA e)(ar:gS S.k r.xs=true)(ax:r.v.lt (S.k+r.xs.length)=true)(bk:eI (S.k+r.xs.length) r.h=true):
 ((r.st S o.dst).eT S.k r.xs).cz∧((r.st S o.dst).eT S.k r.xs).cA (dq M e S.k r.xs):=by
 obtain⟨cf,a2,_⟩:=qj (M:=M) (G:=fun _=>none) (N:=0) (B:=0) ad hf ar
 have ah:(r.st S o.dst).g=S.g:=by unfold dk.st;cases o.dst<;>rfl
 refine⟨⟨fun i x hx=>?_,?_,?_⟩,?_⟩
 ·have hx:(r.st S o.dst).l.get i=some x:=hx
  show x.lt (S.k+r.xs.length)=true
  have base: ∀x,(r.l S.l).get i=some x→x.lt (S.k+r.xs.length)=true:=fun x hx=>by
   unfold dk.l at hx
   split at hx
   ·exact gG (Nat.le_add_right _ _) (ad.l i x hx)
   ·rw[bg.get_map]at hx
    cases aN:S.l.get i with
    |none=>rw[aN]at hx;cases hx
    |some y=>
     rw[aN]at hx;cases hx;exact sX _ (gG (Nat.le_add_right _ _) (ad.l i y aN))
  unfold dk.st at hx
  cases hd:o.dst with
  |none=>rw[hd]at hx;exact base x hx
  |some d=>
   rw[hd]at hx;simp only[aq.put,bg.hV]at hx
   split at hx
   ·cases hx;exact ax
   ·exact base x hx
 ·have:((r.st S o.dst).eT S.k r.xs).h=r.h:=by unfold dk.st aq.eT;cases o.dst<;>rfl
  rw[this];exact bk
 ·show fm (S.k+r.xs.length) (xo S.k r.xs (r.st S o.dst).g)=true
  rw[ah];exact cf.g
 ·show ∀c∈xo S.k r.xs (r.st S o.dst).g,_
  rw[ah];exact a2
theorem AE{k:Nat}: ∀{a b:List ab},ab.cV k a=true→ab.cV k b=true→ab.cV k (a++b)=true
 |[],_,_,h=>h
 |x::a,b,h,h'=>by
  simp only[ab.cV,Bool.and_eq_true]at h;simp only[List.cons_append,ab.cV,h.1,AE h.2 h',Bool.and_self]
theorem MS{k:Nat}{x:ab}(hx:x.lt k=true): ∀{l:List ab} {i:Nat},ab.cV k l=true→ab.cV k (l.set i x)=true
 |[],_,h=>h
 |y::l,0,h=>by simp only[ab.cV,Bool.and_eq_true,List.set]at h⊢;exact⟨hx,h.2⟩
 |y::l,i+1,h=>by simp only[ab.cV,Bool.and_eq_true,List.set]at h⊢;exact⟨h.1,MS hx h.2⟩
theorem EN{k:Nat}{o:bK}(ao:o.lt k=true): ∀{l:List (Nat × bK)} {i:Nat},eI k l=true→eI k (ju l i o)=true
 |[],_,_=>by simp only[ju,eI,ao,Bool.and_self]
 |(j,x)::l,i,h=>by
  simp only[eI,Bool.and_eq_true]at h;simp only[ju]
  split
  ·simp only[eI,Bool.and_eq_true];exact⟨ao,h.2⟩
  ·simp only[eI,Bool.and_eq_true];exact⟨h.1,EN ao h.2⟩
theorem u5{k id:Nat}{o:bK}: ∀{l:List (Nat × bK)},eI k l=true→dj l id=some o→o.lt k=true
 |[],_,h=>by cases h
 |(j,x)::l,ar,h=>by
  simp only[eI,Bool.and_eq_true]at ar;simp only[dj]at h
  split at h
  ·cases h;exact ar.1
  ·exact u5 ar.2 h
theorem MT{e:Env}{x:ab}: ∀{l:List ab} {i:Nat},ab.bX G e (l.set i x)=(ab.bX G e l).set i (x.den G e)
 |[],_=>rfl
 |y::l,0=>rfl
 |y::l,i+1=>by simp only[List.set,ab.bX,MT (l:=l)]
theorem nV(id:Nat){k:Nat}: ∀{h:List (Nat × bK)},eI k h=true→eI k (ho id h)=true
 |[],h=>h
 |(j,.cQ t l)::r,h=>by
  simp only[eI,Bool.and_eq_true]at h;unfold ho
  split
  ·exact nV id h.2
  ·simp only[eI,Bool.and_eq_true]
   exact⟨sY id h.1,nV id h.2⟩
 |(j,.rw t c x)::r,h=>by
  simp only[eI,Bool.and_eq_true]at h;unfold ho
  split
  ·exact nV id h.2
  ·simp only[eI,Bool.and_eq_true]
   exact⟨h.1,nV id h.2⟩
 |(j,.it q x p)::r,h=>by
  simp only[eI,Bool.and_eq_true]at h;unfold ho
  split
  ·exact nV id h.2
  ·simp only[eI,Bool.and_eq_true]
   exact⟨h.1,nV id h.2⟩
theorem zgm{id off k m:Nat}{C:aq}{e:Env}(ad:C.cz)(hf:C.cA e):(xq B id off k m C).cz∧(xq B id off k m C).cA e∧(xq B id off k m C).k=C.k∧cu (C.den G N B e) ((xq B id off k m C).den G N B e):=by
 unfold xq
 split
 ·rename_i t l gN c x ah hm
  split
  ·rename_i hc
   simp only[Bool.and_eq_true,Bool.not_eq_true']at hc;obtain⟨aY,⟨bW,cK⟩,eo⟩:=hc;refine⟨⟨fun i y ay=>?_,EN (o:=.cQ t _) (MS (x:=.aR k) rfl (sY _ (sY _ (u5 (o:=.cQ t l) ad.h ah)))) ?_,ad.g⟩,hf,rfl,?_⟩
   ·simp only[bg.get_map]at ay
    cases aN:C.l.get i with
    |none=>rw[aN]at ay;cases ay
    |some z=>
     rw[aN]at ay;simp only[Option.map_some,Option.some.injEq]at ay;subst ay;exact sX _ (sX _ (ad.l i z aN))
   ·have aa:=u5 (o:=.rw gN c x) ad.h hm
    have ae:=nV k (nV m ad.h)
    simp only[eI,Bool.and_eq_true];exact⟨aa,ae⟩
   ·refine cu.zfJ id off m k gN (b5 c) (t:=t) (cs:=ab.bX G e l) (es:=List.map (cj c) (x.aC e (.li c))) (by simp only[aq.den,eh,ah,Option.map_some,bK.den]) (by simp only[aq.den,eh,hm,Option.map_some,bK.den]) ?_ (Nat.le_of_ble_eq_true bW) (fb cK) (Nat.ne_of_beq_eq_false eo) ?_
    ·rw[fa,List.getElem?_map]
     unfold EK at aY
     split at aY
     ·rename_i ar
      rw[ar]
      have:=Nat.eq_of_beq_eq_true aY
      subst this;rfl
     ·cases aY
    ·simp only[aq.den,xj,sI,cH,bK.den,o7,MT,uY,ab.den]
  ·exact⟨ad,hf,rfl,cu.refl _⟩
 ·exact⟨ad,hf,rfl,cu.refl _⟩
theorem zgn{S C:aq}{e:Env}(ad:C.cz)(hf:C.cA e):(u3 B S C).cz∧(u3 B S C).cA e∧(u3 B S C).k=C.k∧cu (C.den G N B e) ((u3 B S C).den G N B e):=by
 unfold u3
 split
 ·exact zgm ad hf
 ·exact⟨ad,hf,rfl,cu.refl _⟩
theorem cu.sU{s bC:aU}(d m k gN n:Nat){es:List (List bb)}(hm:aG s.heap m=some (.row false gN n es))(hc:s.c0[d]? =some (.aR m))(ad:s.base≤k)(bR:k<s.next)
 (h:(aU.put ⟨ef k (ef m s.c0),(k,.row false gN n es)::dz k (dz m s.heap),s.next,s.base⟩ (some d) (.aR k):aU)=bC):cu s bC:=by
 subst h
 intro E G a w ⟨β,ro,ag⟩
 have Ma:=ag.heap.dh m _ hm
 have fh:=ag.Tr (w':=w) m k ad bR hm (.row false gN n es) (β m) rfl rfl rfl (Nat.le_refl _) (fun _ _ _=>rfl) (fun _ ad=>.inl ad) rfl (by
  cases Ma with
  |row _ _ _ xs aa ae au=>exact .row gN n es xs (by rw[dT];exact aa) ae au)
 have ax:=ag.slot d _ hc
 have T2:=fh.put (some d) (.aR k) (a.tmps.getD d undef) (by
  generalize a.tmps.getD d undef=bl at ax⊢
  cases ax with
  |aR _ _ _ ak=>
   refine .aR _ _ bR fun z bI cT dR _=>?_
   rw[ak _ _ _ _ hm]
   exact(dT _ _ _).symm)
 have ba:a.put (some d) (a.tmps.getD d undef)=a:=by
  have hd:d<a.tmps.size:=by
   rw[ag.size];exact(List.getElem?_eq_some_iff.1 hc).1
  have:a.tmps.setIfInBounds d (a.tmps.getD d undef)=a.tmps:=by
   apply Array.ext
   ·simp
   ·intro i aa ae
    rw[Array.getElem_setIfInBounds]
    split
    ·rename_i hi
     subst hi;simp[Array.getD,hd]
    ·rfl
  show({a with tmps:=a.tmps.setIfInBounds d (a.tmps.getD d undef)}:Act)=a
  rw[this]
 rw[ba]at T2
 exact⟨_,ro,T2⟩
theorem zgo{d k m:Nat}{C:aq}{e:Env}(hd:d<N)(ad:C.cz)(hf:C.cA e):(sU B d k m C).cz∧(sU B d k m C).cA e∧(sU B d k m C).k=C.k∧cu (C.den G N B e) ((sU B d k m C).den G N B e):=by
 unfold Go.aO.sU
 split
 ·rename_i gN c x hm
  split
  ·rename_i hc
   simp only[Bool.and_eq_true]at hc;obtain⟨aY,bW,cK⟩:=hc;refine⟨je ⟨fun i y ay=>?_,?_,ad.g⟩ rfl,jf hf,jg,?_⟩
   ·simp only[bg.get_map]at ay
    cases aN:C.l.get i with
    |none=>rw[aN]at ay;cases ay
    |some z=>
     rw[aN]at ay;simp only[Option.map_some,Option.some.injEq]at ay;subst ay;exact sX _ (sX _ (ad.l i z aN))
   ·have aa:=u5 (o:=.rw gN c x) ad.h hm
    have ae:=nV k (nV m ad.h)
    simp only[eI,Bool.and_eq_true];exact⟨aa,ae⟩
   ·refine cu.sU d m k gN (b5 c) (es:=List.map (cj c) (x.aC e (.li c))) (by simp only[aq.den,eh,hm,Option.map_some,bK.den]) ?_ (Nat.le_of_ble_eq_true bW) (fb cK) ?_
    ·unfold EK at aY
     split at aY
     ·rename_i ar
      have:=Nat.eq_of_beq_eq_true aY
      subst this;simp only[aq.den,nO,hd,if_true,Nat.zero_add,ar,ab.den]
     ·cases aY
    ·rw[ff]
     simp only[aq.den,xj,cH,bK.den,o7,ab.den]
  ·exact⟨ad,hf,rfl,cu.refl _⟩
 ·exact⟨ad,hf,rfl,cu.refl _⟩
theorem zgp{S C:aq}{dst:Option Nat}{e:Env}(ad:C.cz)(hf:C.cA e):(u4 B N S C dst).cz∧(u4 B N S C dst).cA e∧(u4 B N S C dst).k=C.k∧cu (C.den G N B e) ((u4 B N S C dst).den G N B e):=by
 unfold u4
 split
 ·split
  ·split
   ·split
    ·rename_i hd
     exact zgo (fb hd) ad hf
    ·exact⟨ad,hf,rfl,cu.refl _⟩
   ·exact⟨ad,hf,rfl,cu.refl _⟩
  ·exact⟨ad,hf,rfl,cu.refl _⟩
 ·exact⟨ad,hf,rfl,cu.refl _⟩
theorem T3{o:Oper}{S:aq}{e:Env}{f:Nat}{aJ:List ab}(h:Az P N S o=some (f,aJ))(hf:S.cA e)(ad:S.cz):
 ∃p q xs,ab.bX G e aJ=p++xs.toList.map (aM G (S.den G N B e))++q∧uT P G o (S.den G N B e) f p q xs∧ab.cV S.k aJ=true:=by
 have xv: ∀l:List Operand,ab.cV S.k (l.map (S.a8 N))=true:=fun l=>by
  induction l with
  |nil=>rfl
  |cons y r a7=>simp only[List.map_cons,ab.cV,DS ad y,a7,Bool.and_self]
 unfold Az at h
 split at h
 ·rename_i c Ac
  obtain⟨callee,args,ts⟩:=c
  split at h
  ·rename_i x hx
   simp only at hx;subst hx
   split at h
   ·rename_i zjT p q' uP
    cases h;refine⟨ab.bX G e p,ab.bX G e q',args,?_,.value Ac (by rw[bM hf,uP];rfl),?_⟩
    ·rw[fa,fa,fa,List.map_append,List.map_append,List.map_map]
     congr 2
     exact List.map_congr_left fun y _=>(bM hf y).symm
    ·have fU:=DS (N:=N) ad x
     rw[uP]at fU;simp only[ab.lt,Bool.and_eq_true]at fU;exact AE (AE fU.1 (xv _)) fU.2
   ·cases h
  ·rename_i x name hx
   simp only at hx;subst hx
   split at h
   ·rename_i t a rs l uP
    split at h
    ·rename_i g v hm ax gl
     cases h;refine⟨[v.den G e],[],args,?_,.invoke Ac hm fun E a w β ro ag=>zfp hf uP ax (of_decide_eq_true gl) ag,?_⟩
     ·simp only[fa,List.map_append,List.map_map,List.map_cons,List.map_nil]
      congr 2
      exact List.map_congr_left fun y _=>(bM hf y).symm
     ·have fU:=DS (N:=N) ad x
      rw[uP]at fU;exact AE (AE (by simp only[ab.cV,zfr fU ax,Bool.and_self]) (xv _)) rfl
    ·cases h
   ·cases h
  ·cases h
 ·cases h
theorem MU(b2:fE P G M inl){ops:Array Oper}{o:Oper}{r:List Oper}{S:aq}{k:aq→aD}{e:Env}{Q:Exit→aU→Prop}(ad:S.cz)(hf:S.cA e)(hw:dO ops (S.den G N B e) o=some true)(ai:(exec P N B T inl o S k).safe M e)
 (aj: ∀dn aB,dn.cz→dn.cA aB→b3 S.k e aB→S.k≤dn.k→(k dn).safe M aB→run M (exec P N B T inl o S k) e=run M (k dn) aB→cE P G ops Q r (dn.den G N B aB)):cE P G ops Q (o::r) (S.den G N B e):=by
 have iH:=ai
 unfold exec at iH
 split at iH
 ·rename_i q ax
  split at iH
  ·rename_i hc
   split at iH
   ·rename_i t j AF
    have fO:exec P N B T inl o S k=k (S.put o.dst (.aQ t j)):=by unfold exec;rw[ax];simp only[hc,AF]
    simp only[Bool.and_eq_true]at hc;obtain⟨dA,eW,MV⟩:=zgh (M:=M) (G:=G) AF hf hc.1
    have bZ:b3 S.k e (dq M e S.k q.xs):=jy (Nat.le_refl _)
    have dH:=uR (G:=G) (B:=B) (M:=M) ax (dq M e S.k q.xs) (ic bZ ad.g hf) (jz hc.1) (by rw[MV];intro n hn;cases hn)
    rw[k2 bZ ad,←dA]at dH
    have mF:(S.den G N B e).put o.dst ((ab.aQ t j).den G e)=(S.put o.dst (.aQ t j)).den G N B e:=by rw[ff]
    refine cE.step hw (mF ▸ dH.step) ?_
    exact aj _ e (je ad eW) (jf hf) (b3.refl _ _) (by rw[jg];exact Nat.le_refl _) iH (by rw[fO])
   rename_i AF
   split at iH
   ·rename_i v xc
    have fO:exec P N B T inl o S k=k (S.put o.dst v):=by unfold exec;rw[ax];simp only[hc,AF,xc]
    simp only[Bool.and_eq_true]at hc;obtain⟨dA,eW,MV⟩:=zgj (M:=M) (G:=G) (e:=e) xc hc.1
    have bZ:b3 S.k e (dq M e S.k q.xs):=jy (Nat.le_refl _)
    have dH:=uR (G:=G) (B:=B) (M:=M) ax (dq M e S.k q.xs) (ic bZ ad.g hf) (jz hc.1) (by rw[MV];intro n hn;cases hn)
    rw[k2 bZ ad,←dA]at dH
    have mF:(S.den G N B e).put o.dst (v.den G e)=(S.put o.dst v).den G N B e:=by rw[ff]
    refine cE.step hw (mF ▸ dH.step) ?_
    exact aj _ e (je ad eW) (jf hf) (b3.refl _ _) (by rw[jg];exact Nat.le_refl _) iH (by rw[fO])
   rename_i xc
   have fO:exec P N B T inl o S k=emit S.k q.xs q.ns (k ((S.eT S.k q.xs).put o.dst q.v)):=by unfold exec;rw[ax];simp only[hc,AF,xc]
   simp only[Bool.and_eq_true]at hc;obtain⟨gO,gg⟩:=lF iH;obtain⟨cf,a2,a3⟩:=qj (M:=M) (G:=G) (N:=N) (B:=B) ad hf hc.1
   have bZ:b3 S.k e (dq M e S.k q.xs):=jy (Nat.le_refl _)
   have dH:=uR (G:=G) (B:=B) (M:=M) ax (dq M e S.k q.xs) (ic bZ ad.g hf) (jz hc.1) gO
   rw[k2 bZ ad]at dH
   have mF:(S.den G N B e).put o.dst (q.v.den G (dq M e S.k q.xs))=((S.eT S.k q.xs).put o.dst q.v).den G N B (dq M e S.k q.xs):=by rw[ff,a3]
   refine cE.step hw (mF ▸ dH.step) ?_
   exact aj _ _ (je cf hc.2) (jf a2) bZ (by rw[jg];exact Nat.le_add_right _ _) gg (by rw[fO,k4])
  ·exact iH.elim
 ·rename_i ax
  split at iH
  ·rename_i q aN
   split at iH
   ·rename_i hc
    have fO:exec P N B T inl o S k=emit S.k q.xs q.ns (k ((q.st S o.dst).eT S.k q.xs)):=by unfold exec;rw[ax,aN];simp only[hc]
    simp only[Bool.and_eq_true]at hc;obtain⟨gO,gg⟩:=lF iH
    have bZ:b3 S.k e (dq M e S.k q.xs):=jy (Nat.le_refl _)
    have dH:=TV (G:=G) (M:=M) aN (dq M e S.k q.xs) (ic bZ ad.g hf) (jz hc.1) gO
    rw[k2 bZ ad]at dH;obtain⟨dA,eW⟩:=T1 (M:=M) (o:=o) ad hf hc.1 hc.2.1 hc.2.2;refine cE.step hw dH ?_
    have qJ:S.k≤((q.st S o.dst).eT S.k q.xs).k:=Nat.le_add_right _ _
    exact aj ((q.st S o.dst).eT S.k q.xs) _ dA eW bZ qJ gg (by rw[fO,k4])
   ·exact iH.elim
  ·rename_i aN
   split at iH
   ·rename_i q pT
    split at iH
    ·rename_i hc
     have fO:exec P N B T inl o S k=emit S.k q.xs [] (.it q.g (k (q.st S o.dst)) (k (q.xp S o.dst))):=by unfold exec;rw[ax,aN,pT];simp only[hc]
     simp only[qi.ok,Bool.and_eq_true]at hc;obtain⟨_,gg⟩:=lF iH
     have bZ:b3 S.k e (dq M e S.k q.xs):=jy (Nat.le_refl _)
     obtain⟨cf,a2,a3⟩:=qj (M:=M) (G:=G) (N:=N) (B:=B) ad hf hc.1.1;obtain⟨dA,eW⟩:=zgd (P:=P) (G:=G) (B:=B) pT (ic bZ ad.g hf) (jz hc.1.1);rw[k2 bZ ad]at dA eW
     have qJ: ∀b,Nat.ble S.k (S.k+b)=true:=fun b=>Nat.ble_eq_true_of_le (Nat.le_add_right _ _)
     have cy:run M (exec P N B T inl o S k) e=run M (.it q.g (k (q.st S o.dst)) (k (q.xp S o.dst))) (dq M e S.k q.xs):=by rw[fO,k4]
     have dV: ∀b,q.g.aC (dq M e S.k q.xs) .bool=b→∀c∈(cc.dV q.g b::(S.eT S.k q.xs).g),c.ok (dq M e S.k q.xs):=fun b ah c hm=>by
      rcases List.mem_cons.1 hm with rfl|hm
      ·exact ah
      ·exact a2 c hm
     cases ah:q.g.aC (dq M e S.k q.xs) .bool with
     |true=>
      refine cE.step hw (dA ah) ?_
      have qk:(q.st S o.dst).cz:=TO (je (S:={S.eT S.k q.xs with h:=q.h,g:=.dV q.g true::(S.eT S.k q.xs).g}) ⟨cf.l,hc.2.1,by simp only[fm,cc.lt,Bool.and_eq_true];exact⟨hc.1.2,cf.g⟩⟩ hc.2.2.1)
      have en:(q.st S o.dst).cA (dq M e S.k q.xs):=TP (jf (S:={S.eT S.k q.xs with h:=q.h,g:=.dV q.g true::(S.eT S.k q.xs).g}) (dV true ah))
      have hd:(aq.put {S with h:=q.h} o.dst q.v).den G N B (dq M e S.k q.xs)=(q.st S o.dst).den G N B (dq M e S.k q.xs):=by cases o.dst<;>rfl
      rw[hd];exact aj _ _ qk en bZ (by show S.k≤(aq.put _ _ _).k;rw[jg];exact Nat.le_add_right _ _) (gg.1 ah) (by rw[cy,sW ah])
     |false=>
      refine cE.step hw (eW ah) ?_
      have qk:(q.xp S o.dst).cz:=TO (je (S:={S.eT S.k q.xs with g:=.dV q.g false::(S.eT S.k q.xs).g}) ⟨cf.l,cf.h,by simp only[fm,cc.lt,Bool.and_eq_true];exact⟨hc.1.2,cf.g⟩⟩ hc.2.2.2)
      have en:(q.xp S o.dst).cA (dq M e S.k q.xs):=TP (jf (S:={S.eT S.k q.xs with g:=.dV q.g false::(S.eT S.k q.xs).g}) (dV false ah))
      have hd:(S.put o.dst q.bp).den G N B (dq M e S.k q.xs)=(q.xp S o.dst).den G N B (dq M e S.k q.xs):=by cases o.dst<;>rfl
      rw[hd];exact aj _ _ qk en bZ (by show S.k≤(aq.put _ _ _).k;rw[jg];exact Nat.le_add_right _ _) (gg.2 ah) (by rw[cy,sW ah])
    ·exact iH.elim
   rename_i pT
   split at iH
   ·rename_i f aJ uB
    split at iH
    ·rename_i gE
     have fO:exec P N B T inl o S k=iN N S ((inl f aJ S).eL (Ay S o.dst) none) fun C=>k (u4 B N S (u3 B S C) o.dst):=by unfold exec;rw[ax,aN,pT,uB];simp only[gE]
     obtain⟨t1,_,t3⟩:=ED (G:=G) (B:=B) ad hf iH;obtain⟨g1,g2,g3⟩:=jh (inl f aJ S) none t1;obtain⟨p,q',args,mF,uU,bR⟩:=T3 (G:=G) (B:=B) uB hf ad
     have hg:=b2 f _ S e ad bR hf g1
     rw[mF]at hg
     refine cE.zgk (A:=fun t=>∃C aB,run M (inl f aJ S) e=some (.cp,C,aB)∧C.cz∧C.cA aB∧b3 S.k e aB∧S.k≤C.k∧EI S C=true∧t=(S.back o.dst C).den G N B aB) hw
      (zfw uU gE hg fun r b1 ⟨C,aB,aY,bW,cK,eo,iw,kp,jF⟩=>?_) fun t ⟨C,aB,aY,eo,iw,kp,jF,bm,aK⟩=>?_
     ·have ah:=(g3 C aB aY).1
      have bm:EI S C=true:=by
       unfold Ay at ah
       split at ah
       ·assumption
       ·exact ah.elim
      have et:=bm
      simp only[EI,Bool.and_eq_true]at et;refine⟨C.n,Nat.le_of_ble_eq_true et.2.1,?_,?_,?_,C,aB,aY,eo,iw,kp,jF,bm,?_⟩
      ·rw[bW];exact EM et.1.1
      ·rw[cK];exact xu et.1.2
      ·rw[cK];exact zgl et.2.2
      ·rw[bW,cK,aq.back,ff]
       have:=k2 (G:=G) (N:=N) (B:=B) kp ad
       have pS:j9 G aB S.l 0 N=j9 G e S.l 0 N:=congrArg aU.c0 this
       simp only[aq.den,pS]
     ·subst aK
      have ah:=(g3 C aB aY)
      have cy:run M ((inl f aJ S).eL (Ay S o.dst) none) e=some (.cp,S.back o.dst C,aB):=by
       rw[g2,aY];simp only[iF,Ay,bm];rfl
      have qk:(S.back o.dst C).cz:=by
       unfold aq.back;refine je ⟨fun i x hx=>gG jF (ad.l i x hx),eo.h,eo.g⟩ ?_
       show(C.at 0).lt C.k=true;unfold aq.at
       cases gw:C.l.get 0 with
       |none=>rfl
       |some y=>exact eo.l 0 y gw
      obtain⟨dP,bo,s1,s2,pc,pd,pe,pf,pg⟩:=t3 _ _ cy qk (jf iw) kp (by unfold aq.back;rw[jg];exact jF)
      obtain⟨gO,gg,MW,zgq⟩:=zgn (G:=G) (N:=N) (B:=B) (S:=S) s2 pc;obtain⟨dK,eX,zgr,zgs⟩:=zgp (G:=G) (N:=N) (B:=B) (S:=S) (dst:=o.dst) gO gg;exact cE.le (cu.trans s1 (cu.trans zgq zgs)) (aj _ bo dK eX pd (by rw[zgr,MW];exact pe) pf (by rw[fO,pg]))
    ·exact iH.elim
   ·exact iH.elim
def T4(G:bd)(N B:Nat)(ops:Array Oper)(o:Oper)(S:aq)(e:Env):EG→Prop
 | .yes=>dO ops (S.den G N B e) o=some true
 | .no=>dO ops (S.den G N B e) o=some false
 | .on gs=>(fP e gs=true→dO ops (S.den G N B e) o=some true)∧(fP e gs=false→dO ops (S.den G N B e) o=some false)
 | .bad=>True
def ql(b:Bool):aF→Option Bool
 | .aw (.v (.bool c))=>some (c==b)
 | .tuple _=>some false
 |_=>none
def EO(G:bd)(b:Bool)(e:Env)(v:ab):EG→Prop
 | .yes=>ql b (v.den G e)=some true
 | .no=>ql b (v.den G e)=some false
 | .on gs=>(fP e gs=true→ql b (v.den G e)=some true)∧(fP e gs=false→ql b (v.den G e)=some false)
 | .bad=>True
theorem T5{a b:Bool}(h:a=b):(a==b)=true:=by cases a<;>cases b<;>first|rfl|cases h
theorem T6{a b:Bool}(h: ¬a=b):(a==b)=false:=by cases a<;>cases b<;>first|rfl|exact absurd rfl h
theorem k5{l:List cc}{b:Bool}{e:Env}(hf: ∀c∈l,c.ok e)(g:ab):EO G b e g (match g.rt,k1 g l with
 |some .bool,some c=>match decide (c=b)with
  |true=>.yes
  |false=>.no
 |some .bool,none=>.on [(g,b)]
 |_,_=>.bad):=by
 split
 ·rename_i c aa ae
  have aj:=p9 ae hf
  have hd:=gd (G:=G) (e:=e) aa
  rw[aj]at hd
  cases gE:decide (c=b)with
  |true=>show ql b (g.den G e)=some true;rw[hd];exact congrArg some (T5 (of_decide_eq_true gE))
  |false=>show ql b (g.den G e)=some false;rw[hd];exact congrArg some (T6 (of_decide_eq_false gE))
 ·rename_i aa ae
  have hd:=gd (G:=G) (e:=e) aa
  simp only[EO,fP,Bool.and_true];rw[hd];exact⟨fun h=>congrArg some h,fun h=>congrArg some h⟩
 ·trivial
theorem xw{h:ab}{c:Bool}{v:ab}{e:Env}(hc:h.aC e .bool=c):(ab.fL h c v).den G e=v.den G e:=by
 simp only[ab.den,hc];cases c<;>rfl
theorem T7{h:ab}{c:Bool}{v:ab}{e:Env}(hc:h.aC e .bool= !c):(ab.fL h c v).den G e= .tuple []:=by
 simp only[ab.den,hc];cases c<;>rfl
theorem T8{l:List cc}{b:Bool}{e:Env}(hf: ∀c∈l,c.ok e): ∀v:ab,EO G b e v (u2 l b v)
 | .fL h c v=>by
  have a7:=T8 (b:=b) hf v
  have MX:h.aC e .bool≠c→ql b ((ab.fL h c v).den G e)=some false:=fun hn=>by
   rw[T7 (by cases bk:h.aC e .bool<;>cases c<;>first|rfl|exact absurd bk hn)]
   rfl
  simp only[u2]
  split
  ·cases ah:u2 l b v with
   |yes=>
    rw[ah]at a7;refine⟨fun ba=>?_,fun ba=>?_⟩
    ·simp only[fP,Bool.and_true,beq_iff_eq]at ba
     rw[xw ba];exact a7
    ·simp only[fP,Bool.and_true,beq_eq_false_iff_ne]at ba
     exact MX ba
   |no=>
    rw[ah]at a7;show ql b _=some false
    by_cases bk:h.aC e .bool=c
    ·rw[xw bk];exact a7
    ·exact MX bk
   |on gs=>
    rw[ah]at a7;refine⟨fun ba=>?_,fun ba=>?_⟩
    ·simp only[fP,Bool.and_eq_true,beq_iff_eq]at ba
     rw[xw ba.1];exact a7.1 ba.2
    ·by_cases bk:h.aC e .bool=c
     ·rw[xw bk]
      refine a7.2 ?_
      simp only[fP,bk,beq_self_eq_true,Bool.true_and]at ba;exact ba
     ·exact MX bk
   |bad=>trivial
  ·trivial
 | .cs x=>by
  unfold u2
  split
  ·rename_i c heq
   cases heq
   cases gE:decide (c=b)with
   |true=>exact congrArg some (T5 (of_decide_eq_true gE))
   |false=>exact congrArg some (T6 (of_decide_eq_false gE))
  ·rename_i heq;cases heq
  ·rename_i heq;cases heq
  ·exact k5 hf _
 | .tp l=>rfl
 | .aQ r i=>k5 hf (.aQ r i)
 | .fd c i k r=>k5 hf (.fd c i k r)
 | .ip c i k=>k5 hf (.ip c i k)
 | .bO l=>k5 hf (.bO l)
 | .cq i o=>k5 hf (.cq i o)
 | .gr i x o=>k5 hf (.gr i x o)
 | .aR i=>k5 hf (.aR i)
 | .fn f a b=>k5 hf (.fn f a b)
 | .gR i=>k5 hf (.gR i)
 | .lB g o=>k5 hf (.lB g o)
 | .gq i o x n=>k5 hf (.gq i o x n)
 | .cY i n=>k5 hf (.cY i n)
 | .fl g i o=>k5 hf (.fl g i o)
 | .er t a rs l=>k5 hf (.er t a rs l)
 | .top=>k5 hf .top
theorem MY{ops:Array Oper}{o:Oper}{S:aq}{e:Env}(hf:S.cA e):T4 G N B ops o S e (guardOf N ops S o):=by
 unfold guardOf
 cases ah:o.guard with
 |none=>simp only[T4,dO,ah]
 |some KK=>
  obtain⟨j,b⟩:=KK;simp only
  cases hd:l6 ops j with
  |none=>trivial
  |some d=>
   simp only
   cases ou:Nat.blt d N with
   |false=>trivial
   |true=>
    have bR:d<N:=fb ou
    have ag:=Lm (G:=G) hf (x:=S.at d)
    have hc:=T8 (G:=G) (b:=b) hf ((S.at d).res S.g)
    rw[EO.eq_def]at hc
    have key: ∀q,ql b (((S.at d).res S.g).den G e)=some q→dO ops (S.den G N B e) o=some q:=fun q h=>by
     rw[ag]at h;simp only[dO,ah,hd,uI,if_pos bR];generalize (S.at d).den G e=v at h;unfold ql at h
     split at h
     ·rename_i c
      cases h
      cases b<;>cases c<;>rfl
     ·cases h;rfl
     ·cases h
    simp only;generalize u2 S.g b ((S.at d).res S.g)=fL at hc
    cases fL with
    |yes=>exact key _ hc
    |no=>exact key _ hc
    |on gs=>exact⟨fun h=>key _ (hc.1 h),fun h=>key _ (hc.2 h)⟩
    |bad=>trivial
end
end Go.aO
namespace Go.aO
open Go
section
variable {P:Program} {G:bd} {N B:Nat} {M:List aV} {T:List (Nat × bJ)} {inl:Nat→List ab→aq→aD}
theorem AG{S:aq}{g:ab}{b:Bool}(ad:S.cz)(ah:g.lt S.k=true):({S with g:=.dV g b::S.g}:aq).cz:=
 ⟨ad.l,ad.h,by
  show(cc.lt S.k (.dV g b)&&fm S.k S.g)=true;rw[ad.g,Bool.and_true]
  exact ah⟩
theorem AH{S:aq}{g:ab}{b:Bool}{e:Env}(hf:S.cA e)(ah:g.aC e .bool=b):({S with g:=.dV g b::S.g}:aq).cA e:=fun c hc=>by
 rcases List.mem_cons.1 hc with rfl|hc
 ·exact ah
 ·exact hf c hc
theorem MZ{a b:Bool}(h: ¬a=b):a= !b:=by cases a<;>cases b<;>first|rfl|exact absurd rfl h
theorem T9{g:ab}{b:Bool}{x y:aD}{e:Env}(h:g.aC e .bool=b):run M (EL g b x y) e=run M x e:=by
 cases b<;>exact sW h
theorem zgt{g:ab}{b:Bool}{x y:aD}{e:Env}(h:g.aC e .bool= !b):run M (EL g b x y) e=run M y e:=by
 cases b<;>exact sW h
theorem zgu{g:ab}{b:Bool}{x y:aD}{e:Env}(ai:(EL g b x y).safe M e)(h:g.aC e .bool=b):x.safe M e:=by
 cases b with
 |true=>exact ai.1 h
 |false=>exact ai.2 h
theorem xx{S:aq}: ∀{gs:List (ab × Bool)},S.cz→lG S.k gs=true→({S with g:=hp gs S.g}:aq).cz
 |[],ad,_=>ad
 |(g,b)::r,ad,h=>by
  simp only[lG,Bool.and_eq_true]at h;exact AG (S:={S with g:=hp r S.g}) (b:=b) (xx ad h.2) h.1
theorem xy{S:aq}{e:Env}: ∀{gs:List (ab × Bool)},S.cA e→fP e gs=true→({S with g:=hp gs S.g}:aq).cA e
 |[],hf,_=>hf
 |(g,b)::r,hf,h=>by
  simp only[fP,Bool.and_eq_true,beq_iff_eq]at h;exact AH (S:={S with g:=hp r S.g}) (b:=b) (xy hf h.2) h.1
theorem EP{k:Nat}{v:ab}: ∀{gs:List (ab × Bool)},lG k gs=true→v.lt k=true→(kd gs v).lt k=true
 |[],_,h=>h
 |(g,b)::r,ah,h=>by
  simp only[lG,Bool.and_eq_true]at ah;simp only[kd,ab.lt,ah.1,EP ah.2 h,Bool.and_self]
theorem ER{k m:Nat}(h:k≤m): ∀{gs:List (ab × Bool)},lG k gs=true→lG m gs=true
 |[],_=>rfl
 |(g,b)::r,ah=>by
  simp only[lG,Bool.and_eq_true]at ah⊢;exact⟨gG h ah.1,ER h ah.2⟩
theorem ES{k:Nat}{e aB:Env}(h:b3 k e aB): ∀{gs:List (ab × Bool)},lG k gs=true→fP aB gs=fP e gs
 |[],_=>rfl
 |(g,b)::r,ah=>by
  simp only[lG,Bool.and_eq_true]at ah;simp only[fP,eG h ah.1,ES h ah.2]
theorem ET{v:ab}{e:Env}: ∀{gs:List (ab × Bool)},fP e gs=true→(kd gs v).den G e=v.den G e
 |[],_=>rfl
 |(g,b)::r,h=>by
  simp only[fP,Bool.and_eq_true,beq_iff_eq]at h;exact(xw h.1).trans (ET h.2)
theorem EU{v:ab}{e:Env}: ∀{gs:List (ab × Bool)},fP e gs=false→(kd gs v).den G e= .tuple []
 |[],h=>by cases h
 |(g,b)::r,h=>by
  by_cases ah:g.aC e .bool=b
  ·simp only[fP,ah,beq_self_eq_true,Bool.true_and]at h
   exact(xw ah).trans (EU h)
  ·exact T7 (MZ ah)
theorem EV{n:fi}{e:Env}: ∀{gs:List (ab × Bool)},(qh gs n).ok M e→fP e gs=true→n.ok M e
 |[],h,_=>h
 |(g,b)::r,h,ba=>by
  simp only[fP,Bool.and_eq_true,beq_iff_eq]at ba;exact EV (gs:=r) (h ba.1) ba.2
theorem M0{x:aD}{y:List cc→aD}{e:Env}: ∀{gs:List (ab × Bool)} {l:List cc},fP e gs=true→run M (sV y gs x l) e=run M x e∧((sV y gs x l).safe M e→x.safe M e)
 |[],_,_=>⟨rfl,fun h=>h⟩
 |(g,b)::r,l,h=>by
  simp only[fP,Bool.and_eq_true,beq_iff_eq]at h;obtain⟨aa,ae⟩:=M0 (x:=x) (y:=y) (l:=.dV g b::l) h.2;exact⟨(T9 h.1).trans aa,fun ai=>ae (zgu ai h.1)⟩
theorem M1{x:aD}{y:List cc→aD}{e:Env}{k:Nat}: ∀{gs:List (ab × Bool)} {l:List cc},fP e gs=false→lG k gs=true→fm k l=true→(∀c∈l,c.ok e)→∃gz,run M (sV y gs x l) e=run M (y gz) e∧fm k gz=true∧∀c∈gz,c.ok e
 |[],_,h,_,_,_=>by cases h
 |(g,b)::r,l,h,ah,ar,hc=>by
  simp only[lG,Bool.and_eq_true]at ah
  have sn: ∀b,fm k (.dV g b::l)=true:=fun b=>by
   show(cc.lt k (.dV g b)&&fm k l)=true;rw[ar,Bool.and_true];exact ah.1
  by_cases fw:g.aC e .bool=b
  ·simp only[fP,fw,beq_self_eq_true,Bool.true_and]at h
   obtain⟨gz,aa,ae,au⟩:=M1 (x:=x) (y:=y) (k:=k) (gs:=r) (l:=.dV g b::l) h ah.2 (sn b) fun c hm=>by
    rcases List.mem_cons.1 hm with rfl|hm
    ·exact fw
    ·exact hc c hm
   exact⟨gz,(T9 fw).trans aa,ae,au⟩
  ·refine⟨.dV g (!b)::l,zgt (MZ fw),sn _,fun c hm=>?_⟩
   rcases List.mem_cons.1 hm with rfl|hm
   ·exact MZ fw
   ·exact hc c hm
theorem Ua{S:aq}{dst:Option Nat}{l:List cc}{e:Env}(ad:S.cz)(ar:fm S.k l=true)(hc: ∀c∈l,c.ok e):
 ∃aZ:aq,rA S dst l= .cR .cp aZ∧aZ.cz∧aZ.cA e∧S.k≤aZ.k∧aZ.den G N B e=(S.den G N B e).put dst (.tuple []):=
 ⟨_,rfl,je ⟨ad.l,ad.h,ar⟩ rfl,jf hc,by rw[jg];exact Nat.le_refl _,by rw[ff];rfl⟩
mutual
theorem Ub(id t n:Nat)(es:List (List bb)): ∀a:aF,Sub (hJ [(id,.row true t n es)] a) (dZ id a):=fun a=>by
 cases a with
 |agg l=>exact(xz id t n es l).agg
 |tuple l=>exact(xz id t n es l).tuple
 |aR k=>
  by_cases h:k=id
  ·simp only[dZ,h,if_true]
   exact Sub.top _
  ·simp only[dZ,h,if_false,hJ,aG,if_neg (fun e:id=k=>h e.symm)]
   exact Sub.refl _
 |fn f p q=>
  intro w ro σ β N c hc;simp only[hJ]at hc
  cases hc with
  |fn _ _ _ c d aa ae au aW=>
   have ak:=(xz id t n es p).at
   have aN:=(xz id t n es q).at
   refine .fn f _ _ c d (by rw[aa,ak.1]) (by rw[ae,aN.1]) (fun j y af=>?_) fun j y af=>?_
   ·obtain⟨x,hx,ai⟩:=ak.2 j y af
    exact ai _ _ _ _ _ _ (au j x hx)
   ·obtain⟨x,hx,ai⟩:=aN.2 j y af
    exact ai _ _ _ _ _ _ (aW j x hx)
 |aw x=>exact Sub.refl _
 |top=>exact Sub.refl _
 |ptr k o=>simp only[dZ,hJ];split<;>first|exact Sub.top _|exact Sub.refl _
 |dC k o=>simp only[dZ,hJ];split<;>first|exact Sub.top _|exact Sub.refl _
 |c6 k i o=>simp only[dZ,hJ];split<;>first|exact Sub.top _|exact Sub.refl _
 |ref k=>simp only[dZ,hJ];split<;>first|exact Sub.top _|exact Sub.refl _
theorem xz(id t n:Nat)(es:List (List bb)): ∀l:List aF,fW (kr [(id,.row true t n es)] l) (ef id l):=fun l=>by
 match l with
 |[]=>exact .nil
 |x::r=>exact .cons (Ub id t n es x) (xz id t n es r)
end
theorem Uc(σ:Heap): ∀l:List aF,kr σ l=l.map (hJ σ)
 |[]=>rfl
 |x::r=>by simp only[kr,List.map_cons,Uc σ r]
theorem zgv{e:Env}{id t:Nat}{c:bJ}{k:Nat}: ∀y:ab,Sub (hJ [(id,.row true t (b5 c) (List.map (cj c) ((ab.aQ (.li c) k).aC e (.li c))))] (y.den G e)) ((ab.mS id (.aQ (.li c) k) y).den G e):=fun y=>by
 unfold ab.mS
 split
 ·rename_i j
  split
  ·rename_i af
   obtain rfl:=Nat.eq_of_beq_eq_true af;simp only[ab.den,hJ,aG,if_true];rw[show(ab.aQ (.li c) k).aC e (.li c)=(Env.at e k).aJ (.li c)by simp only[ab.aC,ab.fu,ab.dyn,cI]]
   exact lA.fq fun _ _ _ h=>.li _ _ _ h
  ·rename_i af
   have cb: ¬id=j:=fun h=>by rw[h,Nat.beq_refl]at af;cases af
   simp only[ab.den,hJ,aG,if_neg cb];exact Sub.refl _
 ·rw[Ek]
  exact Ub _ _ _ _ _
theorem zgw{S:aq}{e:Env}(id:Nat)(ad:S.cz)(hf:S.cA e):(xr S id).cz∧(xr S id).cA e∧(xr S id).k=S.k∧cu (S.den G N B e) ((xr S id).den G N B e):=by
 unfold xr
 split
 ·rename_i t c r k ah
  split
  ·rename_i ag
   cases hk ag
   have hx:(ab.aQ (.li c) k).lt S.k=true:=u5 (o:=.rw t c (.aQ (.li c) k)) ad.h ah
   refine⟨⟨fun i y ay=>?_,nV id ad.h,ad.g⟩,hf,rfl,?_⟩
   ·simp only[MO,bg.get_map]at ay
    cases aN:S.l.get i with
    |none=>rw[aN]at ay;cases ay
    |some z=>
     rw[aN]at ay;simp only[Option.map_some,Option.some.injEq]at ay;subst ay;show(ab.mS id _ z).lt S.k=true;unfold ab.mS
     split
     ·split
      ·exact hx
      ·rfl
     ·exact sX _ (ad.l i z aN)
   ·have bh:aG (S.den G N B e).heap id=some (.row false t (b5 c) (List.map (cj c) ((ab.aQ (.li c) k).aC e (.li c)))):=by
     simp only[aq.den,eh,ah,Option.map_some,bK.den]
    refine(cu.mS (S.den G N B e) id).trans ?_
    unfold Go.aO.mS;rw[bh];refine cu.of rfl (Nat.le_refl _) ?_ (fun i v ax=>?_) fun j o ao=>?_
    ·simp only[aq.den,nB,DR]
    ·simp only[aq.den,nO]at ax
     split at ax
     rotate_left
     ·cases ax
     rename_i hi;simp only[MO,bg.get_map,Option.some.injEq]at ax;subst ax
     refine⟨hJ [(id,.row true t (b5 c) (List.map (cj c) ((ab.aQ (.li c) k).aC e (.li c))))] (match S.l.get (0+i)with
      |some x=>x.den G e
      |none=>.top),by simp only[aq.den,Uc,List.getElem?_map,nO,if_pos hi,Option.map_some]<;>rfl,?_⟩
     cases aN:S.l.get (0+i)with
     |none=>exact Sub.top _
     |some z=>exact zgv z
    ·have ao:aG (cH G e (ho id S.h)) j=some o:=ao
     rw[o7,pW]at ao
     split at ao
     ·cases ao
     rename_i cb
     cases aN:aG (cH G e S.h) j with
     |none=>rw[aN]at ao;cases ao
     |some Ud=>
      rw[aN]at ao;simp only[Option.map_some,Option.some.injEq]at ao;subst ao;refine⟨kv [(id,.row true t (b5 c) (List.map (cj c) ((ab.aQ (.li c) k).aC e (.li c))))] Ud,?_,?_⟩
      ·rw[pZ,ze]
       rw[if_neg (fun h=>cb h.symm)];show Option.map _ (aG (cH G e S.h) j)=_;rw[aN];rfl
      ·cases Ud with
       |box t cs=>exact .box t (xz _ _ _ _ cs)
       |row z t n es=>exact .same _
       |bT bU=>exact .same _
  ·exact⟨ad,hf,rfl,cu.refl _⟩
 ·exact⟨ad,hf,rfl,cu.refl _⟩
theorem M3{e:Env}: ∀(aJ:List ab) {S:aq},S.cz→S.cA e→(mn aJ S).cz∧(mn aJ S).cA e∧(mn aJ S).k=S.k∧cu (S.den G N B e) ((mn aJ S).den G N B e)
 |[],S,ad,hf=>⟨ad,hf,rfl,cu.refl _⟩
 |a::r,S,ad,hf=>by
  unfold mn
  split
  ·rename_i h;cases h
  ·rename_i id eV h
   cases h;obtain⟨aa,ae,au,aW⟩:=zgw (G:=G) (N:=N) (B:=B) id ad hf;obtain⟨g1,g2,g3,g4⟩:=M3 r aa ae;exact⟨g1,g2,g3.trans au,aW.trans g4⟩
  ·rename_i h
   cases h;exact M3 r ad hf
theorem zgx{ops:Array Oper}{o:Oper}{S:aq}{aJ:List ab}{e:Env}(ak:preB P N S o=some aJ)(ad:S.cz)(hf:S.cA e):
 (mn aJ S).cz∧(mn aJ S).cA e∧(mn aJ S).k=S.k∧cu (S.den G N B e) ((mn aJ S).den G N B e)∧dO ops ((mn aJ S).den G N B e) o=some true:=by
 have hn:o.guard=none:=by
  unfold preB at ak
  split at ak
  ·split at ak
   ·cases ak
   ·assumption
  ·cases ak
 obtain⟨aa,ae,au,aW⟩:=M3 (G:=G) (N:=N) (B:=B) aJ ad hf
 exact⟨aa,ae,au,aW,by unfold dO;rw[hn]⟩
theorem tS(b2:fE P G M inl){ops:Array Oper}: ∀(l:List Oper) {S:aq} {e:Env} {Q:Exit→aU→Prop},S.cz→S.cA e→(hE P N B T inl ops l S).safe M e→(∀ex st,h1 G N B M (hE P N B T inl ops l S) e S.k ex st→Q ex st)→cE P G ops Q l (S.den G N B e)
 |[],S,e,Q,ad,hf,_,ek=>cE.nil (ek _ _ ⟨.cp,S,e,rfl,trivial,cu.refl _,ad,hf,b3.refl _ _,Nat.le_refl _⟩)
 |o::r,S,e,Q,ad,hf,ai,ek=>by
  have ah:=MY (G:=G) (N:=N) (B:=B) (ops:=ops) (o:=o) hf
  have e2:=ai
  unfold hE at e2
  cases iZ:guardOf N ops S o with
  |yes=>
   rw[iZ]at ah e2;simp only at e2
   cases ak:preB P N S o with
   |some aJ=>
    rw[ak]at e2
    have fO:hE P N B T inl ops (o::r) S=exec P N B T inl o (mn aJ S) (hE P N B T inl ops r):=by rw[hE,iZ];simp only[ak]
    obtain⟨f1,f2,f3,f4,f5⟩:=zgx (G:=G) (B:=B) (ops:=ops) ak ad hf;refine cE.le f4 (MU b2 f1 f2 f5 e2 fun dn aB aa ae au aW bN c5=>tS b2 r aa ae bN fun ex st ak=>ek ex st (ak.sub ?_ (f3 ▸ au) (f3 ▸ aW)))
    rw[fO,c5]
   |none=>
    rw[ak]at e2
    have fO:hE P N B T inl ops (o::r) S=exec P N B T inl o S (hE P N B T inl ops r):=by rw[hE,iZ];simp only[ak]
    refine MU b2 ad hf ah e2 fun dn aB aa ae au aW bN c5=>tS b2 r aa ae bN fun ex st ak=>ek ex st (ak.sub ?_ au aW)
    rw[fO,c5]
  |no=>
   rw[iZ]at ah e2
   have fO:hE P N B T inl ops (o::r) S=hE P N B T inl ops r (S.put o.dst (.tp [])):=by rw[hE,iZ]
   refine cE.pass ah ?_
   have hd:(S.den G N B e).put o.dst (.tuple [])=(S.put o.dst (.tp [])).den G N B e:=by rw[ff];rfl
   rw[hd];refine tS b2 r (je ad rfl) (jf hf) e2 fun ex st ak=>ek ex st (ak.sub (by rw[fO]) (b3.refl _ _) (by rw[jg];exact Nat.le_refl _))
  |on gs=>
   rw[iZ]at ah e2;simp only at e2;obtain⟨g1,g2⟩:=ah
   split at e2
   ·rename_i kB
    split at e2
    ·rename_i q ax
     split at e2
     ·rename_i hc
      have fO:hE P N B T inl ops (o::r) S=emit S.k q.xs (q.ns.map (qh gs)) (hE P N B T inl ops r ((S.eT S.k q.xs).put o.dst (kd gs q.v))):=by rw[hE,iZ];simp only[kB,ax,hc]
      simp only[Bool.and_eq_true]at hc;obtain⟨gO,gg⟩:=lF e2;obtain⟨cf,a2,a3⟩:=qj (M:=M) (G:=G) (N:=N) (B:=B) ad hf hc.1
      have bZ:b3 S.k e (dq M e S.k q.xs):=jy (Nat.le_refl _)
      have h4:fP (dq M e S.k q.xs) gs=fP e gs:=ES bZ kB
      have aj:S.k≤S.k+q.xs.length:=Nat.le_add_right _ _
      have fF:(kd gs q.v).lt (S.k+q.xs.length)=true:=EP (ER aj kB) hc.2
      have M4:((S.eT S.k q.xs).put o.dst (kd gs q.v)).cz:=je cf fF
      have AI:=tS b2 (ops:=ops) r (Q:=Q) M4 (jf a2) gg fun ex st ak=>ek ex st (ak.sub (by rw[fO,k4]) bZ (by rw[jg];exact aj))
      rw[ff,a3]at AI
      cases fw:fP e gs with
      |true=>
       have hZ:=xy hf fw
       have ia:=xx ad kB
       have dH:=uR (G:=G) (B:=B) (M:=M) ax (dq M e S.k q.xs) (ic bZ ia.g hZ) (jz hc.1) fun n hn=>EV (gO (qh gs n) (List.mem_map.2 ⟨n,hn,rfl⟩)) (h4.trans fw)
       have xA:({S with g:=hp gs S.g}:aq).den G N B (dq M e S.k q.xs)=S.den G N B e:=k2 (S:={S with g:=hp gs S.g}) bZ ia
       rw[xA]at dH;refine cE.step (g1 fw) dH.step ?_
       rw[ET (h4.trans fw)]at AI;exact AI
      |false=>
       refine cE.pass (g2 fw) ?_
       rw[EU (h4.trans fw)]at AI;exact AI
     ·exact e2.elim
    ·rename_i ax
     have fO:hE P N B T inl ops (o::r) S=qf N S o.dst gs (sV (rA S o.dst) gs (exec P N B T inl o {S with g:=hp gs S.g} (.cR .cp)) S.g) (hE P N B T inl ops r):=by rw[hE,iZ];simp only[ax,kB]
     obtain⟨t1,_,t3⟩:=MG (G:=G) (B:=B) ad hf e2
     have fin: ∀(aZ:aq) (aE:Env),run M (sV (rA S o.dst) gs (exec P N B T inl o {S with g:=hp gs S.g} (.cR .cp)) S.g) e=some (.cp,aZ,aE)→aZ.cz→aZ.cA aE→b3 S.k e aE→S.k≤aZ.k→cE P G ops Q r (aZ.den G N B aE):=fun aZ aE ag aa ae au aW=>by
      obtain⟨dP,bo,s1,s2,pc,pd,pe,pf,pg⟩:=t3 aZ aE ag aa ae au aW;exact cE.le s1 (tS b2 r s2 pc pf fun ex st ak=>ek ex st (ak.sub (by rw[fO,pg]) pd pe))
     cases fw:fP e gs with
     |false=>
      refine cE.pass (g2 fw) ?_
      obtain⟨gz,da,dm,gy⟩:=M1 (M:=M) (x:=exec P N B T inl o {S with g:=hp gs S.g} (.cR .cp)) (y:=rA S o.dst) (l:=S.g) fw kB ad.g hf
      obtain⟨aZ,rv,ph,M5,M6,M7⟩:=Ua (G:=G) (N:=N) (B:=B) (dst:=o.dst) ad dm gy;rw[←M7];exact fin aZ e (by rw[da,rv];rfl) ph M5 (b3.refl _ _) M6
     |true=>
      have hZ:=xy hf fw
      have ia:=xx ad kB
      obtain⟨f1,f2⟩:=M0 (M:=M) (x:=exec P N B T inl o {S with g:=hp gs S.g} (.cR .cp)) (y:=rA S o.dst) (l:=S.g) fw
      refine MU b2 (S:={S with g:=hp gs S.g}) ia hZ (g1 fw) (f2 t1) fun dn aB aa ae au aW _ c5=>fin dn aB ?_ aa ae au aW
      exact f1.trans c5
   ·exact e2.elim
  |bad=>rw[iZ]at e2;exact e2.elim
end
end Go.aO
namespace Go.aO
open Go
def AJ(i:Nat)(y:ab):List cc→Bool
 |[]=>false
 | .rg j b::r=>(Nat.beq j i&&eJ b y)||AJ i y r
 |_::r=>AJ i y r
def xB(j:Nat)(all:List cc):List cc→Option Bool
 |[]=>none
 | .d2 i (.oV .lss .i64) x y::r=>match Nat.beq i j with
  |true=>match eJ x y with
   |true=>some false
   |false=>match x with
    | .aQ (.int .i64) m=>match AJ m y all&&(match y.rt with|some (.int .i64)=>true|_=>false)with
     |true=>some true
     |false=>none
    |_=>none
  |false=>xB j all r
 |_::r=>xB j all r
def M8(g:ab)(l:List cc):Option Bool:=
 match k1 g l with
 |some b=>some b
 |none=>match g with
  | .aQ .bool j=>xB j l l
  |_=>none
def AK(i:Nat):List cc→Option ab
 |[]=>none
 | .d1 j .mY x::r=>match Nat.beq j i with
  |true=>match x.rt with
   |some .bool=>some x
   |_=>none
  |false=>AK i r
 |_::r=>AK i r
def aq.dV(S:aq)(v:ab)(b:Bool):aq:=
 match v with
 | .aQ .bool i=>match AK i S.g with
  |some x=>{S with g:=.dV x (!b):: .dV (.aQ .bool i) b::S.g}
  |none=>{S with g:=.dV (.aQ .bool i) b::S.g}
 |v=>{S with g:=.dV v b::S.g}
def M9(N:Nat)(S:aq)(x:Operand)(f g:aq→aD):aD:=
 match S.a8 N x with
 | .cs (.bool true)=>f S
 | .cs (.bool false)=>g S
 |v=>match v.rt with
  |some .bool=>match M8 v S.g with
   |some true=>f S
   |some false=>g S
   |none=>.it v (f (S.dV v true)) (g (S.dV v false))
  |_=>.bad 38
def comp(P:Program)(N B:Nat)(T:List (Nat × bJ))(inl:Nat→List ab→aq→aD)(L:(aq→aD)→Nat→aq→aD)(D:Array Oper→aq→aD):Code→Nat→aq→aD
 | .skip,_,S=>.cR .cp S
 | .ret,_,S=>.cR .ret S
 | .exit id,_,S=>.cR (.ext id) S
 | .region _ ops draw,_,S=>match draw with
  |true=>D ops S
  |false=>hE P N B T inl ops ops.toList S
 | .cond x a b,cur,S=>M9 N S x (comp P N B T inl L D a cur) (comp P N B T inl L D b cur)
 | .block id c,_,S=>(comp P N B T inl L D c id S).rel (oX id)
 | .seq a b,cur,S=>iN N S (comp P N B T inl L D a cur S) (comp P N B T inl L D b cur)
 | .loop c,cur,S=>L (comp P N B T inl L D c cur) cur S
 |_,_,_=>.bad 6
section
variable {P:Program} {G:bd} {N B:Nat} {M:List aV} {T:List (Nat × bJ)} {inl:Nat→List ab→aq→aD} {L:(aq→aD)→Nat→aq→aD} {D:Array Oper→aq→aD}
theorem AL{i:Nat}{y:ab}{e:Env}: ∀{l:List cc},AJ i y l=true→(∀c∈l,c.ok e)→0≤cr (Env.at e i)∧cr (Env.at e i)<cr (y.dyn e)
 | .rg j b::r,h,hc=>by
  simp only[AJ,Bool.or_eq_true,Bool.and_eq_true]at h
  rcases h with⟨aa,ae⟩|h
  ·rw[←Nat.eq_of_beq_eq_true aa,←e4 ae]
   exact hc (.rg j b) (by simp)
  ·exact AL h fun c hm=>hc c (by simp[hm])
 | .d1 _ _ _::r,h,hc=>AL (l:=r) h fun c hm=>hc c (by simp[hm])
 | .d2 _ _ _ _::r,h,hc=>AL (l:=r) h fun c hm=>hc c (by simp[hm])
 | .dV _ _::r,h,hc=>AL (l:=r) h fun c hm=>hc c (by simp[hm])
theorem zgy(d:aI):(d.aJ (.int .i64):Int)=cr d∨(d.aJ (.int .i64):Int)=0:=by
 obtain⟨r,v⟩:=d
 by_cases h:r= .int .i64
 ·subst h
  exact .inl (cI _ _)
 ·refine .inr ?_
  unfold aI.aJ
  split
  ·rename_i h' _;exact absurd h' h
  ·rfl
theorem AM{j:Nat}{e:Env}{b:Bool}{all:List cc}(ba: ∀c∈all,c.ok e): ∀{l:List cc},xB j all l=some b→(∀c∈l,c.ok e)→(ab.aQ .bool j).aC e .bool=b
 | .d2 i f x y::r,h,hc=>by
  have aP:=hc (.d2 i f x y) (by simp)
  have ag: ∀{b},xB j all r=some b→(ab.aQ .bool j).aC e .bool=b:=fun h=>AM ba h fun c hm=>hc c (by simp[hm])
  unfold xB at h
  split at h
  ·cases h
  ·rename_i zx iP sw eV heq
   cases heq
   split at h
   ·rename_i oj
    have oj:=Nat.eq_of_beq_eq_true oj
    subst oj;simp only[cc.ok]at aP
    have ax:(ab.aQ .bool i).aC e .bool=zY .lss (x.aC e (.int .i64)) (y.aC e (.int .i64)):=by
     simp only[ab.aC,ab.fu,ab.dyn,cI,aP];rfl
    rw[ax]
    split at h
    ·rename_i he
     cases h;rw[e4 he];exact decide_eq_false (Int.lt_irrefl _)
    ·split at h
     ·rename_i m _
      split at h
      ·rename_i aj
       cases h;simp only[Bool.and_eq_true]at aj
       have aa:=AL aj.1 ba
       have ay:y.rt=some (.int .i64):=by
        have:=aj.2
        split at this
        ·assumption
        ·cases this
       rw[lD ay]at aa
       have hx:(ab.aQ (.int .i64) m).aC e (.int .i64)=(Env.at e m).aJ (.int .i64):=by simp only[ab.aC,ab.fu,ab.dyn,cI]
       rw[hx];refine decide_eq_true ?_
       have ae:=aa.2
       rcases zgy (Env.at e m)with q|q
       ·rw[q];exact ae
       ·rw[q];exact Int.lt_of_le_of_lt aa.1 ae
      ·cases h
     ·cases h
   ·exact ag h
  ·rename_i heq
   cases heq;exact ag h
 | .d1 _ _ _::r,h,hc=>AM ba (l:=r) h fun c hm=>hc c (by simp[hm])
 | .rg _ _::r,h,hc=>AM ba (l:=r) h fun c hm=>hc c (by simp[hm])
 | .dV _ _::r,h,hc=>AM ba (l:=r) h fun c hm=>hc c (by simp[hm])
theorem Ue{e:Env}{g:ab}{b:Bool}{l:List cc}(h:M8 g l=some b)(hc: ∀c∈l,c.ok e):g.aC e .bool=b:=by
 unfold M8 at h
 split at h
 ·rename_i aj;cases h;exact p9 aj hc
 ·split at h
  ·exact AM hc h hc
  ·cases h
def iO(P:Program)(G:bd)(N B:Nat)(M:List aV)(c:Code)(f:aq→aD):Prop:=
 ∀(S:aq) (e:Env),S.cz→S.cA e→(f S).safe M e→b6 P G c (h1 G N B M (f S) e S.k) (S.den G N B e)
theorem Na{i:Nat}{x:ab}{e:Env}{k:Nat}: ∀{l:List cc},AK i l=some x→(∀c∈l,c.ok e)→fm k l=true→(ab.aQ .bool i).aC e .bool= !(x.aC e .bool)∧x.lt k=true
 |[],h,_,_=>by cases h
 |c::r,h,hc,ar=>by
  have zh: ∀c∈r,c.ok e:=fun c hm=>hc c (List.mem_cons_of_mem _ hm)
  have sn:c.lt k=true∧fm k r=true:=by simpa only[fm,Bool.and_eq_true]using ar
  unfold AK at h
  split at h
  ·rename_i heq;cases heq
  ·rename_i j y eV heq
   cases heq
   split at h
   ·rename_i af
    have af:=Nat.eq_of_beq_eq_true af
    subst af
    split at h
    ·cases h
     have aP:Env.at e j=⟨gI.mY.c,gI.mY.den (x.aC e gI.mY.a)⟩:=hc _ (List.mem_cons_self ..)
     have aa:=sn.1
     simp only[cc.lt,Bool.and_eq_true]at aa;refine⟨?_,aa.2⟩
     simp only[ab.aC,ab.fu,ab.dyn,aP,cI];rfl
    ·cases h
   ·exact Na h zh sn.2
  ·rename_i heq
   cases heq;exact Na h zh sn.2
theorem Uf{S:aq}{v:ab}{b:Bool}{e:Env}(ad:S.cz)(hf:S.cA e)(ar:v.lt S.k=true)(ax:v.aC e .bool=b):(S.dV v b).cz∧(S.dV v b).cA e∧(S.dV v b).k=S.k∧(S.dV v b).den G N B e=S.den G N B e:=by
 unfold aq.dV
 split
 ·rename_i i
  split
  ·rename_i x hx
   obtain⟨aa,ae⟩:=Na hx hf ad.g;rw[ax]at aa
   have au:x.aC e .bool= !b:=by rw[aa];cases x.aC e .bool<;>rfl
   have cf:=AG (b:=b) ad ar
   have a2:=AH hf ax
   exact⟨AG (S:={S with g:=.dV (.aQ .bool i) b::S.g}) (b:=!b) cf ae,AH (S:={S with g:=.dV (.aQ .bool i) b::S.g}) a2 au,rfl,rfl⟩
  ·exact⟨AG ad ar,AH hf ax,rfl,rfl⟩
 ·exact⟨AG ad ar,AH hf ax,rfl,rfl⟩
theorem zgz{x:Operand}{a b:Code}{f g:aq→aD}(hf:iO P G N B M a f)(ah:iO P G N B M b g):iO P G N B M (.cond x a b) (fun S=>M9 N S x f g):=by
 intro S e ad en ai
 have hx:=bM (G:=G) (N:=N) (B:=B) en x
 have bR:=DS (N:=N) ad x
 simp only at ai⊢
 unfold M9 at ai⊢
 generalize S.a8 N x=v at ai hx bR⊢
 split at ai
 ·exact b6.Rv hx (hf S e ad en ai)
 ·exact b6.Rw hx (ah S e ad en ai)
 ·rename_i aa ae
  split at ai
  ·rename_i ag
   have hd:=gd (G:=G) (e:=e) ag
   rw[←hx]at hd
   have hd:=hd.trans (show _=aF.aw (.v (.bool _))from rfl)
   split at ai
   ·rename_i aj
    rw[Ue aj en]at hd;exact b6.Rv hd (hf S e ad en ai)
   ·rename_i aj
    rw[Ue aj en]at hd;exact b6.Rw hd (ah S e ad en ai)
   ·refine b6.cond hd (fun aK=>?_) (fun aK=>?_)
    ·obtain⟨da,dm,gy,pj⟩:=Uf (G:=G) (N:=N) (B:=B) ad en bR aK
     have:=hf _ e da dm (ai.1 aK)
     rw[pj]at this;refine b6.mono this fun ex st ak=>ak.sub ?_ (b3.refl _ _) (Nat.le_of_eq gy.symm)
     rw[sW aK]
    ·obtain⟨da,dm,gy,pj⟩:=Uf (G:=G) (N:=N) (B:=B) ad en bR aK
     have:=ah _ e da dm (ai.2 aK)
     rw[pj]at this;refine b6.mono this fun ex st ak=>ak.sub ?_ (b3.refl _ _) (Nat.le_of_eq gy.symm)
     rw[sW aK]
  ·exact ai.elim
theorem zgA{id:Nat}{c:Code}{f:aq→aD}(hf:iO P G N B M c f):iO P G N B M (.block id c) (fun S=>(f S).rel (oX id)):=by
 intro S e ad en ai
 have ao:=zeD (f S) id
 refine b6.block (b6.mono (hf S e ad en ((kN ao).1 ai)) fun ex st ak=>?_)
 obtain⟨x,dn,aB,aa,ae,au,aW,bN,c5,eD⟩:=ak
 have ag:run M ((f S).rel (oX id)) e=some (oX id x,dn,aB):=by rw[vW ao,aa];rfl
 cases x with
 |cp=>cases ex<;>first|exact⟨_,dn,aB,ag,trivial,au,aW,bN,c5,eD⟩|exact ae.elim
 |ret=>cases ex<;>first|exact⟨_,dn,aB,ag,trivial,au,aW,bN,c5,eD⟩|exact ae.elim
 |k0 n=>exact(by cases ex<;>exact ae.elim)
 |ext n=>
  cases ex with
  |exit m=>
   have ae:n=m:=ae
   subst ae;show(bif Nat.beq n id then _ else _)
   cases ad:Nat.beq n id with
   |true=>exact⟨.cp,dn,aB,by rw[ag];simp only[oX,ad],trivial,au,aW,bN,c5,eD⟩
   |false=>exact⟨.ext n,dn,aB,by rw[ag];simp only[oX,ad],rfl,au,aW,bN,c5,eD⟩
  |_=>exact ae.elim
theorem y3{a b:Code}{f g:aq→aD}(hf:iO P G N B M a f)(ah:iO P G N B M b g):iO P G N B M (.seq a b) (fun S=>iN N S (f S) g):=by
 intro S e ad en ai
 obtain⟨t1,t2,t3⟩:=ED (G:=G) (B:=B) ad en ai
 refine b6.seq (b6.mono (hf S e ad en t1) fun ex st ak=>?_)
 obtain⟨x,dn,aB,aa,ae,au,aW,bN,c5,eD⟩:=ak
 have other:x≠ .cp→ex≠ .normal→h1 G N B M (iN N S (f S) g) e S.k ex st:=fun cb _=>⟨x,dn,aB,t2 x dn aB aa cb (TW ae),ae,au,aW,bN,c5,eD⟩
 cases x with
 |cp=>
  cases ex with
  |normal=>
   obtain⟨dP,bo,s1,s2,pc,pd,pe,pf,pg⟩:=t3 dn aB aa aW bN c5 eD;exact b6.le au (b6.le s1 (b6.mono (ah dP bo s2 pc pf) fun ex st ak=>ak.sub pg pd pe))
  |_=>exact ae.elim
 |ret=>cases ex<;>first|exact other (by simp) (by simp)|exact ae.elim
 |ext n=>cases ex<;>first|exact other (by simp) (by simp)|exact ae.elim
 |k0 n=>cases ex<;>exact ae.elim
theorem Nb{c:Code}{x:b7}{ex:Exit}(h:AB x ex)(k: ∀{Q:Exit→aU→Prop} {s:aU},Q ex s→b6 P G c Q s):iO P G N B M c (fun S=>.cR x S):=
 fun S e ad hf _=>k ⟨x,S,e,rfl,h,cu.refl _,ad,hf,b3.refl _ _,Nat.le_refl _⟩
def EW(P:Program)(G:bd)(N B:Nat)(M:List aV)(L:(aq→aD)→Nat→aq→aD):Prop:=∀c f id,iO P G N B M c f→iO P G N B M (.loop c) (L f id)
def Nc(P:Program)(G:bd)(N B:Nat)(M:List aV)(D:Array Oper→aq→aD):Prop:=∀id ops,iO P G N B M (.region id ops true) (D ops)
theorem ot(b2:fE P G M inl)(fD:EW P G N B M L)(jC:Nc P G N B M D): ∀(c:Code) (cur:Nat),iO P G N B M c (comp P N B T inl L D c cur)
 | .skip,_=>Nb (ex:=.normal) trivial b6.skip
 | .ret,_=>Nb (ex:=.ret) trivial b6.ret
 | .exit id,_=>Nb (ex:=.exit id) rfl b6.exit
 | .region id ops draw,_=>by
  cases draw with
  |true=>exact jC id ops
  |false=>
   intro S e ad hf ai
   have il:ops=ops.toList.toArray:=by simp
   rw[il];refine b6.region ?_
   rw[←il];exact tS b2 ops.toList ad hf ai fun _ _ h=>h
 | .cond x a b,cur=>zgz (ot b2 fD jC a cur) (ot b2 fD jC b cur)
 | .block id c,_=>zgA (ot b2 fD jC c id)
 | .seq a b,cur=>y3 (ot b2 fD jC a cur) (ot b2 fD jC b cur)
 | .loop c,cur=>fD c _ cur (ot b2 fD jC c cur)
 | .rangeFunc _ _ _ _,_=>fun _ _ _ _ h=>h.elim
 | .scope _,_=>fun _ _ _ _ h=>h.elim
 | .label _,_=>fun _ _ _ _ h=>h.elim
 | .goto _,_=>fun _ _ _ _ h=>h.elim
 | .refuse _,_=>fun _ _ _ _ h=>h.elim
end
end Go.aO
namespace Go.aO
open Go
def AN:Nat→List ab→List (Nat × ab)
 |_,[]=>[]
 |i,x::r=>(i,x)::AN (i+1) r
def xC(P:Program)(N:Nat)(S:aq):List ResultVar→Option (List ab)
 |[]=>some []
 | .tmp t::r=>match xC P N S r with
  |some l=>some (S.a8 N (.tmp t)::l)
  |none=>none
 | .cell p t::r=>match xC P N S r,uK S (S.a8 N (.tmp p))with
  |some l,some cs=>match pL P t cs with
   |some v=>some (v::l)
   |none=>none
  |_,_=>none
def Nd(P:Program)(fn:Func)(N:Nat)(S:aq):Option ab:=
 match xC P N S fn.results.toList with
 |some [x]=>some x
 |some l=>some (.tp l)
 |none=>none
def se:b7→b7
 | .ret=>.cp
 |x=>x
def zgB:b7→Bool
 | .cp=>true
 | .ret=>true
 |_=>false
def tU(P:Program)(fn:Func)(N:Nat)(S:aq):aD:=
 match Nd P fn N S with
 |some v=>match v.lt S.k with
  |true=>.cR .cp {S with l:=bg.put .emp 0 v}
  |false=>.bad 44
 |none=>.bad 43
structure h5 where
 L:Nat→Nat→(Nat→List ab→aq→aD)→(aq→aD)→Nat→aq→aD
 D:Nat→Nat→(Nat→List ab→aq→aD)→Array Oper→aq→aD
def pM(aJ:List ab)(S:aq):aq:={S with l:=fo (AN 0 aJ)}
def Nf(P:Program)(H:h5)(T:List (Nat × bJ))(inl:Nat→List ab→aq→aD)(c:Code)(N:Nat)(aJ:List ab)(S:aq):aD:=
 comp P N S.n T inl (H.L N S.n inl) (H.D N S.n inl) c 0 (pM aJ S)
def xD(n:Nat)(m:Nat):Nat:=
 match n with
 |0=>m
 |k+1=>k+1
def aD.m7:aD→Nat
 | .cR _ _=>0
 | .lt _ _ t=>t.m7
 | .eH _ t=>t.m7
 | .it _ a b=>xD a.m7 b.m7
 | .dE _ a _ k=>xD a.m7 k.m7
 | .dW _ _ _ _ _ a k=>xD a.m7 k.m7
 | .ep _ _ _ a k=>xD a.m7 k.m7
 | .bad n=>n
def zgC(f n:Nat):Nat:=
 match Nat.ble 1000 n with
 |true=>n
 |false=>f*1000+n
def CE(P:Program)(f:Nat)(fn:Func)(N:Nat)(t:aD):aD:=
 match t.fv zgB with
 |true=>(t.rel se).eL (tU P fn N) none
 |false=>.bad (zgC f t.m7)
def Ng(P:Program)(H:h5)(T:List (Nat × bJ))(inl:Nat→List ab→aq→aD)(f:Nat)(aJ:List ab)(S:aq):aD:=
 match P.funcs[f]? with
 |some fn=>match fn.body with
  |some c=>CE P f fn (aJ.length+(fn.ntmps-aJ.length)) (Nf P H T inl c (aJ.length+(fn.ntmps-aJ.length)) aJ S)
  |none=>.bad 41
 |none=>.bad 42
section
variable {P:Program} {G:bd} {N B:Nat} {M:List aV} {T:List (Nat × bJ)} {inl:Nat→List ab→aq→aD} {H:h5}
def EX(P:Program)(G:bd)(M:List aV)(H:h5):Prop:=∀(inl:Nat→List ab→aq→aD),fE P G M inl→∀N B,EW P G N B M (H.L N B inl)∧Nc P G N B M (H.D N B inl)
theorem Ug{t:TypeId}{l:List ab}{v:ab}{e:Env}(h:pL P t l=some v):
 (∃n,l3 P t=some n∧n≤l.length∧0<n∧v.den G e= .agg ((ab.bX G e l).take n))∨(l3 P t=none∧scalar P t=true∧∃r,l=v::r):=by
 unfold pL at h
 split at h
 ·rename_i n hn
  split at h
  ·rename_i ad
   simp only[Bool.and_eq_true]at ad;cases h;refine .inl ⟨n,hn,Nat.le_of_ble_eq_true ad.1,Nat.le_of_ble_eq_true ad.2,?_⟩
   simp only[ab.den,fa,List.map_take]
  ·cases h
 ·rename_i hn
  split at h
  ·rename_i ai
   cases h;exact .inr ⟨hn,ai,_,rfl⟩
  ·cases h
theorem EY{S:aq}{e:Env}(hf:S.cA e): ∀{l:List ResultVar} {vs:List ab},xC P N S l=some vs→mN P (S.den G N B e) l=some (ab.bX G e vs)
 |[],vs,h=>by cases h;rfl
 | .tmp t::r,vs,h=>by
  simp only[xC]at h
  split at h
  ·rename_i l ar
   cases h
   have:=bM (G:=G) (N:=N) (B:=B) hf (.tmp t)
   simp only[mN,EY hf ar,ab.bX,←this];rfl
  ·cases h
 | .cell p t::r,vs,h=>by
  simp only[xC]at h
  split at h
  ·rename_i l cs ar hc
   split at h
   ·rename_i v ax
    cases h
    have aa:=bM (G:=G) (N:=N) (B:=B) hf (.tmp p)
    have ae:=Af (G:=G) (N:=N) (B:=B) (e:=e) hc
    rw[←aa]at ae
    have ae:fr (S.den G N B e).heap ((S.den G N B e).c0.getD p .top)=some (ab.bX G e cs):=ae
    simp only[mN,EY hf ar,ae,ab.bX]
    rcases Ug (G:=G) (e:=e) ax with⟨n,g1,g2,g3,g4⟩|⟨g1,g2,eV,g3⟩
    ·simp only[g1,g4]
     rw[if_pos ⟨by rw[lZ];exact g2,g3⟩]
    ·subst g3
     simp only[g1,g2,if_true,ab.bX]
   ·cases h
  ·cases h
theorem Qn{fn:Func}{S:aq}{e:Env}{v:ab}(hf:S.cA e)(h:Nd P fn N S=some v):zr P fn (S.den G N B e)=some (v.den G e):=by
 unfold Nd at h
 unfold zr
 split at h
 ·rename_i x hx
  cases h;rw[EY hf hx];rfl
 ·rename_i l cb ar
  cases h;rw[EY hf ar]
  match l with
  |[]=>rfl
  |[x]=>exact absurd rfl (cb x)
  |x::y::l=>rfl
 ·cases h
theorem CF(t:aD):t.iE se:=m1 (t.lvl+1) (Nat.lt_succ_self _) (fun n _ x h=>by cases x<;>first|rfl|exact h) (fun n x h=>by cases x<;>first|rfl|exact h)
theorem Nh: ∀{l:List ab} {i j:Nat},(fo (AN i l)).get j=if j<i then none else l[j-i]?
 |[],i,j=>by simp only[AN,fo];split<;>simp[bg.get]
 |x::r,i,j=>by
  simp only[AN,fo,bg.hV,Nh (l:=r)]
  by_cases h:i=j
  ·subst h;simp
  ·rw[if_neg h]
   by_cases ae:j<i
   ·rw[if_pos ae,if_pos (by omega)]
   ·rw[if_neg ae,if_neg (by omega),show j-i=(j-(i+1))+1 by omega,List.getElem?_cons_succ]
theorem Qk{aJ:List ab}{S:aq}{e:Env}{k:Nat}:(pM aJ S).den G (aJ.length+k) S.n e=⟨ab.bX G e aJ++List.replicate k .top,cH G e S.h,S.n,S.n⟩:=by
 simp only[aq.den,pM,aU.mk.injEq,and_true,true_and]
 apply List.ext_getElem?
 intro j
 rw[nO,Nat.zero_add,Nh,if_neg (Nat.not_lt_zero _),Nat.sub_zero,fa,List.getElem?_append,List.getElem?_replicate,List.length_map]
 by_cases h:j<aJ.length
 ·rw[if_pos (by omega),if_pos h,List.getElem?_map,List.getElem?_eq_getElem h]
  rfl
 ·rw[if_neg h]
  by_cases ae:j<aJ.length+k
  ·rw[if_pos ae,if_pos (by omega),List.getElem?_eq_none (by omega)]
  ·rw[if_neg ae,if_neg (by omega)]
theorem Qj{aJ:List ab}{S:aq}(ad:S.cz)(ar:ab.cV S.k aJ=true):(pM aJ S).cz:=by
 refine⟨fun i x hx=>?_,ad.h,ad.g⟩
 simp only[pM,Nh,Nat.not_lt_zero,if_false,Nat.sub_zero]at hx
 have hm:=List.mem_of_getElem? hx
 clear hx
 induction aJ with
 |nil=>cases hm
 |cons y r a7=>
  simp only[ab.cV,Bool.and_eq_true]at ar
  rcases List.mem_cons.1 hm with rfl|hm
  ·exact ar.1
  ·exact a7 ar.2 hm
theorem b6.Qm{c:Code}{Q:Exit→aU→Prop}{s:aU}(h:b6 P G c (fun e st=>∃EZ,cu st EZ∧Q e EZ) s):b6 P G c Q s:=fun E a w ag=>
 wp_mono (h E a w ag) fun _ bf w' ⟨st,⟨EZ,ar,aN⟩,ae⟩=>⟨EZ,aN,ar E G bf w' ae⟩
theorem zgD(kM:EX P G M H)(b2:fE P G M inl):fE P G M (Ng P H T inl):=by
 intro f aJ S e ad ar hf ai
 unfold Ng at ai⊢
 split at ai
 ·rename_i fn nt
  split at ai
  ·rename_i c hc
   generalize ou:aJ.length+(fn.ntmps-aJ.length)=N at ai;generalize aK:Nf P H T inl c N aJ S=t at ai;unfold CE at ai⊢
   split at ai
   ·rename_i y4
    obtain⟨g1,g2,g3⟩:=jh (t.rel se) none ai
    have tT:t.safe M e:=(kN (CF t)).1 g1
    have y5:=ot (T:=T) (B:=S.n) (N:=N) b2 (kM inl b2 N S.n).1 (kM inl b2 N S.n).2 c 0 (pM aJ S) e (Qj ad ar) hf (by
     unfold Nf at aK;rw[aK];exact tT)
    have cL:comp P N S.n T inl (H.L N S.n inl) (H.D N S.n inl) c 0 (pM aJ S)=t:=aK
    rw[cL,←ou,Qk,ou]at y5;refine dJ.Ql (k:=fn.ntmps-aJ.length) nt hc (by rw[lZ]) (b6.Qm (b6.mono y5 fun ex st ak=>?_))
    obtain⟨x,dn,aB,aa,ae,au,aW,bN,c5,eD⟩:=ak;refine⟨_,au,?_⟩
    obtain⟨iP,dP,bo,da,dm⟩:=ji (M:=M) (e:=e) y4;rw[aa]at da
    cases da
    have ag:run M (t.rel se) e=some (.cp,dn,aB):=by
     rw[vW (CF t),aa]
     cases x<;>first|rfl|cases dm
    obtain⟨ov,_⟩:=g3 dn aB ag;rw[ag]at g2
    have g2:run M ((t.rel se).eL (tU P fn N) none) e=run M (tU P fn N dn) aB:=g2
    unfold tU at ov g2
    split at ov
    ·rename_i v ax
     split at ov
     ·rename_i fF
      simp only[ax,fF]at g2;refine⟨(by cases x<;>cases ex<;>first|exact .inl rfl|exact .inr rfl|exact ae.elim|cases dm),v.den G aB,cH G aB dn.h,Qn bN ax,fun _ _ h=>h,{dn with l:=bg.put .emp 0 v},aB,g2,?_,rfl,⟨fun i x hx=>?_,aW.h,aW.g⟩,bN,c5,eD⟩
      ·simp only[aq.at,bg.hV,if_true]
      ·simp only[bg.hV]at hx
       split at hx
       ·cases hx;exact fF
       ·simp[bg.get]at hx
     ·exact ov.elim
    ·exact ov.elim
   ·exact ai.elim
  ·exact ai.elim
 ·exact ai.elim
end
end Go.aO
