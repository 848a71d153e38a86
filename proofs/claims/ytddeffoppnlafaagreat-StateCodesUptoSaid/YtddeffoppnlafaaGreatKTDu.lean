/- TD, part Q: regions whose order is fixed. Conditions: none. -/
import Derived.Test.YtddeffoppnlafaaGreatKTDm2
namespace Go.aK
open Go
def zC(k:Nat):b1→List ck
 | .f1 .pA x=>[.d1 k .pA x]
 | .f1 (.kd c) x=>[.d1 k (.kd c) x]
 | .f1 .oJ x=>[.d1 k .oJ x]
 | .f2 (.kF .add .i64 .i64) x y=>[.d2 k (.kF .add .i64 .i64) x y]
 | .f2 (.qJ .lss .i64) x y=>[.d2 k (.qJ .lss .i64) x y]
 |_=>[]
def zD(k:Nat):List b1→List ck→List ck
 |[],g=>g
 |x::r,g=>zD (k+1) r (zC k x++g)
def ay.fA(S:ay)(k:Nat)(xs:List b1):ay:={S with k:=k+xs.length,g:=zD k xs S.g}
inductive Hd where
 |yes
 |no
 |on (gs:List (af × Bool))
 |bad
def xf(l:List ck)(b:Bool):af→Hd
 | .cs (.bool c)=>match decide (c=b)with
  |true=>.yes
  |false=>.no
 | .tp _=>.no
 | .gv h c v=>match h.rt with
  |some .bool=>match xf l b v with
   | .yes=>.on [(h,c)]
   | .no=>.no
   | .on gs=>.on ((h,c)::gs)
   | .bad=>.bad
  |_=>.bad
 |g=>match g.rt,mF g l with
  |some .bool,some c=>match decide (c=b)with
   |true=>.yes
   |false=>.no
  |some .bool,none=>.on [(g,b)]
  |_,_=>.bad
def guardOf(N:Nat)(ops:Array Oper)(S:ay)(o:Oper):Hd:=
 match o.guard with
 |none=>.yes
 |some (j,b)=>match mQ ops j with
  |some d=>match Nat.blt d N with
   |true=>xf S.g b ((S.at d).res S.g)
   |false=>.bad
  |none=>.bad
def iD:List (af × Bool)→List ck→List ck
 |[],l=>l
 |(g,b)::r,l=>.eL g b::iD r l
def r8:List (af × Bool)→gE→gE
 |[],n=>n
 |(g,b)::r,n=>.TR g b (r8 r n)
def ng(k:Nat):List (af × Bool)→Bool
 |[]=>true
 |(g,_)::r=>g.lt k&&ng k r
def gz(e:Env):List (af × Bool)→Bool
 |[]=>true
 |(g,b)::r=>(g.aN e .bool==b)&&gz e r
def NU(P:Program)(B:Nat)(S:ay)(t:TypeId)(x:af):Option dL:=
 match x.rt,isStr P t&&Nat.ble B S.n with
 |some .str,true=>some ⟨[],[],none,(S.n,.it .st x (.cs (.int .i64 0)))::S.h,S.n+1,.ie S.n⟩
 |_,_=>none
def He(P:Program)(N B:Nat)(T:List (Nat × bX))(S:ay)(o:Oper):Option dL:=
 match o.op with
 | .alloc t=>M8 P B S t
 | .box t x=>M9 B S t (S.a1 N x)
 | .store t p x=>Na P S t (S.a1 N p) (S.a1 N x)
 | .buildSlice t len ps=>match Nk P N B T S t len ps.toList with
  |some r=>some r
  |none=>match Nl P B T S t len ps.toList with
   |some r=>some r
   |none=>match Nj P N T S t len ps.toList with
    |some r=>some r
    |none=>Nn P N B S t len ps.toList
 | .makeSlice t x y=>No P B T S t (S.a1 N x) (S.a1 N y)
 | .range t x=>NU P B S t (S.a1 N x)
 | .makeMap t none=>NS P B T S t
 | .mapUpdate t m x y=>NT P T S t (S.a1 N m) (S.a1 N x) (S.a1 N y)
 | .call c=>match c.callee,c.args.toList,c.argTypes.toList with
  | .builtin .append,[x,y],[t,bh]=>match Nat.beq t bh with
   |true=>Nq P B S t (S.a1 N x) (S.a1 N y)
   |false=>Nr P B S t bh (S.a1 N x) (S.a1 N y)
  |_,_,_=>none
 |_=>none
structure r9 where
 xs:List b1
 g:af
 h:List (Nat × bQ)
 v:af
 bu:af
def U0(S:ay)(x:af):Option r9:=
 match x with
 | .ie id=>match dK S.h id with
  |some (.it .st s p)=>match s.rt,p.rt with
   |some .str,some (.int .i64)=>some ⟨[.f2 .Cv s p,.f2 .Cw s p,.f2 .Cx s p,.f2 .Cy s p],.bs .bool S.k,kG S.h id (.it .st s (.bs (.int .i64) (S.k+3))),
    .tp [.cs (.bool true),.bs (.int .i64) (S.k+1),.bs (.int .i32) (S.k+2)],.tp [.cs (.bool false)]⟩
   |_,_=>none
  |_=>none
 |_=>none
def NV(N:Nat)(S:ay)(o:Oper):Option r9:=
 match o.op with
 | .next x true=>U0 S (S.a1 N x)
 |_=>none
def r9.ok(q:r9)(S:ay):Bool:=(iC S.k q.xs&&q.g.lt (S.k+q.xs.length))&&(fu (S.k+q.xs.length) q.h&&(q.v.lt (S.k+q.xs.length)&&q.bu.lt (S.k+q.xs.length)))
def r9.st(q:r9)(S:ay)(dst:Option Nat):ay:=(ay.put {S.fA S.k q.xs with h:=q.h,g:=.eL q.g true::(S.fA S.k q.xs).g} dst q.v).G9
def r9.zE(q:r9)(S:ay)(dst:Option Nat):ay:=(ay.put {S.fA S.k q.xs with g:=.eL q.g false::(S.fA S.k q.xs).g} dst q.bu).G9
def bQ.kind:bQ→bQ→Bool
 | .dY _ _,.dY _ _=>true
 | .rw _ c _,.rw _ d _=>Nat.beq (du c) (du d)
 | .it _ _ _,.it _ _ _=>true
 |_,_=>false
def C0(n:Nat)(aS:List (Nat × bQ)):List (Nat × bQ)→Bool
 |[]=>true
 |(id,o)::r=>(match Nat.blt id n with
  |true=>match dK aS id with
   |some cb=>bQ.kind cb o
   |none=>false
  |false=>true)&&C0 n aS r
mutual
def af.tw(n:Nat):af→Bool
 | .cA l=>af.vd n l
 | .tp l=>af.vd n l
 | .eV k _=>Nat.blt k n
 | .hW k _ _=>Nat.blt k n
 | .ia k _ _ _=>Nat.blt k n
 | .aq k=>Nat.blt k n
 | .cE k _=>Nat.blt k n
 | .fQ _ (some k) _=>Nat.blt k n
 | .fn _ a b=>af.vd n a&&af.vd n b
 | .ie k=>Nat.blt k n
 | .gv _ _ x=>af.tw n x
 |_=>true
def af.vd(n:Nat):List af→Bool
 |[]=>true
 |x::r=>af.tw n x&&af.vd n r
end
def pK(n:Nat):List (Nat × bQ)→Bool
 |[]=>true
 |(id,.dY _ l)::r=>Nat.blt id n&&(af.vd n l&&pK n r)
 |(id,.rw _ _ _)::r=>Nat.blt id n&&pK n r
 |(id,.it _ _ _)::r=>Nat.blt id n&&pK n r
def ay.back(S:ay)(dst:Option Nat)(C:ay):ay:=(⟨S.l,C.h,C.n,C.k,C.g⟩:ay).put dst (C.at 0)
def xg(S C:ay):Bool:=(af.tw C.n (C.at 0)&&pK C.n C.h)&&(Nat.ble S.n C.n&&C0 S.n S.h C.h)
def sa(S:ay)(dst:Option Nat)(C:ay):aH:=
 match xg S C with
 |true=>.dc .b8 (S.back dst C)
 |false=>.bad 34
def NW(C:ay):List af→List af→Nat→Option (Nat × Nat × Nat)
 | .aq k::r,.aq m::eG,off=>match Nat.beq k m,dK C.h k,dK C.h m with
  |false,none,some (.rw _ _ _)=>some (off,k,m)
  |_,_,_=>NW C r eG (off+1)
 |_::r,_::eG,off=>NW C r eG (off+1)
 |_,_,_=>none
def Hf(C:ay):List (Nat × bQ)→Option (Nat × Nat × Nat × Nat)
 |[]=>none
 |(id,.dY _ zfE)::r=>match dK C.h id with
  |some (.dY _ l)=>match NW C zfE l 0 with
   |some (off,k,m)=>some (id,off,k,m)
   |none=>Hf C r
  |_=>Hf C r
 |_::r=>Hf C r
def Hg(m:Nat):Option af→Bool
 |some (.aq j)=>Nat.beq j m
 |_=>false
def zF(B id off k m:Nat)(C:ay):ay:=
 match dK C.h id,dK C.h m with
 |some (.dY t l),some (.rw hX c x)=>match Hg m (l[off]?)&&((Nat.ble B k&&Nat.blt k C.n)&& !(Nat.beq id k))with
  |true=>⟨(C.l.map (af.kill m)).map (af.kill k),kG ((k,.rw hX c x)::jj k (jj m C.h)) id (.dY t ((af.eM k (af.eM m l)).set off (.aq k))),C.n,C.k,C.g⟩
  |false=>C
 |_,_=>C
def tx(B:Nat)(S C:ay):ay:=
 match Hf C S.h with
 |some (id,off,k,m)=>zF B id off k m C
 |none=>C
def NY(B:Nat)(C:ay):List (Nat × bQ)→Option Nat
 |[]=>none
 |(id,.rw _ _ _)::r=>match dK C.h id,Nat.ble B id with
  |none,true=>some id
  |_,_=>NY B C r
 |_::r=>NY B C r
def ve(B d k m:Nat)(C:ay):ay:=
 match dK C.h m with
 |some (.rw hX c x)=>match Hg m (C.l.get d)&&(Nat.ble B k&&Nat.blt k C.n)with
  |true=>ay.put ⟨(C.l.map (af.kill m)).map (af.kill k),(k,.rw hX c x)::jj k (jj m C.h),C.n,C.k,C.g⟩ (some d) (.aq k)
  |false=>C
 |_=>C
def tz(B N:Nat)(S C:ay)(dst:Option Nat):ay:=
 match dst with
 |some d=>match C.l.get d,NY B C S.h with
  |some (.aq m),some k=>match Nat.ble S.n m&&Nat.blt d N with
   |true=>match Nat.blt d N with
    |true=>ve B d k m C
    |false=>C
   |false=>C
  |_,_=>C
 |none=>C
def zG(P:Program)(N:Nat)(S:ay)(o:Oper):Option (Nat × List af):=
 match o.op with
 | .call c=>match c.callee with
  | .value x=>match S.a1 N x with
   | .fn (.func f) p q=>some (f,p++c.args.toList.map (S.a1 N)++q)
   |_=>none
  | .invoke x name=>match S.a1 N x with
   | .ei t a rs l=>match methodOf P t name,tq a l,decide (qU l=some rs)with
    |some f,some v,true=>some (f,[v]++c.args.toList.map (S.a1 N)++[])
    |_,_,_=>none
   |_=>none
  |_=>none
 |_=>none
def af.vf(id:Nat)(x y:af):af:=
 match y with
 | .aq j=>match Nat.beq j id with
  |true=>x
  |false=>.aq j
 |y=>af.kill id y
def af.vg(id:Nat)(x y:af):af:=
 match y with
 | .cA l=>.cA (l.map (af.vf id x))
 |y=>af.vf id x y
def af.qE(id:Nat)(x y:af):af:=
 match y with
 | .tp l=>.tp (l.map (af.vg id x))
 |y=>af.vg id x y
def Hh(id:Nat)(x:af)(S:ay):ay:=⟨S.l.map (af.qE id x),jj id S.h,S.n,S.k,S.g⟩
def af.U1(c:bX)(x:af):Bool:=
 match x.rt with
 |some r=>iW r (.li c)
 |none=>false
def q2(S:ay)(id:Nat):ay:=
 match dK S.h id with
 |some (.rw _ c x)=>match x.U1 c with
  |true=>Hh id x S
  |false=>S
 |_=>S
def jV:List af→ay→ay
 |[],S=>S
 | .aq id::r,S=>jV r (q2 S id)
 |_::r,S=>jV r S
def U2(f:Nat):List Nat→Bool
 |[]=>false
 |g::r=>Nat.beq g f||U2 f r
def zH:List af→List af
 |[]=>[]
 | .aq j::r=>.aq j::zH r
 | .cA l::r=>l.filter (fun y=>match y with
  | .aq _=>true
  |_=>false)++zH r
 |_::r=>zH r
def preB(P:Program)(N:Nat)(S:ay)(o:Oper):Option (List af):=
 match o.op with
 | .call _=>match o.guard with
  |some _=>none
  |none=>match zG P N S o with
   |some (f,aI)=>match U2 f zdJ with
    |true=>some aI
    |false=>none
   |none=>none
 | .buildSlice _ _ ps=>match o.guard with
  |some _=>none
  |none=>match zH (ps.toList.map fun q=>S.a1 N q.2)with
   |[]=>none
   |l=>some l
 |_=>none
def C1(f:cB)(x:af):List ck→Option Nat
 |[]=>none
 | .d1 j g y::r=>match decide (g=f)&&ej y x with
  |true=>some j
  |false=>C1 f x r
 |_::r=>C1 f x r
def NZ(S:ay)(r:ee):Option (aX × Nat):=
 match r.xs,r.ns,r.v with
 |[.f1 f x],[],.bs t k=>match Nat.beq k S.k with
  |true=>match C1 f x S.g with
   |some j=>match Nat.blt j S.k with
    |true=>some (t,j)
    |false=>none
   |none=>none
  |false=>none
 |_,_,_=>none
def U3(f:fN)(a b:Int):Option af:=
 match f with
 | .kF .add .i64 .i64=>some (.cs (.int .i64 (dw .add .i64 a b)))
 | .kF .sub .i64 .i64=>some (.cs (.int .i64 (dw .sub .i64 a b)))
 | .kF .mul .i64 .i64=>some (.cs (.int .i64 (dw .mul .i64 a b)))
 | .qJ op .i64=>some (.cs (.bool (Cu op a b)))
 |_=>none
def N0(S:ay)(r:ee):Option af:=
 match r.xs,r.ns,r.v with
 |[.f2 f (.cs (.int .i64 a)) (.cs (.int .i64 b))],[],.bs t k=>match Nat.beq k S.k&&iW t f.c with
  |true=>U3 f a b
  |false=>none
 |_,_,_=>none
def N1(o:Oper):Nat:=
 match o.op with
 | .pick _ _ _=>1
 | .alloc _=>2
 | .box _ _=>3
 | .build _ _=>4
 | .buildSlice _ _ _=>5
 | .insert _ _ _ _=>6
 | .load _ _=>7
 | .store _ _ _=>8
 | .nilCheck _=>9
 | .binOp _ _ _ _ _=>10
 | .unOp _ _ _=>11
 | .convert _ _ _=>12
 | .makeInterface _ _=>13
 | .makeFunc _ _ _=>14
 | .makeMap _ _=>15
 | .makeSlice _ _ _=>16
 | .slice _ _ _ _ _=>17
 | .fieldAddr _ _ _=>18
 | .field _ _ _=>19
 | .indexAddr _ _ _=>20
 | .index _ _ _=>21
 | .lookup _ _ _ _=>22
 | .mapUpdate _ _ _ _=>23
 | .call c=>match c.callee with
  | .builtin .append=>30
  | .builtin .len=>31
  | .builtin .copy=>32
  | .builtin _=>33
  | .value _=>34
  |_=>35
 | .range _ _=>40
 | .next _ _=>41
 | .extract _ _=>42
 |_=>50
def exec(P:Program)(N B:Nat)(T:List (Nat × bX))(inl:Nat→List af→ay→aH)(o:Oper)(S:ay)(k:ay→aH):aH:=
 match r3 P N S o with
 |some r=>match iC S.k r.xs&&r.v.lt (S.k+r.xs.length)with
  |true=>match NZ S r with
   |some (t,j)=>k (S.put o.dst (.bs t j))
   |none=>match N0 S r with
    |some v=>k (S.put o.dst v)
    |none=>emit S.k r.xs r.ns (k ((S.fA S.k r.xs).put o.dst r.v))
  |false=>.bad 30
 |none=>match He P N B T S o with
  |some r=>match iC S.k r.xs&&(r.v.lt (S.k+r.xs.length)&&fu (S.k+r.xs.length) r.h)with
   |true=>emit S.k r.xs r.ns (k ((r.st S o.dst).fA S.k r.xs))
   |false=>.bad 31
  |none=>match NV N S o with
   |some q=>match q.ok S with
    |true=>emit S.k q.xs [] (.it q.g (k (q.st S o.dst)) (k (q.zE S o.dst)))
    |false=>.bad 33
   |none=>match zG P N S o with
    |some (f,aI)=>match nr P f with
     |true=>l6 N S ((inl f aI S).eW (sa S o.dst) none) fun C=>k (tz B N S (tx B S C) o.dst)
     |false=>.bad 32
    |none=>.bad (100+N1 o)
def Hi(g:af)(b:Bool)(x y:aH):aH:=
 match b with
 |true=>.it g x y
 |false=>.it g y x
def vh(y:List ck→aH):List (af × Bool)→aH→List ck→aH
 |[],x,_=>x
 |(g,b)::r,x,l=>Hi g b (vh y r x (.eL g b::l)) (y (.eL g (!b)::l))
def tA(S:ay)(dst:Option Nat)(l:List ck):aH:=.dc .b8 (ay.put {S with g:=l} dst (.tp []))
def jk(P:Program)(N B:Nat)(T:List (Nat × bX))(inl:Nat→List af→ay→aH)(ops:Array Oper):List Oper→ay→aH
 |[],S=>.dc .b8 S
 |o::r,S=>match guardOf N ops S o with
  | .yes=>match preB P N S o with
   |some aI=>exec P N B T inl o (jV aI S) (jk P N B T inl ops r)
   |none=>exec P N B T inl o S (jk P N B T inl ops r)
  | .no=>jk P N B T inl ops r (S.put o.dst (.tp []))
  | .on gs=>match ng S.k gs with
   |true=>match r3 P N {S with g:=iD gs S.g} o with
    |some q=>match iC S.k q.xs&&q.v.lt (S.k+q.xs.length)with
     |true=>emit S.k q.xs (q.ns.map (r8 gs)) (jk P N B T inl ops r ((S.fA S.k q.xs).put o.dst (lC gs q.v)))
     |false=>.bad 35
    |none=>r6 N S o.dst gs (vh (tA S o.dst) gs (exec P N B T inl o {S with g:=iD gs S.g} (.dc .b8)) S.g) (jk P N B T inl ops r)
   |false=>.bad 36
  | .bad=>.bad 37
section
variable {P:Program} {G:aR} {N B:Nat} {M:List bo} {T:List (Nat × bX)} {inl:Nat→List af→ay→aH}
theorem zfF{S:ay}{o:Oper}{t:TypeId}{x:Operand}{r:dL}(au:o.op= .range t x)(h:NU P B S t (S.a1 N x)=some r):nU P G N B M o S r:=fun e hf hx hn=>by
 unfold NU at h
 split at h
 ·rename_i w8 hc
  cases h;simp only[Bool.and_eq_true]at hc
  have kI:aP G (S.den G N B e) x= .ad (.v (.string ((S.a1 N x).aN e .str))):=by rw[bR hf];exact gP w8
  have:=Rg (P:=P) (G:=G) (s:=S.den G N B e) t x au (sE hc.1) kI (Nat.le_of_ble_eq_true hc.2)
  unfold dL.st;rw[fL];exact this
 ·cases h
theorem zfG{S:ay}{o:Oper}{q:r9}{e:Env}(h:NV N S o=some q)(hf:S.cP e)(hx: ∀(j:Nat) (x:b1),q.xs[j]? =some x→Env.at e (S.k+j)=x.den M e):
 (q.g.aN e .bool=true→ep P G o (S.den G N B e) ((ay.put {S with h:=q.h} o.dst q.v).den G N B e))∧(q.g.aN e .bool=false→ep P G o (S.den G N B e) ((S.put o.dst q.bu).den G N B e)):=by
 unfold NV at h
 split at h
 ·rename_i x au
  unfold U0 at h
  split at h
  ·rename_i id az
   split at h
   ·rename_i s p ai
    split at h
    ·rename_i ab ae
     cases h
     have kI:aP G (S.den G N B e) x= .ref id:=by rw[bR hf,az];rfl
     have bf:aE (S.den G N B e).heap id=some (.bI (rm (s.aN e .str) (Int.toNat (p.aN e (.int .i64))))):=by
      show aE (c6 G e S.h) id=_;rw[e7,ai];rfl
     have x0:=hx 0 _ rfl
     have a7:=hx 1 _ rfl
     have zI:=hx 2 _ rfl
     have U4:=hx 3 _ rfl
     simp only[b1.den,fN.den,Nat.add_zero]at x0 a7 zI U4
     have va:(af.bs .bool S.k).aN e .bool=decide (Int.toNat (p.aN e (.int .i64))<ByteArray.size (s.aN e .str)):=by
      simp only[af.aN,af.gw,af.dyn,x0,c3]
     refine⟨fun aJ=>?_,fun aJ=>?_⟩
     ·rw[va]at aJ
      have:=Rc (P:=P) (G:=G) (s:=S.den G N B e) x au kI bf (of_decide_eq_true aJ) (c:=(Utf8.decode (s.aN e .str) (Int.toNat (p.aN e (.int .i64)))).1) (k:=(Utf8.decode (s.aN e .str) (Int.toNat (p.aN e (.int .i64)))).2) rfl
      rw[fL]
      have aV:(({S with h:=kG S.h id (.it .st s (.bs (.int .i64) (S.k+3)))}:ay).den G N B e)={S.den G N B e with heap:=eA (S.den G N B e).heap id (.bI (rm (s.aN e .str) (Int.toNat (p.aN e (.int .i64))+(Utf8.decode (s.aN e .str) (Int.toNat (p.aN e (.int .i64)))).2)))}:=by
       simp only[ay.den,u4,bQ.den]
       congr 3
       simp only[af.aN,af.gw,af.dyn,U4,c3];rfl
      rw[aV]
      have zfH:(af.tp [.cs (.bool true),.bs (.int .i64) (S.k+1),.bs (.int .i32) (S.k+2)]).den G e= .tuple [.ad (.v (.bool true)),.ad (.v (.int .i64 ((Int.toNat (p.aN e (.int .i64)):Nat):Int))),.ad (.v (.int .i32 (((Utf8.decode (s.aN e .str) (Int.toNat (p.aN e (.int .i64)))).1:Nat):Int)))]:=by
       simp only[af.den,af.b0,a7,zI,c3,gr,lv]
      rw[zfH];exact this
     ·rw[va]at aJ
      have:=Re (P:=P) (G:=G) (s:=S.den G N B e) x au kI bf (Nat.le_of_not_lt (of_decide_eq_false aJ))
      rw[fL];exact this.step
    ·cases h
   ·cases h
  ·cases h
 ·cases h
theorem U5{S:ay}{o:Oper}{r:dL}(h:He P N B T S o=some r):nU P G N B M o S r:=by
 unfold He at h
 split at h
 ·exact ze7 (by assumption) h
 ·exact ze8 (by assumption) h
 ·exact zfa (by assumption) h
 ·split at h
  ·rename_i aG
   cases h;exact zfk (by assumption) aG
  ·split at h
   ·rename_i aG
    cases h;exact zfj (by assumption) aG
   ·split at h
    ·rename_i aG
     cases h;exact zfh (by assumption) aG
    ·exact zfl (by assumption) h
 ·exact zfm (by assumption) h
 ·exact zfF (by assumption) h
 ·exact zfC (by assumption) h
 ·exact zfD (by assumption) h
 ·rename_i c au
  split at h
  ·rename_i x y t bh hc hx aJ
   split at h
   ·rename_i ag
    have:=Nat.eq_of_beq_eq_true ag
    subst this;obtain⟨callee,args,ts⟩:=c;simp only at hc hx aJ;rw[hc,Cj hx,Cj aJ]at au;exact zfp au h
   ·obtain⟨callee,args,ts⟩:=c
    simp only at hc hx aJ;rw[hc,Cj hx,Cj aJ]at au;exact zfq au h
  ·cases h
 ·cases h
theorem vi{g:af}{a b:aH}{e:Env}{v:Bool}(h:g.aN e .bool=v):run M (.it g a b) e=match v with|true=>run M a e|false=>run M b e:=by
 simp only[run,aH.fold,h]
 cases v<;>rfl
def C2:cf→Exit→Prop
 | .b8,.normal=>True
 | .ext n,.exit m=>n=m
 | .ret,.ret=>True
 |_,_=>False
def kL(G:aR)(N B:Nat)(M:List bo)(t:aH)(e:Env)(aW:Nat):Exit→aQ→Prop:=fun ex st=>
 ∃x bP aF,run M t e=some (x,bP,aF)∧C2 x ex∧bV st (bP.den G N B aF)∧bP.cO∧bP.cP aF∧cp aW e aF∧aW≤bP.k
theorem kL.sub{t bh:aH}{e aF:Env}{k a8:Nat}{ex:Exit}{st:aQ}(h:kL G N B M bh aF a8 ex st)(ah:run M t e=run M bh aF)(a6:cp k e aF)(an:k≤a8):kL G N B M t e k ex st:=by
 obtain⟨x,bP,bg,ab,ae,aw,aM,bn,cl,dW⟩:=h
 exact⟨x,bP,bg,ah.trans ab,ae,aw,aM,bn,cp.trans a6 cl an,Nat.le_trans an dW⟩
theorem U6{x:cf}{ex:Exit}(h:C2 x ex)(n:Nat):x.b6 n=false:=by
 cases x with
 |mE m=>cases ex<;>cases h
 |_=>rfl
def gV(P:Program)(G:aR)(M:List bo)(inl:Nat→List af→ay→aH):Prop:=
 ∀f aI (S:ay) e,S.cO→af.cW S.k aI=true→S.cP e→(inl f aI S).safe M e→
  eJ P G f (af.b0 G e aI) (c6 G e S.h) S.n fun r cc=>∃C aF,run M (inl f aI S) e=some (.b8,C,aF)∧r=(C.at 0).den G aF∧cc=c6 G aF C.h∧C.cO∧C.cP aF∧cp S.k e aF∧S.k≤C.k
theorem zfI{e:Env}{k:Nat}{x:b1}(h:Env.at e k=x.den M e): ∀c∈zC k x,c.ok e:=fun c hc=>by
 unfold zC at hc
 split at hc
 ·rw[List.mem_singleton]at hc;subst hc;exact h
 ·rw[List.mem_singleton]at hc;subst hc;exact h
 ·rw[List.mem_singleton]at hc;subst hc;exact h
 ·rw[List.mem_singleton]at hc;subst hc;exact h
 ·rw[List.mem_singleton]at hc;subst hc;exact h
 ·cases hc
theorem zfJ{k:Nat}{x:b1}(h:x.lt k=true):fR (k+1) (zC k x)=true:=by
 have ag:Nat.blt k (k+1)=true:=l1 (Nat.lt_succ_self k)
 unfold zC
 split
 ·simp only[fR,ck.lt,ag,hE (Nat.le_succ k) (x:=_) h,Bool.and_self]
 ·simp only[fR,ck.lt,ag,hE (Nat.le_succ k) (x:=_) h,Bool.and_self]
 ·simp only[fR,ck.lt,ag,hE (Nat.le_succ k) (x:=_) h,Bool.and_self]
 ·simp only[b1.lt,Bool.and_eq_true]at h
  simp only[fR,ck.lt,ag,hE (Nat.le_succ k) h.1,hE (Nat.le_succ k) h.2,Bool.and_self]
 ·simp only[b1.lt,Bool.and_eq_true]at h
  simp only[fR,ck.lt,ag,hE (Nat.le_succ k) h.1,hE (Nat.le_succ k) h.2,Bool.and_self]
 ·rfl
theorem U7{k:Nat}: ∀{a b:List ck},fR k a=true→fR k b=true→fR k (a++b)=true
 |[],_,_,h=>h
 |c::a,b,h,h'=>by
  simp only[fR,Bool.and_eq_true]at h;simp only[List.cons_append,fR,h.1,U7 h.2 h',Bool.and_self]
theorem U8{e:Env}: ∀{xs:List b1} {k:Nat} {g:List ck},(∀c∈g,c.ok e)→(∀(j:Nat) (x:b1),xs[j]? =some x→Env.at e (k+j)=x.den M e)→∀c∈zD k xs g,c.ok e
 |[],_,_,h,_=>h
 |x::r,k,g,h,hx=>by
  refine U8 (xs:=r) (k:=k+1) (fun c hc=>?_) fun j y aA=>?_
  ·rcases List.mem_append.1 hc with hc|hc
   ·exact zfI (hx 0 x (by simp)) c hc
   ·exact h c hc
  ·have:=hx (j+1) y (by simpa using aA)
   rw[show k+1+j=k+(j+1)by omega];exact this
theorem U9: ∀{xs:List b1} {k:Nat} {g:List ck},iC k xs=true→fR k g=true→fR (k+xs.length) (zD k xs g)=true
 |[],_,_,_,h=>h
 |x::r,k,g,av,h=>by
  simp only[iC,Bool.and_eq_true]at av
  have:=U9 (xs:=r) (k:=k+1) (g:=zC k x++g) av.2 (U7 (zfJ av.1) (qP (Nat.le_succ k) h))
  rw[List.length_cons,show k+(r.length+1)=k+1+r.length by omega]
  exact this
theorem tB{S:ay}{e:Env}{xs:List b1}(ag:S.cO)(hf:S.cP e)(av:iC S.k xs=true):
 (S.fA S.k xs).cO∧(S.fA S.k xs).cP (dP M e S.k xs)∧(S.fA S.k xs).den G N B (dP M e S.k xs)=S.den G N B e:=by
 have a6:cp S.k e (dP M e S.k xs):=la (Nat.le_refl _)
 refine⟨⟨fun i x hx=>hE (Nat.le_add_right _ _) (ag.l i x hx),w0 (Nat.le_add_right _ _) ag.h,U9 av ag.g⟩,U8 (jU a6 ag.g hf) (kJ av),?_⟩
 exact(l4 a6 ag:S.den G N B (dP M e S.k xs)=S.den G N B e)
theorem kM{S:ay}{dst:Option Nat}{v:af}(ag:S.cO)(az:v.lt S.k=true):(S.put dst v).cO:=by
 cases dst with
 |none=>exact ag
 |some d=>
  refine⟨fun i x hx=>?_,ag.h,ag.g⟩
  simp only[ay.put,bd.kl]at hx
  split at hx
  ·cases hx;exact az
  ·exact ag.l i x hx
theorem C3{e:Env}{f:cB}{x:af}{j:Nat}: ∀{l:List ck},C1 f x l=some j→(∀c∈l,c.ok e)→Env.at e j=⟨f.c,f.den (x.aN e f.a)⟩
 | .d1 i g y::r,h,hc=>by
  simp only[C1]at h
  split at h
  ·rename_i ag
   cases h;simp only[Bool.and_eq_true,decide_eq_true_eq]at ag
   have:=hc (.d1 j g y) (by simp)
   simp only[ck.ok]at this;rw[this,ag.1,ew ag.2]
  ·exact C3 h fun c hm=>hc c (by simp[hm])
 | .d2 _ _ _ _::r,h,hc=>C3 (l:=r) h fun c hm=>hc c (by simp[hm])
 | .rg _ _::r,h,hc=>C3 (l:=r) h fun c hm=>hc c (by simp[hm])
 | .eL _ _::r,h,hc=>C3 (l:=r) h fun c hm=>hc c (by simp[hm])
theorem zfK{S:ay}{r:ee}{t:aX}{j:Nat}{e:Env}(h:NZ S r=some (t,j))(hf:S.cP e)(av:iC S.k r.xs=true):(af.bs t j).den G e=r.v.den G (dP M e S.k r.xs)∧Nat.blt j S.k=true∧r.ns=[]:=by
 unfold NZ at h
 split at h
 ·rename_i f x bh k hx hn az
  split at h
  ·rename_i an
   split at h
   ·rename_i zki aj
    split at h
    ·rename_i bE
     cases h;refine⟨?_,bE,hn⟩
     have ab:=C3 aj hf
     have ae:=kJ (M:=M) (e:=e) av 0 (.f1 f x) (by rw[hx];rfl)
     rw[Nat.add_zero]at ae;rw[az,Nat.eq_of_beq_eq_true an];simp only[af.den];rw[ab,ae]
     have zfL:x.lt S.k=true:=by
      rw[hx]at av;simp only[iC,b1.lt,Bool.and_eq_true]at av;exact av.1
     simp only[b1.den];rw[fy (la (Nat.le_refl _)) zfL]
    ·cases h
   ·cases h
  ·cases h
 ·cases h
theorem zfM{S:ay}{r:ee}{v:af}{e:Env}(h:N0 S r=some v)(av:iC S.k r.xs=true):v.den G e=r.v.den G (dP M e S.k r.xs)∧v.lt S.k=true∧r.ns=[]:=by
 unfold N0 at h
 split at h
 ·rename_i f a b t k hx hn az
  split at h
  ·rename_i an
   simp only[Bool.and_eq_true]at an
   have ae:=kJ (M:=M) (e:=e) av 0 _ (by rw[hx];rfl)
   rw[Nat.add_zero]at ae;rw[az,Nat.eq_of_beq_eq_true an.1,iz an.2];unfold U3 at h
   split at h<;>first|cases h|skip
   all_goals
    refine⟨?_,rfl,hn⟩
    simp only[af.den,ae,b1.den,c3,af.aN,af.gw,af.dyn,fN.den];rfl
  ·cases h
 ·cases h
theorem kN{S:ay}{dst:Option Nat}{v:af}{e:Env}(hf:S.cP e):(S.put dst v).cP e:=by
 cases dst<;>exact hf
theorem kO{S:ay}{dst:Option Nat}{v:af}:(S.put dst v).k=S.k:=by cases dst<;>rfl
end
end Go.aK
namespace Go.aK
open Go
section
variable {P:Program} {G:aR} {N B:Nat} {M:List bo} {T:List (Nat × bX)} {inl:Nat→List af→ay→aH}
theorem c8.zfN{ops:Array Oper}{o:Oper}{rest:List Oper}{s:aQ}{Q:Exit→aQ→Prop}{A:aQ→Prop}(ai:eS ops s o=some true)
 (h: ∀(E:Entry) (a:Act) (w:World),Rel E G s a w→∀(K:Act→World→Prop) (Q:Exit→Act→World→Prop),(∀t,A t→∀bb w',Rel E G t bb w'→K bb w')→o.wp P a w K Q)(k: ∀t,A t→c8 P G ops Q rest t):c8 P G ops Q (o::rest) s:=
 fun E a w ah=>wpList_step fun _ hK=>by
  have aA:=mh ah ai
  simp only[aA,if_true];exact h E a w ah _ _ fun t aJ bb w' dF=>hK bb w' (k t aJ E bb w' dF)
mutual
theorem C4{n:Nat}{e:Env}: ∀{x:af},af.tw n x=true→iq n (x.den G e)=true:=fun {x} h=>by
 cases x with
 |cA l=>simp only[af.den,iq];exact zJ (l:=l) h
 |tp l=>simp only[af.den,iq];exact zJ (l:=l) h
 |fn f a b=>
  simp only[af.tw,Bool.and_eq_true]at h;simp only[af.den,iq,zJ h.1,zJ h.2,Bool.and_self]
 |eV k o=>simp only[af.den,iq];exact decide_eq_true (e9 h)
 |hW k x o=>simp only[af.den,iq];exact decide_eq_true (e9 (i:=k) h)
 |ia k o x n=>simp only[af.den,iq];exact decide_eq_true (e9 (i:=k) h)
 |cE k n=>simp only[af.den,iq];exact decide_eq_true (e9 (i:=k) h)
 |fQ g i o=>
  cases i with
  |none=>simp only[af.den];cases g.aN e .bool<;>rfl
  |some k=>
   have ab:decide (k<n)=true:=decide_eq_true (e9 (i:=k) h)
   simp only[af.den];cases g.aN e .bool
   ·rfl
   ·exact ab
 |aq k=>simp only[af.den,iq];exact decide_eq_true (e9 h)
 |ie k=>simp only[af.den,iq];exact decide_eq_true (e9 h)
 |gv g b x=>
  have:iq n (x.den G e)=true:=C4 h
  simp only[af.den]
  cases g.aN e .bool<;>cases b<;>first|exact this|rfl
 |m9 g o=>simp only[af.den];cases G g<;>rfl
 |_=>rfl
theorem zJ{n:Nat}{e:Env}: ∀{l:List af},af.vd n l=true→nL n (af.b0 G e l)=true:=fun {l} h=>by
 match l with
 |[]=>rfl
 |x::r=>
  simp only[af.vd,Bool.and_eq_true]at h;simp only[af.b0,nL,C4 h.1,zJ h.2,Bool.and_self]
end
theorem xh{n:Nat}{e:Env}: ∀{h:List (Nat × bQ)},pK n h=true→kU n (c6 G e h)=true
 |[],_=>rfl
 |(id,.dY t l)::r,h=>by
  simp only[pK,Bool.and_eq_true]at h;simp only[c6,bQ.den,kU,xh h.2.2,zJ h.2.1,decide_eq_true (e9 h.1),Bool.and_self]
 |(id,.rw t c x)::r,h=>by
  simp only[pK,Bool.and_eq_true]at h;simp only[c6,bQ.den,kU,xh h.2,decide_eq_true (e9 h.1),Bool.and_self]
 |(id,.it q x p)::r,h=>by
  simp only[pK,Bool.and_eq_true]at h;simp only[c6,bQ.den,kU,xh h.2,decide_eq_true (e9 h.1),Bool.and_self]
theorem Va: ∀{h:List (Nat × bQ)} {id:Nat} {o:bQ},dK h id=some o→(id,o)∈h
 |(i,p)::r,id,o,h=>by
  simp only[dK]at h
  split at h
  ·rename_i ag
   cases h;rw[Nat.eq_of_beq_eq_true ag];simp
  ·exact List.mem_cons_of_mem _ (Va h)
theorem Vb{n:Nat}{aS:List (Nat × bQ)}{e aF:Env}: ∀{h:List (Nat × bQ)},C0 n aS h=true→∀id o,id<n→aE (c6 G aF h) id=some o→∃cb,aE (c6 G e aS) id=some cb∧GN cb o:=by
 have key: ∀{h:List (Nat × bQ)},C0 n aS h=true→∀id nf,(id,nf)∈h→id<n→∃cb,dK aS id=some cb∧bQ.kind cb nf=true:=by
  intro h
  induction h with
  |nil=>intro _ _ _ hm;cases hm
  |cons p r aY=>
   obtain⟨j,q⟩:=p;intro an id nf hm bE;simp only[C0,Bool.and_eq_true]at an
   rcases List.mem_cons.1 hm with he|he
   ·cases he
    have ab:=an.1
    rw[l1 bE]at ab;simp only at ab
    split at ab
    ·rename_i cb au;exact⟨cb,au,ab⟩
    ·cases ab
   ·exact aY an.2 id nf he bE
 intro h an id o bE ai
 rw[e7]at ai
 cases ao:dK h id with
 |none=>rw[ao]at ai;cases ai
 |some nf=>
  rw[ao]at ai;cases ai;obtain⟨cb,ab,ae⟩:=key an id nf (Va ao) bE;refine⟨cb.den G e,by rw[e7,ab];rfl,?_⟩
  cases cb<;>cases nf<;>first|trivial|(cases ae;done)|exact Nat.eq_of_beq_eq_true ae
mutual
theorem vj(id:Nat){k:Nat}: ∀{x:af},x.lt k=true→(x.kill id).lt k=true:=fun {x} h=>by
 cases x with
 |cA l=>exact vk id (l:=l) h
 |tp l=>exact vk id (l:=l) h
 |fn f a b=>
  simp only[af.lt,Bool.and_eq_true]at h;simp only[af.kill,af.lt,Bool.and_eq_true];exact⟨vk id h.1,vk id h.2⟩
 |gv g b x=>
  simp only[af.lt,Bool.and_eq_true]at h;simp only[af.kill,af.lt,Bool.and_eq_true];exact⟨h.1,vj id h.2⟩
 |eV j o=>simp only[af.kill];split<;>first|rfl|exact h
 |hW j x o=>simp only[af.kill];split<;>first|rfl|exact h
 |ia j o x n=>simp only[af.kill];split<;>first|rfl|exact h
 |cE j n=>simp only[af.kill];split<;>rfl
 |fQ g i o=>
  cases i with
  |none=>exact h
  |some j=>simp only[af.kill];split<;>exact h
 |aq j=>simp only[af.kill];split<;>first|rfl|exact h
 |ie j=>simp only[af.kill];split<;>first|rfl|exact h
 |_=>exact h
theorem vk(id:Nat){k:Nat}: ∀{l:List af},af.cW k l=true→af.cW k (af.eM id l)=true:=fun {l} h=>by
 match l with
 |[]=>rfl
 |x::r=>
  simp only[af.cW,Bool.and_eq_true]at h;simp only[af.eM,af.cW,Bool.and_eq_true];exact⟨vj id h.1,vk id h.2⟩
end
theorem Vc{S:ay}{o:Oper}{r:dL}{e:Env}(ag:S.cO)(hf:S.cP e)(av:iC S.k r.xs=true)(az:r.v.lt (S.k+r.xs.length)=true)(aV:fu (S.k+r.xs.length) r.h=true):
 ((r.st S o.dst).fA S.k r.xs).cO∧((r.st S o.dst).fA S.k r.xs).cP (dP M e S.k r.xs):=by
 obtain⟨ct,a2,_⟩:=tB (M:=M) (G:=fun _=>none) (N:=0) (B:=0) ag hf av
 have ai:(r.st S o.dst).g=S.g:=by unfold dL.st;cases o.dst<;>rfl
 refine⟨⟨fun i x hx=>?_,?_,?_⟩,?_⟩
 ·have hx:(r.st S o.dst).l.get i=some x:=hx
  show x.lt (S.k+r.xs.length)=true
  have base: ∀x,(r.l S.l).get i=some x→x.lt (S.k+r.xs.length)=true:=fun x hx=>by
   unfold dL.l at hx
   split at hx
   ·exact hE (Nat.le_add_right _ _) (ag.l i x hx)
   ·rw[bd.get_map]at hx
    cases aG:S.l.get i with
    |none=>rw[aG]at hx;cases hx
    |some y=>
     rw[aG]at hx;cases hx;exact vj _ (hE (Nat.le_add_right _ _) (ag.l i y aG))
  unfold dL.st at hx
  cases hd:o.dst with
  |none=>rw[hd]at hx;exact base x hx
  |some d=>
   rw[hd]at hx;simp only[ay.put,bd.kl]at hx
   split at hx
   ·cases hx;exact az
   ·exact base x hx
 ·have:((r.st S o.dst).fA S.k r.xs).h=r.h:=by unfold dL.st ay.fA;cases o.dst<;>rfl
  rw[this];exact aV
 ·show fR (S.k+r.xs.length) (zD S.k r.xs (r.st S o.dst).g)=true
  rw[ai];exact ct.g
 ·show ∀c∈zD S.k r.xs (r.st S o.dst).g,_
  rw[ai];exact a2
theorem C5{k:Nat}: ∀{a b:List af},af.cW k a=true→af.cW k b=true→af.cW k (a++b)=true
 |[],_,_,h=>h
 |x::a,b,h,h'=>by
  simp only[af.cW,Bool.and_eq_true]at h;simp only[List.cons_append,af.cW,h.1,C5 h.2 h',Bool.and_self]
theorem N2{k:Nat}{x:af}(hx:x.lt k=true): ∀{l:List af} {i:Nat},af.cW k l=true→af.cW k (l.set i x)=true
 |[],_,h=>h
 |y::l,0,h=>by simp only[af.cW,Bool.and_eq_true,List.set]at h⊢;exact⟨hx,h.2⟩
 |y::l,i+1,h=>by simp only[af.cW,Bool.and_eq_true,List.set]at h⊢;exact⟨h.1,N2 hx h.2⟩
theorem Hj{k:Nat}{o:bQ}(au:o.lt k=true): ∀{l:List (Nat × bQ)} {i:Nat},fu k l=true→fu k (kG l i o)=true
 |[],_,_=>by simp only[kG,fu,au,Bool.and_self]
 |(j,x)::l,i,h=>by
  simp only[fu,Bool.and_eq_true]at h;simp only[kG]
  split
  ·simp only[fu,Bool.and_eq_true];exact⟨au,h.2⟩
  ·simp only[fu,Bool.and_eq_true];exact⟨h.1,Hj au h.2⟩
theorem zK{k id:Nat}{o:bQ}: ∀{l:List (Nat × bQ)},fu k l=true→dK l id=some o→o.lt k=true
 |[],_,h=>by cases h
 |(j,x)::l,av,h=>by
  simp only[fu,Bool.and_eq_true]at av;simp only[dK]at h
  split at h
  ·cases h;exact av.1
  ·exact zK av.2 h
theorem N3{e:Env}{x:af}: ∀{l:List af} {i:Nat},af.b0 G e (l.set i x)=(af.b0 G e l).set i (x.den G e)
 |[],_=>rfl
 |y::l,0=>rfl
 |y::l,i+1=>by simp only[List.set,af.b0,N3 (l:=l)]
theorem q3(id:Nat){k:Nat}: ∀{h:List (Nat × bQ)},fu k h=true→fu k (jj id h)=true
 |[],h=>h
 |(j,.dY t l)::r,h=>by
  simp only[fu,Bool.and_eq_true]at h;unfold jj
  split
  ·exact q3 id h.2
  ·simp only[fu,Bool.and_eq_true]
   exact⟨vk id h.1,q3 id h.2⟩
 |(j,.rw t c x)::r,h=>by
  simp only[fu,Bool.and_eq_true]at h;unfold jj
  split
  ·exact q3 id h.2
  ·simp only[fu,Bool.and_eq_true]
   exact⟨h.1,q3 id h.2⟩
 |(j,.it q x p)::r,h=>by
  simp only[fu,Bool.and_eq_true]at h;unfold jj
  split
  ·exact q3 id h.2
  ·simp only[fu,Bool.and_eq_true]
   exact⟨h.1,q3 id h.2⟩
theorem zfO{id off k m:Nat}{C:ay}{e:Env}(ag:C.cO)(hf:C.cP e):(zF B id off k m C).cO∧(zF B id off k m C).cP e∧(zF B id off k m C).k=C.k∧bV (C.den G N B e) ((zF B id off k m C).den G N B e):=by
 unfold zF
 split
 ·rename_i t l hX c x ai hm
  split
  ·rename_i hc
   simp only[Bool.and_eq_true,Bool.not_eq_true']at hc;obtain⟨aB,⟨bU,b7⟩,c2⟩:=hc;refine⟨⟨fun i y aA=>?_,Hj (o:=.dY t _) (N2 (x:=.aq k) rfl (vk _ (vk _ (zK (o:=.dY t l) ag.h ai)))) ?_,ag.g⟩,hf,rfl,?_⟩
   ·simp only[bd.get_map]at aA
    cases aG:C.l.get i with
    |none=>rw[aG]at aA;cases aA
    |some z=>
     rw[aG]at aA;simp only[Option.map_some,Option.some.injEq]at aA;subst aA;exact vj _ (vj _ (ag.l i z aG))
   ·have ab:=zK (o:=.rw hX c x) ag.h hm
    have ae:=q3 k (q3 m ag.h)
    simp only[fu,Bool.and_eq_true];exact⟨ab,ae⟩
   ·refine bV.zfd id off m k hX (du c) (t:=t) (cs:=af.b0 G e l) (es:=List.map (df c) (x.aN e (.li c))) (by simp only[ay.den,e7,ai,Option.map_some,bQ.den]) (by simp only[ay.den,e7,hm,Option.map_some,bQ.den]) ?_ (Nat.le_of_ble_eq_true bU) (e9 b7) (Nat.ne_of_beq_eq_false c2) ?_
    ·rw[fE,List.getElem?_map]
     unfold Hg at aB
     split at aB
     ·rename_i av
      rw[av]
      have:=Nat.eq_of_beq_eq_true aB
      subst this;rfl
     ·cases aB
    ·simp only[ay.den,zz,u4,c6,bQ.den,r5,N3,xb,af.den]
  ·exact⟨ag,hf,rfl,bV.refl _⟩
 ·exact⟨ag,hf,rfl,bV.refl _⟩
theorem Vd{S C:ay}{e:Env}(ag:C.cO)(hf:C.cP e):(tx B S C).cO∧(tx B S C).cP e∧(tx B S C).k=C.k∧bV (C.den G N B e) ((tx B S C).den G N B e):=by
 unfold tx
 split
 ·exact zfO ag hf
 ·exact⟨ag,hf,rfl,bV.refl _⟩
theorem bV.ve{s s':aQ}(d m k hX n:Nat){es:List (List aU)}(hm:aE s.heap m=some (.row false hX n es))(hc:s.db[d]? =some (.aq m))(ag:s.base≤k)(bE:k<s.next)
 (h:(aQ.put ⟨eM k (eM m s.db),(k,.row false hX n es)::ef k (ef m s.heap),s.next,s.base⟩ (some d) (.aq k):aQ)=s'):bV s s':=by
 subst h
 intro E G a w ⟨β,ro,ah⟩
 have Nh:=ah.heap.dq m _ hm
 have gh:=ah.Uw (w':=w) m k ag bE hm (.row false hX n es) (β m) rfl rfl rfl (Nat.le_refl _) (fun _ _ _=>rfl) (fun _ ag=>.inl ag) rfl (by
  cases Nh with
  |row _ _ _ xs ab ae aw=>exact .row hX n es xs (by rw[eT];exact ab) ae aw)
 have az:=ah.slot d _ hc
 have Ve:=gh.put (some d) (.aq k) (a.tmps.getD d undef) (by
  generalize a.tmps.getD d undef=aZ at az⊢
  cases az with
  |aq _ _ _ ar=>
   refine .aq _ _ bE fun z bh bL eD _=>?_
   rw[ar _ _ _ _ hm]
   exact(eT _ _ _).symm)
 have a6:a.put (some d) (a.tmps.getD d undef)=a:=by
  have hd:d<a.tmps.size:=by
   rw[ah.size];exact(List.getElem?_eq_some_iff.1 hc).1
  have:a.tmps.setIfInBounds d (a.tmps.getD d undef)=a.tmps:=by
   apply Array.ext
   ·simp
   ·intro i ab ae
    rw[Array.getElem_setIfInBounds]
    split
    ·rename_i hi
     subst hi;simp[Array.getD,hd]
    ·rfl
  show({a with tmps:=a.tmps.setIfInBounds d (a.tmps.getD d undef)}:Act)=a
  rw[this]
 rw[a6]at Ve
 exact⟨_,ro,Ve⟩
theorem zfP{d k m:Nat}{C:ay}{e:Env}(hd:d<N)(ag:C.cO)(hf:C.cP e):(ve B d k m C).cO∧(ve B d k m C).cP e∧(ve B d k m C).k=C.k∧bV (C.den G N B e) ((ve B d k m C).den G N B e):=by
 unfold Go.aK.ve
 split
 ·rename_i hX c x hm
  split
  ·rename_i hc
   simp only[Bool.and_eq_true]at hc;obtain⟨aB,bU,b7⟩:=hc;refine⟨kM ⟨fun i y aA=>?_,?_,ag.g⟩ rfl,kN hf,kO,?_⟩
   ·simp only[bd.get_map]at aA
    cases aG:C.l.get i with
    |none=>rw[aG]at aA;cases aA
    |some z=>
     rw[aG]at aA;simp only[Option.map_some,Option.some.injEq]at aA;subst aA;exact vj _ (vj _ (ag.l i z aG))
   ·have ab:=zK (o:=.rw hX c x) ag.h hm
    have ae:=q3 k (q3 m ag.h)
    simp only[fu,Bool.and_eq_true];exact⟨ab,ae⟩
   ·refine bV.ve d m k hX (du c) (es:=List.map (df c) (x.aN e (.li c))) (by simp only[ay.den,e7,hm,Option.map_some,bQ.den]) ?_ (Nat.le_of_ble_eq_true bU) (e9 b7) ?_
    ·unfold Hg at aB
     split at aB
     ·rename_i av
      have:=Nat.eq_of_beq_eq_true aB
      subst this;simp only[ay.den,pF,hd,if_true,Nat.zero_add,av,af.den]
     ·cases aB
    ·rw[fL]
     simp only[ay.den,zz,c6,bQ.den,r5,af.den]
  ·exact⟨ag,hf,rfl,bV.refl _⟩
 ·exact⟨ag,hf,rfl,bV.refl _⟩
theorem Vf{S C:ay}{dst:Option Nat}{e:Env}(ag:C.cO)(hf:C.cP e):(tz B N S C dst).cO∧(tz B N S C dst).cP e∧(tz B N S C dst).k=C.k∧bV (C.den G N B e) ((tz B N S C dst).den G N B e):=by
 unfold tz
 split
 ·split
  ·split
   ·split
    ·rename_i hd
     exact zfP (e9 hd) ag hf
    ·exact⟨ag,hf,rfl,bV.refl _⟩
   ·exact⟨ag,hf,rfl,bV.refl _⟩
  ·exact⟨ag,hf,rfl,bV.refl _⟩
 ·exact⟨ag,hf,rfl,bV.refl _⟩
theorem N4{o:Oper}{S:ay}{e:Env}{f:Nat}{aI:List af}(h:zG P N S o=some (f,aI))(hf:S.cP e)(ag:S.cO):
 ∃p q xs,af.b0 G e aI=p++xs.toList.map (aP G (S.den G N B e))++q∧p2 P G o (S.den G N B e) f p q xs∧af.cW S.k aI=true:=by
 have zL: ∀l:List Operand,af.cW S.k (l.map (S.a1 N))=true:=fun l=>by
  induction l with
  |nil=>rfl
  |cons y r aY=>simp only[List.map_cons,af.cW,Gs ag y,aY,Bool.and_self]
 unfold zG at h
 split at h
 ·rename_i c CK
  obtain⟨callee,args,ts⟩:=c
  split at h
  ·rename_i x hx
   simp only at hx;subst hx
   split at h
   ·rename_i Ji p iF w7
    cases h;refine⟨af.b0 G e p,af.b0 G e iF,args,?_,.value CK (by rw[bR hf,w7];rfl),?_⟩
    ·rw[fE,fE,fE,List.map_append,List.map_append,List.map_map]
     congr 2
     exact List.map_congr_left fun y _=>(bR hf y).symm
    ·have iM:=Gs (N:=N) ag x
     rw[w7]at iM;simp only[af.lt,Bool.and_eq_true]at iM;exact C5 (C5 iM.1 (zL _)) iM.2
   ·cases h
  ·rename_i x name hx
   simp only at hx;subst hx
   split at h
   ·rename_i t a rs l w7
    split at h
    ·rename_i g v hm az hl
     cases h;refine⟨[v.den G e],[],args,?_,.invoke CK hm fun E a w β ro ah=>zeX hf w7 az (of_decide_eq_true hl) ah,?_⟩
     ·simp only[fE,List.map_append,List.map_map,List.map_cons,List.map_nil]
      congr 2
      exact List.map_congr_left fun y _=>(bR hf y).symm
     ·have iM:=Gs (N:=N) ag x
      rw[w7]at iM;exact C5 (C5 (by simp only[af.cW,zeZ iM az,Bool.and_self]) (zL _)) rfl
    ·cases h
   ·cases h
  ·cases h
 ·cases h
theorem N5(cS:gV P G M inl){ops:Array Oper}{o:Oper}{r:List Oper}{S:ay}{k:ay→aH}{e:Env}{Q:Exit→aQ→Prop}(ag:S.cO)(hf:S.cP e)(hw:eS ops (S.den G N B e) o=some true)(ao:(exec P N B T inl o S k).safe M e)
 (an: ∀bP aF,bP.cO→bP.cP aF→cp S.k e aF→S.k≤bP.k→(k bP).safe M aF→run M (exec P N B T inl o S k) e=run M (k bP) aF→c8 P G ops Q r (bP.den G N B aF)):c8 P G ops Q (o::r) (S.den G N B e):=by
 have jW:=ao
 unfold exec at jW
 split at jW
 ·rename_i q az
  split at jW
  ·rename_i hc
   split at jW
   ·rename_i t j C6
    have dm:exec P N B T inl o S k=k (S.put o.dst (.bs t j)):=by unfold exec;rw[az];simp only[hc,C6]
    simp only[Bool.and_eq_true]at hc;obtain⟨br,dV,nE⟩:=zfK (M:=M) (G:=G) C6 hf hc.1
    have b4:cp S.k e (dP M e S.k q.xs):=la (Nat.le_refl _)
    have eC:=w9 (G:=G) (B:=B) (M:=M) az (dP M e S.k q.xs) (jU b4 ag.g hf) (kJ hc.1) (by rw[nE];intro n hn;cases hn)
    rw[l4 b4 ag,←br]at eC
    have oS:(S.den G N B e).put o.dst ((af.bs t j).den G e)=(S.put o.dst (.bs t j)).den G N B e:=by rw[fL]
    refine c8.step hw (oS ▸ eC.step) ?_
    exact an _ e (kM ag dV) (kN hf) (cp.refl _ _) (by rw[kO];exact Nat.le_refl _) jW (by rw[dm])
   rename_i C6
   split at jW
   ·rename_i v uo
    have dm:exec P N B T inl o S k=k (S.put o.dst v):=by unfold exec;rw[az];simp only[hc,C6,uo]
    simp only[Bool.and_eq_true]at hc;obtain⟨br,dV,nE⟩:=zfM (M:=M) (G:=G) (e:=e) uo hc.1
    have b4:cp S.k e (dP M e S.k q.xs):=la (Nat.le_refl _)
    have eC:=w9 (G:=G) (B:=B) (M:=M) az (dP M e S.k q.xs) (jU b4 ag.g hf) (kJ hc.1) (by rw[nE];intro n hn;cases hn)
    rw[l4 b4 ag,←br]at eC
    have oS:(S.den G N B e).put o.dst (v.den G e)=(S.put o.dst v).den G N B e:=by rw[fL]
    refine c8.step hw (oS ▸ eC.step) ?_
    exact an _ e (kM ag dV) (kN hf) (cp.refl _ _) (by rw[kO];exact Nat.le_refl _) jW (by rw[dm])
   rename_i uo
   have dm:exec P N B T inl o S k=emit S.k q.xs q.ns (k ((S.fA S.k q.xs).put o.dst q.v)):=by unfold exec;rw[az];simp only[hc,C6,uo]
   simp only[Bool.and_eq_true]at hc;obtain⟨hM,gK⟩:=nV jW;obtain⟨ct,a2,a3⟩:=tB (M:=M) (G:=G) (N:=N) (B:=B) ag hf hc.1
   have b4:cp S.k e (dP M e S.k q.xs):=la (Nat.le_refl _)
   have eC:=w9 (G:=G) (B:=B) (M:=M) az (dP M e S.k q.xs) (jU b4 ag.g hf) (kJ hc.1) hM
   rw[l4 b4 ag]at eC
   have oS:(S.den G N B e).put o.dst (q.v.den G (dP M e S.k q.xs))=((S.fA S.k q.xs).put o.dst q.v).den G N B (dP M e S.k q.xs):=by rw[fL,a3]
   refine c8.step hw (oS ▸ eC.step) ?_
   exact an _ _ (kM ct hc.2) (kN a2) b4 (by rw[kO];exact Nat.le_add_right _ _) gK (by rw[dm,nd])
  ·exact jW.elim
 ·rename_i az
  split at jW
  ·rename_i q aG
   split at jW
   ·rename_i hc
    have dm:exec P N B T inl o S k=emit S.k q.xs q.ns (k ((q.st S o.dst).fA S.k q.xs)):=by unfold exec;rw[az,aG];simp only[hc]
    simp only[Bool.and_eq_true]at hc;obtain⟨hM,gK⟩:=nV jW
    have b4:cp S.k e (dP M e S.k q.xs):=la (Nat.le_refl _)
    have eC:=U5 (G:=G) (M:=M) aG (dP M e S.k q.xs) (jU b4 ag.g hf) (kJ hc.1) hM
    rw[l4 b4 ag]at eC;obtain⟨br,dV⟩:=Vc (M:=M) (o:=o) ag hf hc.1 hc.2.1 hc.2.2;refine c8.step hw eC ?_
    have sD:S.k≤((q.st S o.dst).fA S.k q.xs).k:=Nat.le_add_right _ _
    exact an ((q.st S o.dst).fA S.k q.xs) _ br dV b4 sD gK (by rw[dm,nd])
   ·exact jW.elim
  ·rename_i aG
   split at jW
   ·rename_i q rK
    split at jW
    ·rename_i hc
     have dm:exec P N B T inl o S k=emit S.k q.xs [] (.it q.g (k (q.st S o.dst)) (k (q.zE S o.dst))):=by unfold exec;rw[az,aG,rK];simp only[hc]
     simp only[r9.ok,Bool.and_eq_true]at hc;obtain⟨_,gK⟩:=nV jW
     have b4:cp S.k e (dP M e S.k q.xs):=la (Nat.le_refl _)
     obtain⟨ct,a2,a3⟩:=tB (M:=M) (G:=G) (N:=N) (B:=B) ag hf hc.1.1;obtain⟨br,dV⟩:=zfG (P:=P) (G:=G) (B:=B) rK (jU b4 ag.g hf) (kJ hc.1.1);rw[l4 b4 ag]at br dV
     have sD: ∀b,Nat.ble S.k (S.k+b)=true:=fun b=>Nat.ble_eq_true_of_le (Nat.le_add_right _ _)
     have cy:run M (exec P N B T inl o S k) e=run M (.it q.g (k (q.st S o.dst)) (k (q.zE S o.dst))) (dP M e S.k q.xs):=by rw[dm,nd]
     have eL: ∀b,q.g.aN (dP M e S.k q.xs) .bool=b→∀c∈(ck.eL q.g b::(S.fA S.k q.xs).g),c.ok (dP M e S.k q.xs):=fun b ai c hm=>by
      rcases List.mem_cons.1 hm with rfl|hm
      ·exact ai
      ·exact a2 c hm
     cases ai:q.g.aN (dP M e S.k q.xs) .bool with
     |true=>
      refine c8.step hw (br ai) ?_
      have pL:(q.st S o.dst).cO:=UW (kM (S:={S.fA S.k q.xs with h:=q.h,g:=.eL q.g true::(S.fA S.k q.xs).g}) ⟨ct.l,hc.2.1,by simp only[fR,ck.lt,Bool.and_eq_true];exact⟨hc.1.2,ct.g⟩⟩ hc.2.2.1)
      have fv:(q.st S o.dst).cP (dP M e S.k q.xs):=UX (kN (S:={S.fA S.k q.xs with h:=q.h,g:=.eL q.g true::(S.fA S.k q.xs).g}) (eL true ai))
      have hd:(ay.put {S with h:=q.h} o.dst q.v).den G N B (dP M e S.k q.xs)=(q.st S o.dst).den G N B (dP M e S.k q.xs):=by cases o.dst<;>rfl
      rw[hd];exact an _ _ pL fv b4 (by show S.k≤(ay.put _ _ _).k;rw[kO];exact Nat.le_add_right _ _) (gK.1 ai) (by rw[cy,vi ai])
     |false=>
      refine c8.step hw (dV ai) ?_
      have pL:(q.zE S o.dst).cO:=UW (kM (S:={S.fA S.k q.xs with g:=.eL q.g false::(S.fA S.k q.xs).g}) ⟨ct.l,ct.h,by simp only[fR,ck.lt,Bool.and_eq_true];exact⟨hc.1.2,ct.g⟩⟩ hc.2.2.2)
      have fv:(q.zE S o.dst).cP (dP M e S.k q.xs):=UX (kN (S:={S.fA S.k q.xs with g:=.eL q.g false::(S.fA S.k q.xs).g}) (eL false ai))
      have hd:(S.put o.dst q.bu).den G N B (dP M e S.k q.xs)=(q.zE S o.dst).den G N B (dP M e S.k q.xs):=by cases o.dst<;>rfl
      rw[hd];exact an _ _ pL fv b4 (by show S.k≤(ay.put _ _ _).k;rw[kO];exact Nat.le_add_right _ _) (gK.2 ai) (by rw[cy,vi ai])
    ·exact jW.elim
   rename_i rK
   split at jW
   ·rename_i f aI sG
    split at jW
    ·rename_i hJ
     have dm:exec P N B T inl o S k=l6 N S ((inl f aI S).eW (sa S o.dst) none) fun C=>k (tz B N S (tx B S C) o.dst):=by unfold exec;rw[az,aG,rK,sG];simp only[hJ]
     obtain⟨t1,_,t3⟩:=Ha (G:=G) (B:=B) ag hf jW;obtain⟨g1,g2,g3⟩:=jT (inl f aI S) none t1;obtain⟨p,iF,args,oS,oa,bE⟩:=N4 (G:=G) (B:=B) sG hf ag
     have gY:=cS f _ S e ag bE hf g1
     rw[oS]at gY
     refine c8.zfN (A:=fun t=>∃C aF,run M (inl f aI S) e=some (.b8,C,aF)∧C.cO∧C.cP aF∧cp S.k e aF∧S.k≤C.k∧xg S C=true∧t=(S.back o.dst C).den G N B aF) hw
      (Up oa hJ gY fun r cc ⟨C,aF,aB,bU,b7,c2,dT,fo,fh⟩=>?_) fun t ⟨C,aF,aB,c2,dT,fo,fh,bc,aJ⟩=>?_
     ·have ai:=(g3 C aF aB).1
      have bc:xg S C=true:=by
       unfold sa at ai
       split at ai
       ·assumption
       ·exact ai.elim
      have eH:=bc
      simp only[xg,Bool.and_eq_true]at eH;refine⟨C.n,Nat.le_of_ble_eq_true eH.2.1,?_,?_,?_,C,aF,aB,c2,dT,fo,fh,bc,?_⟩
      ·rw[bU];exact C4 eH.1.1
      ·rw[b7];exact xh eH.1.2
      ·rw[b7];exact Vb eH.2.2
      ·rw[bU,b7,ay.back,fL]
       have:=l4 (G:=G) (N:=N) (B:=B) fo ag
       have uP:ke G aF S.l 0 N=ke G e S.l 0 N:=congrArg aQ.db this
       simp only[ay.den,uP]
     ·subst aJ
      have ai:=(g3 C aF aB)
      have cy:run M ((inl f aI S).eW (sa S o.dst) none) e=some (.b8,S.back o.dst C,aF):=by
       rw[g2,aB];simp only[jB,sa,bc];rfl
      have pL:(S.back o.dst C).cO:=by
       unfold ay.back;refine kM ⟨fun i x hx=>hE fh (ag.l i x hx),c2.h,c2.g⟩ ?_
       show(C.at 0).lt C.k=true;unfold ay.at
       cases hQ:C.l.get 0 with
       |none=>rfl
       |some y=>exact c2.l 0 y hQ
      obtain⟨dr,bg,s1,s2,iQ,jf,jg,ku,nF⟩:=t3 _ _ cy pL (kN dT) fo (by unfold ay.back;rw[kO];exact fh)
      obtain⟨hM,gK,mS,N6⟩:=Vd (G:=G) (N:=N) (B:=B) (S:=S) s2 iQ;obtain⟨iP,lV,N7,pM⟩:=Vf (G:=G) (N:=N) (B:=B) (S:=S) (dst:=o.dst) hM gK;exact c8.le (bV.trans s1 (bV.trans N6 pM)) (an _ bg iP lV jf (by rw[N7,mS];exact jg) ku (by rw[dm,nF]))
    ·exact jW.elim
   ·exact jW.elim
def Vg(G:aR)(N B:Nat)(ops:Array Oper)(o:Oper)(S:ay)(e:Env):Hd→Prop
 | .yes=>eS ops (S.den G N B e) o=some true
 | .no=>eS ops (S.den G N B e) o=some false
 | .on gs=>(gz e gs=true→eS ops (S.den G N B e) o=some true)∧(gz e gs=false→eS ops (S.den G N B e) o=some false)
 | .bad=>True
def sb(b:Bool):aC→Option Bool
 | .ad (.v (.bool c))=>some (c==b)
 | .tuple _=>some false
 |_=>none
def Hk(G:aR)(b:Bool)(e:Env)(v:af):Hd→Prop
 | .yes=>sb b (v.den G e)=some true
 | .no=>sb b (v.den G e)=some false
 | .on gs=>(gz e gs=true→sb b (v.den G e)=some true)∧(gz e gs=false→sb b (v.den G e)=some false)
 | .bad=>True
theorem Vh{a b:Bool}(h:a=b):(a==b)=true:=by cases a<;>cases b<;>first|rfl|cases h
theorem Vi{a b:Bool}(h: ¬a=b):(a==b)=false:=by cases a<;>cases b<;>first|rfl|exact absurd rfl h
theorem mH{l:List ck}{b:Bool}{e:Env}(hf: ∀c∈l,c.ok e)(g:af):Hk G b e g (match g.rt,mF g l with
 |some .bool,some c=>match decide (c=b)with
  |true=>.yes
  |false=>.no
 |some .bool,none=>.on [(g,b)]
 |_,_=>.bad):=by
 split
 ·rename_i c ab ae
  have an:=rZ ae hf
  have hd:=gP (G:=G) (e:=e) ab
  rw[an]at hd
  cases hJ:decide (c=b)with
  |true=>show sb b (g.den G e)=some true;rw[hd];exact congrArg some (Vh (of_decide_eq_true hJ))
  |false=>show sb b (g.den G e)=some false;rw[hd];exact congrArg some (Vi (of_decide_eq_false hJ))
 ·rename_i ab ae
  have hd:=gP (G:=G) (e:=e) ab
  simp only[Hk,gz,Bool.and_true];rw[hd];exact⟨fun h=>congrArg some h,fun h=>congrArg some h⟩
 ·trivial
theorem zM{h:af}{c:Bool}{v:af}{e:Env}(hc:h.aN e .bool=c):(af.gv h c v).den G e=v.den G e:=by
 simp only[af.den,hc];cases c<;>rfl
theorem Vj{h:af}{c:Bool}{v:af}{e:Env}(hc:h.aN e .bool= !c):(af.gv h c v).den G e= .tuple []:=by
 simp only[af.den,hc];cases c<;>rfl
theorem Vk{l:List ck}{b:Bool}{e:Env}(hf: ∀c∈l,c.ok e): ∀v:af,Hk G b e v (xf l b v)
 | .gv h c v=>by
  have aY:=Vk (b:=b) hf v
  have N8:h.aN e .bool≠c→sb b ((af.gv h c v).den G e)=some false:=fun hn=>by
   rw[Vj (by cases aV:h.aN e .bool<;>cases c<;>first|rfl|exact absurd aV hn)]
   rfl
  simp only[xf]
  split
  ·cases ai:xf l b v with
   |yes=>
    rw[ai]at aY;refine⟨fun a6=>?_,fun a6=>?_⟩
    ·simp only[gz,Bool.and_true,beq_iff_eq]at a6
     rw[zM a6];exact aY
    ·simp only[gz,Bool.and_true,beq_eq_false_iff_ne]at a6
     exact N8 a6
   |no=>
    rw[ai]at aY;show sb b _=some false
    by_cases aV:h.aN e .bool=c
    ·rw[zM aV];exact aY
    ·exact N8 aV
   |on gs=>
    rw[ai]at aY;refine⟨fun a6=>?_,fun a6=>?_⟩
    ·simp only[gz,Bool.and_eq_true,beq_iff_eq]at a6
     rw[zM a6.1];exact aY.1 a6.2
    ·by_cases aV:h.aN e .bool=c
     ·rw[zM aV]
      refine aY.2 ?_
      simp only[gz,aV,beq_self_eq_true,Bool.true_and]at a6;exact a6
     ·exact N8 aV
   |bad=>trivial
  ·trivial
 | .cs x=>by
  unfold xf
  split
  ·rename_i c heq
   cases heq
   cases hJ:decide (c=b)with
   |true=>exact congrArg some (Vh (of_decide_eq_true hJ))
   |false=>exact congrArg some (Vi (of_decide_eq_false hJ))
  ·rename_i heq;cases heq
  ·rename_i heq;cases heq
  ·exact mH hf _
 | .tp l=>rfl
 | .bs r i=>mH hf (.bs r i)
 | .fd c i k r=>mH hf (.fd c i k r)
 | .ip c i k=>mH hf (.ip c i k)
 | .cA l=>mH hf (.cA l)
 | .eV i o=>mH hf (.eV i o)
 | .hW i x o=>mH hf (.hW i x o)
 | .aq i=>mH hf (.aq i)
 | .fn f a b=>mH hf (.fn f a b)
 | .ie i=>mH hf (.ie i)
 | .m9 g o=>mH hf (.m9 g o)
 | .ia i o x n=>mH hf (.ia i o x n)
 | .cE i n=>mH hf (.cE i n)
 | .fQ g i o=>mH hf (.fQ g i o)
 | .ei t a rs l=>mH hf (.ei t a rs l)
 | .top=>mH hf .top
theorem N9{ops:Array Oper}{o:Oper}{S:ay}{e:Env}(hf:S.cP e):Vg G N B ops o S e (guardOf N ops S o):=by
 unfold guardOf
 cases ai:o.guard with
 |none=>simp only[Vg,eS,ai]
 |some LY=>
  obtain⟨j,b⟩:=LY;simp only
  cases hd:mQ ops j with
  |none=>trivial
  |some d=>
   simp only
   cases me:Nat.blt d N with
   |false=>trivial
   |true=>
    have bE:d<N:=e9 me
    have ah:=Mw (G:=G) hf (x:=S.at d)
    have hc:=Vk (G:=G) (b:=b) hf ((S.at d).res S.g)
    rw[Hk.eq_def]at hc
    have key: ∀q,sb b (((S.at d).res S.g).den G e)=some q→eS ops (S.den G N B e) o=some q:=fun q h=>by
     rw[ah]at h;simp only[eS,ai,hd,wY,if_pos bE];generalize (S.at d).den G e=v at h;unfold sb at h
     split at h
     ·rename_i c
      cases h
      cases b<;>cases c<;>rfl
     ·cases h;rfl
     ·cases h
    simp only;generalize xf S.g b ((S.at d).res S.g)=gv at hc
    cases gv with
    |yes=>exact key _ hc
    |no=>exact key _ hc
    |on gs=>exact⟨fun h=>key _ (hc.1 h),fun h=>key _ (hc.2 h)⟩
    |bad=>trivial
end
end Go.aK
namespace Go.aK
open Go
section
variable {P:Program} {G:aR} {N B:Nat} {M:List bo} {T:List (Nat × bX)} {inl:Nat→List af→ay→aH}
theorem C7{S:ay}{g:af}{b:Bool}(ag:S.cO)(ai:g.lt S.k=true):({S with g:=.eL g b::S.g}:ay).cO:=
 ⟨ag.l,ag.h,by
  show(ck.lt S.k (.eL g b)&&fR S.k S.g)=true;rw[ag.g,Bool.and_true]
  exact ai⟩
theorem C8{S:ay}{g:af}{b:Bool}{e:Env}(hf:S.cP e)(ai:g.aN e .bool=b):({S with g:=.eL g b::S.g}:ay).cP e:=fun c hc=>by
 rcases List.mem_cons.1 hc with rfl|hc
 ·exact ai
 ·exact hf c hc
theorem Oa{a b:Bool}(h: ¬a=b):a= !b:=by cases a<;>cases b<;>first|rfl|exact absurd rfl h
theorem Vl{g:af}{b:Bool}{x y:aH}{e:Env}(h:g.aN e .bool=b):run M (Hi g b x y) e=run M x e:=by
 cases b<;>exact vi h
theorem zfQ{g:af}{b:Bool}{x y:aH}{e:Env}(h:g.aN e .bool= !b):run M (Hi g b x y) e=run M y e:=by
 cases b<;>exact vi h
theorem zfR{g:af}{b:Bool}{x y:aH}{e:Env}(ao:(Hi g b x y).safe M e)(h:g.aN e .bool=b):x.safe M e:=by
 cases b with
 |true=>exact ao.1 h
 |false=>exact ao.2 h
theorem zN{S:ay}: ∀{gs:List (af × Bool)},S.cO→ng S.k gs=true→({S with g:=iD gs S.g}:ay).cO
 |[],ag,_=>ag
 |(g,b)::r,ag,h=>by
  simp only[ng,Bool.and_eq_true]at h;exact C7 (S:={S with g:=iD r S.g}) (b:=b) (zN ag h.2) h.1
theorem zO{S:ay}{e:Env}: ∀{gs:List (af × Bool)},S.cP e→gz e gs=true→({S with g:=iD gs S.g}:ay).cP e
 |[],hf,_=>hf
 |(g,b)::r,hf,h=>by
  simp only[gz,Bool.and_eq_true,beq_iff_eq]at h;exact C8 (S:={S with g:=iD r S.g}) (b:=b) (zO hf h.2) h.1
theorem Hl{k:Nat}{v:af}: ∀{gs:List (af × Bool)},ng k gs=true→v.lt k=true→(lC gs v).lt k=true
 |[],_,h=>h
 |(g,b)::r,ai,h=>by
  simp only[ng,Bool.and_eq_true]at ai;simp only[lC,af.lt,ai.1,Hl ai.2 h,Bool.and_self]
theorem Hm{k m:Nat}(h:k≤m): ∀{gs:List (af × Bool)},ng k gs=true→ng m gs=true
 |[],_=>rfl
 |(g,b)::r,ai=>by
  simp only[ng,Bool.and_eq_true]at ai⊢;exact⟨hE h ai.1,Hm h ai.2⟩
theorem Hn{k:Nat}{e aF:Env}(h:cp k e aF): ∀{gs:List (af × Bool)},ng k gs=true→gz aF gs=gz e gs
 |[],_=>rfl
 |(g,b)::r,ai=>by
  simp only[ng,Bool.and_eq_true]at ai;simp only[gz,fy h ai.1,Hn h ai.2]
theorem Ho{v:af}{e:Env}: ∀{gs:List (af × Bool)},gz e gs=true→(lC gs v).den G e=v.den G e
 |[],_=>rfl
 |(g,b)::r,h=>by
  simp only[gz,Bool.and_eq_true,beq_iff_eq]at h;exact(zM h.1).trans (Ho h.2)
theorem Hp{v:af}{e:Env}: ∀{gs:List (af × Bool)},gz e gs=false→(lC gs v).den G e= .tuple []
 |[],h=>by cases h
 |(g,b)::r,h=>by
  by_cases ai:g.aN e .bool=b
  ·simp only[gz,ai,beq_self_eq_true,Bool.true_and]at h
   exact(zM ai).trans (Hp h)
  ·exact Vj (Oa ai)
theorem Hq{n:gE}{e:Env}: ∀{gs:List (af × Bool)},(r8 gs n).ok M e→gz e gs=true→n.ok M e
 |[],h,_=>h
 |(g,b)::r,h,a6=>by
  simp only[gz,Bool.and_eq_true,beq_iff_eq]at a6;exact Hq (gs:=r) (h a6.1) a6.2
theorem Ob{x:aH}{y:List ck→aH}{e:Env}: ∀{gs:List (af × Bool)} {l:List ck},gz e gs=true→run M (vh y gs x l) e=run M x e∧((vh y gs x l).safe M e→x.safe M e)
 |[],_,_=>⟨rfl,fun h=>h⟩
 |(g,b)::r,l,h=>by
  simp only[gz,Bool.and_eq_true,beq_iff_eq]at h;obtain⟨ab,ae⟩:=Ob (x:=x) (y:=y) (l:=.eL g b::l) h.2;exact⟨(Vl h.1).trans ab,fun ao=>ae (zfR ao h.1)⟩
theorem Oc{x:aH}{y:List ck→aH}{e:Env}{k:Nat}: ∀{gs:List (af × Bool)} {l:List ck},gz e gs=false→ng k gs=true→fR k l=true→(∀c∈l,c.ok e)→∃er,run M (vh y gs x l) e=run M (y er) e∧fR k er=true∧∀c∈er,c.ok e
 |[],_,h,_,_,_=>by cases h
 |(g,b)::r,l,h,ai,av,hc=>by
  simp only[ng,Bool.and_eq_true]at ai
  have j2: ∀b,fR k (.eL g b::l)=true:=fun b=>by
   show(ck.lt k (.eL g b)&&fR k l)=true;rw[av,Bool.and_true];exact ai.1
  by_cases gd:g.aN e .bool=b
  ·simp only[gz,gd,beq_self_eq_true,Bool.true_and]at h
   obtain⟨er,ab,ae,aw⟩:=Oc (x:=x) (y:=y) (k:=k) (gs:=r) (l:=.eL g b::l) h ai.2 (j2 b) fun c hm=>by
    rcases List.mem_cons.1 hm with rfl|hm
    ·exact gd
    ·exact hc c hm
   exact⟨er,(Vl gd).trans ab,ae,aw⟩
  ·refine⟨.eL g (!b)::l,zfQ (Oa gd),j2 _,fun c hm=>?_⟩
   rcases List.mem_cons.1 hm with rfl|hm
   ·exact Oa gd
   ·exact hc c hm
theorem Vm{S:ay}{dst:Option Nat}{l:List ck}{e:Env}(ag:S.cO)(av:fR S.k l=true)(hc: ∀c∈l,c.ok e):
 ∃aO:ay,tA S dst l= .dc .b8 aO∧aO.cO∧aO.cP e∧S.k≤aO.k∧aO.den G N B e=(S.den G N B e).put dst (.tuple []):=
 ⟨_,rfl,kM ⟨ag.l,ag.h,av⟩ rfl,kN hc,by rw[kO];exact Nat.le_refl _,by rw[fL];rfl⟩
mutual
theorem Vn(id t n:Nat)(es:List (List aU)): ∀a:aC,Sub (im [(id,.row true t n es)] a) (ey id a):=fun a=>by
 cases a with
 |agg l=>exact(zP id t n es l).agg
 |tuple l=>exact(zP id t n es l).tuple
 |aq k=>
  by_cases h:k=id
  ·simp only[ey,h,if_true]
   exact Sub.top _
  ·simp only[ey,h,if_false,im,aE,if_neg (fun e:id=k=>h e.symm)]
   exact Sub.refl _
 |fn f p q=>
  intro w ro σ β N c hc;simp only[im]at hc
  cases hc with
  |fn _ _ _ c d ab ae aw aM=>
   have ar:=(zP id t n es p).at
   have aG:=(zP id t n es q).at
   refine .fn f _ _ c d (by rw[ab,ar.1]) (by rw[ae,aG.1]) (fun j y aj=>?_) fun j y aj=>?_
   ·obtain⟨x,hx,ao⟩:=ar.2 j y aj
    exact ao _ _ _ _ _ _ (aw j x hx)
   ·obtain⟨x,hx,ao⟩:=aG.2 j y aj
    exact ao _ _ _ _ _ _ (aM j x hx)
 |ad x=>exact Sub.refl _
 |top=>exact Sub.refl _
 |ptr k o=>simp only[ey,im];split<;>first|exact Sub.top _|exact Sub.refl _
 |dN k o=>simp only[ey,im];split<;>first|exact Sub.top _|exact Sub.refl _
 |dg k i o=>simp only[ey,im];split<;>first|exact Sub.top _|exact Sub.refl _
 |ref k=>simp only[ey,im];split<;>first|exact Sub.top _|exact Sub.refl _
theorem zP(id t n:Nat)(es:List (List aU)): ∀l:List aC,gu (k3 [(id,.row true t n es)] l) (eM id l):=fun l=>by
 match l with
 |[]=>exact .nil
 |x::r=>exact .cons (Vn id t n es x) (zP id t n es r)
end
theorem Vo(σ:Heap): ∀l:List aC,k3 σ l=l.map (im σ)
 |[]=>rfl
 |x::r=>by simp only[k3,List.map_cons,Vo σ r]
theorem Vp{e:Env}{id t:Nat}{c:bX}{x:af}(hx:x.rt=some (.li c)): ∀y:af,Sub (im [(id,.row true t (du c) (List.map (df c) (x.aN e (.li c))))] (y.den G e)) ((af.vf id x y).den G e):=fun y=>by
 unfold af.vf
 split
 ·rename_i j
  split
  ·rename_i aj
   obtain rfl:=Nat.eq_of_beq_eq_true aj;simp only[af.den,im,aE,if_true];rw[gP hx];exact m8.cC fun _ _ _ h=>.li _ _ _ h
  ·rename_i aj
   have bW: ¬id=j:=fun h=>by rw[h,Nat.beq_refl]at aj;cases aj
   simp only[af.den,im,aE,if_neg bW];exact Sub.refl _
 ·rw[GQ]
  exact Vn _ _ _ _ _
theorem Vq{e:Env}{id t:Nat}{c:bX}{x:af}(hx:x.rt=some (.li c)): ∀l:List af,gu (k3 [(id,.row true t (du c) (List.map (df c) (x.aN e (.li c))))] (af.b0 G e l)) (af.b0 G e (l.map (af.vf id x)))
 |[]=>.nil
 |y::r=>.cons (Vp hx y) (Vq hx r)
theorem Vr{e:Env}{id t:Nat}{c:bX}{x:af}(hx:x.rt=some (.li c)): ∀y:af,Sub (im [(id,.row true t (du c) (List.map (df c) (x.aN e (.li c))))] (y.den G e)) ((af.vg id x y).den G e):=fun y=>by
 unfold af.vg
 split
 ·rename_i l
  exact(Vq hx l).agg
 ·exact Vp hx y
theorem Vs{e:Env}{id t:Nat}{c:bX}{x:af}(hx:x.rt=some (.li c)): ∀l:List af,gu (k3 [(id,.row true t (du c) (List.map (df c) (x.aN e (.li c))))] (af.b0 G e l)) (af.b0 G e (l.map (af.vg id x)))
 |[]=>.nil
 |y::r=>.cons (Vr hx y) (Vs hx r)
theorem zfS{e:Env}{id t:Nat}{c:bX}{x:af}(hx:x.rt=some (.li c)): ∀y:af,Sub (im [(id,.row true t (du c) (List.map (df c) (x.aN e (.li c))))] (y.den G e)) ((af.qE id x y).den G e):=fun y=>by
 unfold af.qE
 split
 ·rename_i l
  exact(Vs hx l).tuple
 ·exact Vr hx y
theorem Vt{id:Nat}{x:af}{k:Nat}(hx:x.lt k=true)(z:af)(aT:z.lt k=true):(af.vf id x z).lt k=true:=by
 unfold af.vf
 split
 ·split
  ·exact hx
  ·rfl
 ·exact vj _ aT
theorem Vu{id:Nat}{x:af}{k:Nat}(hx:x.lt k=true): ∀l:List af,af.cW k l=true→af.cW k (l.map (af.vf id x))=true
 |[],_=>rfl
 |z::r,h=>by
  simp only[af.cW,Bool.and_eq_true]at h;simp only[List.map_cons,af.cW,Bool.and_eq_true];exact⟨Vt hx z h.1,Vu hx r h.2⟩
theorem Vv{id:Nat}{x:af}{k:Nat}(hx:x.lt k=true)(z:af)(aT:z.lt k=true):(af.vg id x z).lt k=true:=by
 unfold af.vg
 split
 ·rename_i l
  exact Vu hx l aT
 ·exact Vt hx z aT
theorem Vw{id:Nat}{x:af}{k:Nat}(hx:x.lt k=true): ∀l:List af,af.cW k l=true→af.cW k (l.map (af.vg id x))=true
 |[],_=>rfl
 |z::r,h=>by
  simp only[af.cW,Bool.and_eq_true]at h;simp only[List.map_cons,af.cW,Bool.and_eq_true];exact⟨Vv hx z h.1,Vw hx r h.2⟩
theorem zfT{S:ay}{e:Env}(id:Nat)(ag:S.cO)(hf:S.cP e):(q2 S id).cO∧(q2 S id).cP e∧(q2 S id).k=S.k∧bV (S.den G N B e) ((q2 S id).den G N B e):=by
 unfold q2
 split
 ·rename_i t c x ai
  split
  ·rename_i ah
   have w8:x.rt=some (.li c):=by
    unfold af.U1 at ah
    split at ah
    ·rename_i r Od
     rw[Od,iz ah]
    ·cases ah
   have hx:x.lt S.k=true:=zK (o:=.rw t c x) ag.h ai
   refine⟨⟨fun i y aA=>?_,q3 id ag.h,ag.g⟩,hf,rfl,?_⟩
   ·simp only[Hh,bd.get_map]at aA
    cases aG:S.l.get i with
    |none=>rw[aG]at aA;cases aA
    |some z=>
     rw[aG]at aA;simp only[Option.map_some,Option.some.injEq]at aA;subst aA;show(af.qE id _ z).lt S.k=true;unfold af.qE
     split
     ·rename_i l
      exact Vw hx l (ag.l i _ aG)
     ·exact Vv hx z (ag.l i z aG)
   ·have bf:aE (S.den G N B e).heap id=some (.row false t (du c) (List.map (df c) (x.aN e (.li c)))):=by
     simp only[ay.den,e7,ai,Option.map_some,bQ.den]
    refine(bV.qE (S.den G N B e) id).trans ?_
    unfold Go.aK.qE;rw[bf];refine bV.of rfl (Nat.le_refl _) ?_ (fun i v az=>?_) fun j o au=>?_
    ·simp only[ay.den,pt,Gr]
    ·simp only[ay.den,pF]at az
     split at az
     rotate_left
     ·cases az
     rename_i hi;simp only[Hh,bd.get_map,Option.some.injEq]at az;subst az
     refine⟨im [(id,.row true t (du c) (List.map (df c) (x.aN e (.li c))))] (match S.l.get (0+i)with
      |some x=>x.den G e
      |none=>.top),by simp only[ay.den,Vo,List.getElem?_map,pF,if_pos hi,Option.map_some]<;>rfl,?_⟩
     cases aG:S.l.get (0+i)with
     |none=>exact Sub.top _
     |some z=>exact zfS w8 z
    ·have au:aE (c6 G e (jj id S.h)) j=some o:=au
     rw[r5,rN]at au
     split at au
     ·cases au
     rename_i bW
     cases aG:aE (c6 G e S.h) j with
     |none=>rw[aG]at au;cases au
     |some Vx=>
      rw[aG]at au;simp only[Option.map_some,Option.some.injEq]at au;subst au;refine⟨lZ [(id,.row true t (du c) (List.map (df c) (x.aN e (.li c))))] Vx,?_,?_⟩
      ·rw[rP,BV]
       rw[if_neg (fun h=>bW h.symm)];show Option.map _ (aE (c6 G e S.h) j)=_;rw[aG];rfl
      ·cases Vx with
       |box t cs=>exact .box t (zP _ _ _ _ cs)
       |row z t n es=>exact .same _
       |bI bH=>exact .same _
  ·exact⟨ag,hf,rfl,bV.refl _⟩
 ·exact⟨ag,hf,rfl,bV.refl _⟩
theorem zQ{e:Env}: ∀(aI:List af) {S:ay},S.cO→S.cP e→(jV aI S).cO∧(jV aI S).cP e∧(jV aI S).k=S.k∧bV (S.den G N B e) ((jV aI S).den G N B e)
 |[],S,ag,hf=>⟨ag,hf,rfl,bV.refl _⟩
 |a::r,S,ag,hf=>by
  unfold jV
  split
  ·rename_i h;cases h
  ·rename_i id eG h
   cases h;obtain⟨ab,ae,aw,aM⟩:=zfT (G:=G) (N:=N) (B:=B) id ag hf;obtain⟨g1,g2,g3,g4⟩:=zQ r ab ae;exact⟨g1,g2,g3.trans aw,aM.trans g4⟩
  ·rename_i h
   cases h;exact zQ r ag hf
theorem zfU{ops:Array Oper}{o:Oper}{S:ay}{aI:List af}{e:Env}(ar:preB P N S o=some aI)(ag:S.cO)(hf:S.cP e):
 (jV aI S).cO∧(jV aI S).cP e∧(jV aI S).k=S.k∧bV (S.den G N B e) ((jV aI S).den G N B e)∧eS ops ((jV aI S).den G N B e) o=some true:=by
 have hn:o.guard=none:=by
  unfold preB at ar
  split at ar
  ·split at ar
   ·cases ar
   ·assumption
  ·split at ar
   ·cases ar
   ·assumption
  ·cases ar
 obtain⟨ab,ae,aw,aM⟩:=zQ (G:=G) (N:=N) (B:=B) aI ag hf
 exact⟨ab,ae,aw,aM,by unfold eS;rw[hn]⟩
theorem zR(cS:gV P G M inl){ops:Array Oper}: ∀(l:List Oper) {S:ay} {e:Env} {Q:Exit→aQ→Prop},S.cO→S.cP e→(jk P N B T inl ops l S).safe M e→(∀ex st,kL G N B M (jk P N B T inl ops l S) e S.k ex st→Q ex st)→c8 P G ops Q l (S.den G N B e)
 |[],S,e,Q,ag,hf,_,ed=>c8.nil (ed _ _ ⟨.b8,S,e,rfl,trivial,bV.refl _,ag,hf,cp.refl _ _,Nat.le_refl _⟩)
 |o::r,S,e,Q,ag,hf,ao,ed=>by
  have ai:=N9 (G:=G) (N:=N) (B:=B) (ops:=ops) (o:=o) hf
  have fK:=ao
  unfold jk at fK
  cases kh:guardOf N ops S o with
  |yes=>
   rw[kh]at ai fK;simp only at fK
   cases ar:preB P N S o with
   |some aI=>
    rw[ar]at fK
    have dm:jk P N B T inl ops (o::r) S=exec P N B T inl o (jV aI S) (jk P N B T inl ops r):=by rw[jk,kh];simp only[ar]
    obtain⟨f1,f2,f3,f4,f5⟩:=zfU (G:=G) (B:=B) (ops:=ops) ar ag hf;refine c8.le f4 (N5 cS f1 f2 f5 fK fun bP aF ab ae aw aM bn cl=>zR cS r ab ae bn fun ex st ar=>ed ex st (ar.sub ?_ (f3 ▸ aw) (f3 ▸ aM)))
    rw[dm,cl]
   |none=>
    rw[ar]at fK
    have dm:jk P N B T inl ops (o::r) S=exec P N B T inl o S (jk P N B T inl ops r):=by rw[jk,kh];simp only[ar]
    refine N5 cS ag hf ai fK fun bP aF ab ae aw aM bn cl=>zR cS r ab ae bn fun ex st ar=>ed ex st (ar.sub ?_ aw aM)
    rw[dm,cl]
  |no=>
   rw[kh]at ai fK
   have dm:jk P N B T inl ops (o::r) S=jk P N B T inl ops r (S.put o.dst (.tp [])):=by rw[jk,kh]
   refine c8.pass ai ?_
   have hd:(S.den G N B e).put o.dst (.tuple [])=(S.put o.dst (.tp [])).den G N B e:=by rw[fL];rfl
   rw[hd];refine zR cS r (kM ag rfl) (kN hf) fK fun ex st ar=>ed ex st (ar.sub (by rw[dm]) (cp.refl _ _) (by rw[kO];exact Nat.le_refl _))
  |on gs=>
   rw[kh]at ai fK;simp only at fK;obtain⟨g1,g2⟩:=ai
   split at fK
   ·rename_i kY
    split at fK
    ·rename_i q az
     split at fK
     ·rename_i hc
      have dm:jk P N B T inl ops (o::r) S=emit S.k q.xs (q.ns.map (r8 gs)) (jk P N B T inl ops r ((S.fA S.k q.xs).put o.dst (lC gs q.v))):=by rw[jk,kh];simp only[kY,az,hc]
      simp only[Bool.and_eq_true]at hc;obtain⟨hM,gK⟩:=nV fK;obtain⟨ct,a2,a3⟩:=tB (M:=M) (G:=G) (N:=N) (B:=B) ag hf hc.1
      have b4:cp S.k e (dP M e S.k q.xs):=la (Nat.le_refl _)
      have jP:gz (dP M e S.k q.xs) gs=gz e gs:=Hn b4 kY
      have an:S.k≤S.k+q.xs.length:=Nat.le_add_right _ _
      have qW:(lC gs q.v).lt (S.k+q.xs.length)=true:=Hl (Hm an kY) hc.2
      have Oe:((S.fA S.k q.xs).put o.dst (lC gs q.v)).cO:=kM ct qW
      have mT:=zR cS (ops:=ops) r (Q:=Q) Oe (kN a2) gK fun ex st ar=>ed ex st (ar.sub (by rw[dm,nd]) b4 (by rw[kO];exact an))
      rw[fL,a3]at mT
      cases gd:gz e gs with
      |true=>
       have jH:=zO hf gd
       have ir:=zN ag kY
       have eC:=w9 (G:=G) (B:=B) (M:=M) az (dP M e S.k q.xs) (jU b4 ir.g jH) (kJ hc.1) fun n hn=>Hq (hM (r8 gs n) (List.mem_map.2 ⟨n,hn,rfl⟩)) (jP.trans gd)
       have zS:({S with g:=iD gs S.g}:ay).den G N B (dP M e S.k q.xs)=S.den G N B e:=l4 (S:={S with g:=iD gs S.g}) b4 ir
       rw[zS]at eC;refine c8.step (g1 gd) eC.step ?_
       rw[Ho (jP.trans gd)]at mT;exact mT
      |false=>
       refine c8.pass (g2 gd) ?_
       rw[Hp (jP.trans gd)]at mT;exact mT
     ·exact fK.elim
    ·rename_i az
     have dm:jk P N B T inl ops (o::r) S=r6 N S o.dst gs (vh (tA S o.dst) gs (exec P N B T inl o {S with g:=iD gs S.g} (.dc .b8)) S.g) (jk P N B T inl ops r):=by rw[jk,kh];simp only[az,kY]
     obtain⟨t1,_,t3⟩:=NQ (G:=G) (B:=B) ag hf fK
     have fin: ∀(aO:ay) (aD:Env),run M (vh (tA S o.dst) gs (exec P N B T inl o {S with g:=iD gs S.g} (.dc .b8)) S.g) e=some (.b8,aO,aD)→aO.cO→aO.cP aD→cp S.k e aD→S.k≤aO.k→c8 P G ops Q r (aO.den G N B aD):=fun aO aD ah ab ae aw aM=>by
      obtain⟨dr,bg,s1,s2,iQ,jf,jg,ku,nF⟩:=t3 aO aD ah ab ae aw aM;exact c8.le s1 (zR cS r s2 iQ ku fun ex st ar=>ed ex st (ar.sub (by rw[dm,nF]) jf jg))
     cases gd:gz e gs with
     |false=>
      refine c8.pass (g2 gd) ?_
      obtain⟨er,dp,di,hN⟩:=Oc (M:=M) (x:=exec P N B T inl o {S with g:=iD gs S.g} (.dc .b8)) (y:=tA S o.dst) (l:=S.g) gd kY ag.g hf
      obtain⟨aO,tu,q4,yp,Of,sQ⟩:=Vm (G:=G) (N:=N) (B:=B) (dst:=o.dst) ag di hN;rw[←sQ];exact fin aO e (by rw[dp,tu];rfl) q4 yp (cp.refl _ _) Of
     |true=>
      have jH:=zO hf gd
      have ir:=zN ag kY
      obtain⟨f1,f2⟩:=Ob (M:=M) (x:=exec P N B T inl o {S with g:=iD gs S.g} (.dc .b8)) (y:=tA S o.dst) (l:=S.g) gd
      refine N5 cS (S:={S with g:=iD gs S.g}) ir jH (g1 gd) (f2 t1) fun bP aF ab ae aw aM _ cl=>fin bP aF ?_ ab ae aw aM
      exact f1.trans cl
   ·exact fK.elim
  |bad=>rw[kh]at fK;exact fK.elim
end
end Go.aK
namespace Go.aK
open Go
def C9(i:Nat)(y:af):List ck→Bool
 |[]=>false
 | .rg j b::r=>(Nat.beq j i&&ej b y)||C9 i y r
 |_::r=>C9 i y r
def zT(j:Nat)(all:List ck):List ck→Option Bool
 |[]=>none
 | .d2 i (.qJ .lss .i64) x y::r=>match Nat.beq i j with
  |true=>match ej x y with
   |true=>some false
   |false=>match x with
    | .bs (.int .i64) m=>match C9 m y all&&(match y.rt with|some (.int .i64)=>true|_=>false)with
     |true=>some true
     |false=>none
    |_=>none
  |false=>zT j all r
 |_::r=>zT j all r
def Og(g:af)(l:List ck):Option Bool:=
 match mF g l with
 |some b=>some b
 |none=>match g with
  | .bs .bool j=>zT j l l
  |_=>none
def Da(i:Nat):List ck→Option af
 |[]=>none
 | .d1 j .oJ x::r=>match Nat.beq j i with
  |true=>match x.rt with
   |some .bool=>some x
   |_=>none
  |false=>Da i r
 |_::r=>Da i r
def ay.eL(S:ay)(v:af)(b:Bool):ay:=
 match v with
 | .bs .bool i=>match Da i S.g with
  |some x=>{S with g:=.eL x (!b):: .eL (.bs .bool i) b::S.g}
  |none=>{S with g:=.eL (.bs .bool i) b::S.g}
 |v=>{S with g:=.eL v b::S.g}
def Oh(N:Nat)(S:ay)(x:Operand)(f g:ay→aH):aH:=
 match S.a1 N x with
 | .cs (.bool true)=>f S
 | .cs (.bool false)=>g S
 |v=>match v.rt with
  |some .bool=>match Og v S.g with
   |some true=>f S
   |some false=>g S
   |none=>.it v (f (S.eL v true)) (g (S.eL v false))
  |_=>.bad 38
def comp(P:Program)(N B:Nat)(T:List (Nat × bX))(inl:Nat→List af→ay→aH)(L:(ay→aH)→Nat→ay→aH)(D:Array Oper→ay→aH):Code→Nat→ay→aH
 | .skip,_,S=>.dc .b8 S
 | .ret,_,S=>.dc .ret S
 | .exit id,_,S=>.dc (.ext id) S
 | .region _ ops draw,_,S=>match draw with
  |true=>D ops S
  |false=>jk P N B T inl ops ops.toList S
 | .cond x a b,cur,S=>Oh N S x (comp P N B T inl L D a cur) (comp P N B T inl L D b cur)
 | .block id c,_,S=>(comp P N B T inl L D c id S).rel (qN id)
 | .seq a b,cur,S=>l6 N S (comp P N B T inl L D a cur S) (comp P N B T inl L D b cur)
 | .loop c,cur,S=>L (comp P N B T inl L D c cur) cur S
 |_,_,_=>.bad 6
section
variable {P:Program} {G:aR} {N B:Nat} {M:List bo} {T:List (Nat × bX)} {inl:Nat→List af→ay→aH} {L:(ay→aH)→Nat→ay→aH} {D:Array Oper→ay→aH}
theorem Db{i:Nat}{y:af}{e:Env}: ∀{l:List ck},C9 i y l=true→(∀c∈l,c.ok e)→0≤cN (Env.at e i)∧cN (Env.at e i)<cN (y.dyn e)
 | .rg j b::r,h,hc=>by
  simp only[C9,Bool.or_eq_true,Bool.and_eq_true]at h
  rcases h with⟨ab,ae⟩|h
  ·rw[←Nat.eq_of_beq_eq_true ab,←ew ae]
   exact hc (.rg j b) (by simp)
  ·exact Db h fun c hm=>hc c (by simp[hm])
 | .d1 _ _ _::r,h,hc=>Db (l:=r) h fun c hm=>hc c (by simp[hm])
 | .d2 _ _ _ _::r,h,hc=>Db (l:=r) h fun c hm=>hc c (by simp[hm])
 | .eL _ _::r,h,hc=>Db (l:=r) h fun c hm=>hc c (by simp[hm])
theorem zfV(d:aL):(d.aI (.int .i64):Int)=cN d∨(d.aI (.int .i64):Int)=0:=by
 obtain⟨r,v⟩:=d
 by_cases h:r= .int .i64
 ·subst h
  exact .inl (c3 _ _)
 ·refine .inr ?_
  unfold aL.aI
  split
  ·rename_i h' _;exact absurd h' h
  ·rfl
theorem Dc{j:Nat}{e:Env}{b:Bool}{all:List ck}(a6: ∀c∈all,c.ok e): ∀{l:List ck},zT j all l=some b→(∀c∈l,c.ok e)→(af.bs .bool j).aN e .bool=b
 | .d2 i f x y::r,h,hc=>by
  have aS:=hc (.d2 i f x y) (by simp)
  have ah: ∀{b},zT j all r=some b→(af.bs .bool j).aN e .bool=b:=fun h=>Dc a6 h fun c hm=>hc c (by simp[hm])
  unfold zT at h
  split at h
  ·cases h
  ·rename_i yS ly sH eG heq
   cases heq
   split at h
   ·rename_i nv
    have nv:=Nat.eq_of_beq_eq_true nv
    subst nv;simp only[ck.ok]at aS
    have az:(af.bs .bool i).aN e .bool=Cu .lss (x.aN e (.int .i64)) (y.aN e (.int .i64)):=by
     simp only[af.aN,af.gw,af.dyn,c3,aS];rfl
    rw[az]
    split at h
    ·rename_i he
     cases h;rw[ew he];exact decide_eq_false (Int.lt_irrefl _)
    ·split at h
     ·rename_i m _
      split at h
      ·rename_i an
       cases h;simp only[Bool.and_eq_true]at an
       have ab:=Db an.1 a6
       have aA:y.rt=some (.int .i64):=by
        have:=an.2
        split at this
        ·assumption
        ·cases this
       rw[nT aA]at ab
       have hx:(af.bs (.int .i64) m).aN e (.int .i64)=(Env.at e m).aI (.int .i64):=by simp only[af.aN,af.gw,af.dyn,c3]
       rw[hx];refine decide_eq_true ?_
       have ae:=ab.2
       rcases zfV (Env.at e m)with q|q
       ·rw[q];exact ae
       ·rw[q];exact Int.lt_of_le_of_lt ab.1 ae
      ·cases h
     ·cases h
   ·exact ah h
  ·rename_i heq
   cases heq;exact ah h
 | .d1 _ _ _::r,h,hc=>Dc a6 (l:=r) h fun c hm=>hc c (by simp[hm])
 | .rg _ _::r,h,hc=>Dc a6 (l:=r) h fun c hm=>hc c (by simp[hm])
 | .eL _ _::r,h,hc=>Dc a6 (l:=r) h fun c hm=>hc c (by simp[hm])
theorem Vy{e:Env}{g:af}{b:Bool}{l:List ck}(h:Og g l=some b)(hc: ∀c∈l,c.ok e):g.aN e .bool=b:=by
 unfold Og at h
 split at h
 ·rename_i an;cases h;exact rZ an hc
 ·split at h
  ·exact Dc hc h hc
  ·cases h
def l7(P:Program)(G:aR)(N B:Nat)(M:List bo)(c:Code)(f:ay→aH):Prop:=
 ∀(S:ay) (e:Env),S.cO→S.cP e→(f S).safe M e→b2 P G c (kL G N B M (f S) e S.k) (S.den G N B e)
theorem Oi{i:Nat}{x:af}{e:Env}{k:Nat}: ∀{l:List ck},Da i l=some x→(∀c∈l,c.ok e)→fR k l=true→(af.bs .bool i).aN e .bool= !(x.aN e .bool)∧x.lt k=true
 |[],h,_,_=>by cases h
 |c::r,h,hc,av=>by
  have BX: ∀c∈r,c.ok e:=fun c hm=>hc c (List.mem_cons_of_mem _ hm)
  have j2:c.lt k=true∧fR k r=true:=by simpa only[fR,Bool.and_eq_true]using av
  unfold Da at h
  split at h
  ·rename_i heq;cases heq
  ·rename_i j y eG heq
   cases heq
   split at h
   ·rename_i aj
    have aj:=Nat.eq_of_beq_eq_true aj
    subst aj
    split at h
    ·cases h
     have aS:Env.at e j=⟨cB.oJ.c,cB.oJ.den (x.aN e cB.oJ.a)⟩:=hc _ (List.mem_cons_self ..)
     have ab:=j2.1
     simp only[ck.lt,Bool.and_eq_true]at ab;refine⟨?_,ab.2⟩
     simp only[af.aN,af.gw,af.dyn,aS,c3];rfl
    ·cases h
   ·exact Oi h BX j2.2
  ·rename_i heq
   cases heq;exact Oi h BX j2.2
theorem Vz{S:ay}{v:af}{b:Bool}{e:Env}(ag:S.cO)(hf:S.cP e)(av:v.lt S.k=true)(az:v.aN e .bool=b):(S.eL v b).cO∧(S.eL v b).cP e∧(S.eL v b).k=S.k∧(S.eL v b).den G N B e=S.den G N B e:=by
 unfold ay.eL
 split
 ·rename_i i
  split
  ·rename_i x hx
   obtain⟨ab,ae⟩:=Oi hx hf ag.g;rw[az]at ab
   have aw:x.aN e .bool= !b:=by rw[ab];cases x.aN e .bool<;>rfl
   have ct:=C7 (b:=b) ag av
   have a2:=C8 hf az
   exact⟨C7 (S:={S with g:=.eL (.bs .bool i) b::S.g}) (b:=!b) ct ae,C8 (S:={S with g:=.eL (.bs .bool i) b::S.g}) a2 aw,rfl,rfl⟩
  ·exact⟨C7 ag av,C8 hf az,rfl,rfl⟩
 ·exact⟨C7 ag av,C8 hf az,rfl,rfl⟩
theorem zfW{x:Operand}{a b:Code}{f g:ay→aH}(hf:l7 P G N B M a f)(ai:l7 P G N B M b g):l7 P G N B M (.cond x a b) (fun S=>Oh N S x f g):=by
 intro S e ag fv ao
 have hx:=bR (G:=G) (N:=N) (B:=B) fv x
 have bE:=Gs (N:=N) ag x
 simp only at ao⊢
 unfold Oh at ao⊢
 generalize S.a1 N x=v at ao hx bE⊢
 split at ao
 ·exact b2.Jt hx (hf S e ag fv ao)
 ·exact b2.Ju hx (ai S e ag fv ao)
 ·rename_i ab ae
  split at ao
  ·rename_i ah
   have hd:=gP (G:=G) (e:=e) ah
   rw[←hx]at hd
   have hd:=hd.trans (show _=aC.ad (.v (.bool _))from rfl)
   split at ao
   ·rename_i an
    rw[Vy an fv]at hd;exact b2.Jt hd (hf S e ag fv ao)
   ·rename_i an
    rw[Vy an fv]at hd;exact b2.Ju hd (ai S e ag fv ao)
   ·refine b2.cond hd (fun aJ=>?_) (fun aJ=>?_)
    ·obtain⟨dp,di,hN,oT⟩:=Vz (G:=G) (N:=N) (B:=B) ag fv bE aJ
     have:=hf _ e dp di (ao.1 aJ)
     rw[oT]at this;refine b2.mono this fun ex st ar=>ar.sub ?_ (cp.refl _ _) (Nat.le_of_eq hN.symm)
     rw[vi aJ]
    ·obtain⟨dp,di,hN,oT⟩:=Vz (G:=G) (N:=N) (B:=B) ag fv bE aJ
     have:=ai _ e dp di (ao.2 aJ)
     rw[oT]at this;refine b2.mono this fun ex st ar=>ar.sub ?_ (cp.refl _ _) (Nat.le_of_eq hN.symm)
     rw[vi aJ]
  ·exact ao.elim
theorem zfX{id:Nat}{c:Code}{f:ay→aH}(hf:l7 P G N B M c f):l7 P G N B M (.block id c) (fun S=>(f S).rel (qN id)):=by
 intro S e ag fv ao
 have au:=zed (f S) id
 refine b2.block (b2.mono (hf S e ag fv ((na au).1 ao)) fun ex st ar=>?_)
 obtain⟨x,bP,aF,ab,ae,aw,aM,bn,cl,dW⟩:=ar
 have ah:run M ((f S).rel (qN id)) e=some (qN id x,bP,aF):=by rw[CC au,ab];rfl
 cases x with
 |b8=>cases ex<;>first|exact⟨_,bP,aF,ah,trivial,aw,aM,bn,cl,dW⟩|exact ae.elim
 |ret=>cases ex<;>first|exact⟨_,bP,aF,ah,trivial,aw,aM,bn,cl,dW⟩|exact ae.elim
 |mE n=>exact(by cases ex<;>exact ae.elim)
 |ext n=>
  cases ex with
  |exit m=>
   have ae:n=m:=ae
   subst ae;show(bif Nat.beq n id then _ else _)
   cases ag:Nat.beq n id with
   |true=>exact⟨.b8,bP,aF,by rw[ah];simp only[qN,ag],trivial,aw,aM,bn,cl,dW⟩
   |false=>exact⟨.ext n,bP,aF,by rw[ah];simp only[qN,ag],rfl,aw,aM,bn,cl,dW⟩
  |_=>exact ae.elim
theorem zfY{a b:Code}{f g:ay→aH}(hf:l7 P G N B M a f)(ai:l7 P G N B M b g):l7 P G N B M (.seq a b) (fun S=>l6 N S (f S) g):=by
 intro S e ag fv ao
 obtain⟨t1,t2,t3⟩:=Ha (G:=G) (B:=B) ag fv ao
 refine b2.seq (b2.mono (hf S e ag fv t1) fun ex st ar=>?_)
 obtain⟨x,bP,aF,ab,ae,aw,aM,bn,cl,dW⟩:=ar
 have other:x≠ .b8→ex≠ .normal→kL G N B M (l6 N S (f S) g) e S.k ex st:=fun bW _=>⟨x,bP,aF,t2 x bP aF ab bW (U6 ae),ae,aw,aM,bn,cl,dW⟩
 cases x with
 |b8=>
  cases ex with
  |normal=>
   obtain⟨dr,bg,s1,s2,iQ,jf,jg,ku,nF⟩:=t3 bP aF ab aM bn cl dW;exact b2.le aw (b2.le s1 (b2.mono (ai dr bg s2 iQ ku) fun ex st ar=>ar.sub nF jf jg))
  |_=>exact ae.elim
 |ret=>cases ex<;>first|exact other (by simp) (by simp)|exact ae.elim
 |ext n=>cases ex<;>first|exact other (by simp) (by simp)|exact ae.elim
 |mE n=>cases ex<;>exact ae.elim
theorem Oj{c:Code}{x:cf}{ex:Exit}(h:C2 x ex)(k: ∀{Q:Exit→aQ→Prop} {s:aQ},Q ex s→b2 P G c Q s):l7 P G N B M c (fun S=>.dc x S):=
 fun S e ag hf _=>k ⟨x,S,e,rfl,h,bV.refl _,ag,hf,cp.refl _ _,Nat.le_refl _⟩
def Ok(P:Program)(G:aR)(N B:Nat)(M:List bo)(L:(ay→aH)→Nat→ay→aH):Prop:=∀c f id,l7 P G N B M c f→l7 P G N B M (.loop c) (L f id)
def Ol(P:Program)(G:aR)(N B:Nat)(M:List bo)(D:Array Oper→ay→aH):Prop:=∀id ops,l7 P G N B M (.region id ops true) (D ops)
theorem xi(cS:gV P G M inl)(hp:Ok P G N B M L)(ll:Ol P G N B M D): ∀(c:Code) (cur:Nat),l7 P G N B M c (comp P N B T inl L D c cur)
 | .skip,_=>Oj (ex:=.normal) trivial b2.skip
 | .ret,_=>Oj (ex:=.ret) trivial b2.ret
 | .exit id,_=>Oj (ex:=.exit id) rfl b2.exit
 | .region id ops draw,_=>by
  cases draw with
  |true=>exact ll id ops
  |false=>
   intro S e ag hf ao
   have h4:ops=ops.toList.toArray:=by simp
   rw[h4];refine b2.region ?_
   rw[←h4];exact zR cS ops.toList ag hf ao fun _ _ h=>h
 | .cond x a b,cur=>zfW (xi cS hp ll a cur) (xi cS hp ll b cur)
 | .block id c,_=>zfX (xi cS hp ll c id)
 | .seq a b,cur=>zfY (xi cS hp ll a cur) (xi cS hp ll b cur)
 | .loop c,cur=>hp c _ cur (xi cS hp ll c cur)
 | .rangeFunc _ _ _ _,_=>fun _ _ _ _ h=>h.elim
 | .scope _,_=>fun _ _ _ _ h=>h.elim
 | .label _,_=>fun _ _ _ _ h=>h.elim
 | .goto _,_=>fun _ _ _ _ h=>h.elim
 | .refuse _,_=>fun _ _ _ _ h=>h.elim
end
end Go.aK
namespace Go.aK
open Go
def Dd:Nat→List af→List (Nat × af)
 |_,[]=>[]
 |i,x::r=>(i,x)::Dd (i+1) r
def zU(P:Program)(N:Nat)(S:ay):List ResultVar→Option (List af)
 |[]=>some []
 | .tmp t::r=>match zU P N S r with
  |some l=>some (S.a1 N (.tmp t)::l)
  |none=>none
 | .cell p t::r=>match zU P N S r,w2 S (S.a1 N (.tmp p))with
  |some l,some cs=>match tm P t cs with
   |some v=>some (v::l)
   |none=>none
  |_,_=>none
def Om(P:Program)(fn:Func)(N:Nat)(S:ay):Option af:=
 match zU P N S fn.results.toList with
 |some [x]=>some x
 |some l=>some (.tp l)
 |none=>none
def De:cf→cf
 | .ret=>.b8
 |x=>x
def zfZ:cf→Bool
 | .b8=>true
 | .ret=>true
 |_=>false
def Hr(P:Program)(fn:Func)(N:Nat)(S:ay):aH:=
 match Om P fn N S with
 |some v=>match v.lt S.k with
  |true=>.dc .b8 {S with l:=bd.put .emp 0 v}
  |false=>.bad 44
 |none=>.bad 43
structure rI where
 L:Nat→Nat→(Nat→List af→ay→aH)→(ay→aH)→Nat→ay→aH
 D:Nat→Nat→(Nat→List af→ay→aH)→Array Oper→ay→aH
def xj(aI:List af)(S:ay):ay:={S with l:=fS (Dd 0 aI)}
def On(P:Program)(H:rI)(T:List (Nat × bX))(inl:Nat→List af→ay→aH)(c:Code)(N:Nat)(aI:List af)(S:ay):aH:=
 comp P N S.n T inl (H.L N S.n inl) (H.D N S.n inl) c 0 (xj aI S)
def zV(n:Nat)(m:Nat):Nat:=
 match n with
 |0=>m
 |k+1=>k+1
def aH.oU:aH→Nat
 | .dc _ _=>0
 | .lt _ _ t=>t.oU
 | .fF _ t=>t.oU
 | .it _ a b=>zV a.oU b.oU
 | .eo _ a _ k=>zV a.oU k.oU
 | .e6 _ _ _ _ _ a k=>zV a.oU k.oU
 | .fz _ _ _ a k=>zV a.oU k.oU
 | .bad n=>n
def zf0(f n:Nat):Nat:=
 match Nat.ble 1000 n with
 |true=>n
 |false=>f*1000+n
def VA(P:Program)(f:Nat)(fn:Func)(N:Nat)(t:aH):aH:=
 match t.gb zfZ with
 |true=>(t.rel De).eW (Hr P fn N) none
 |false=>.bad (zf0 f t.oU)
def Oo(P:Program)(H:rI)(T:List (Nat × bX))(inl:Nat→List af→ay→aH)(f:Nat)(aI:List af)(S:ay):aH:=
 match P.funcs[f]? with
 |some fn=>match fn.body with
  |some c=>VA P f fn (aI.length+(fn.ntmps-aI.length)) (On P H T inl c (aI.length+(fn.ntmps-aI.length)) aI S)
  |none=>.bad 41
 |none=>.bad 42
section
variable {P:Program} {G:aR} {N B:Nat} {M:List bo} {T:List (Nat × bX)} {inl:Nat→List af→ay→aH} {H:rI}
def Oq(P:Program)(G:aR)(M:List bo)(H:rI):Prop:=∀(inl:Nat→List af→ay→aH),gV P G M inl→∀N B,Ok P G N B M (H.L N B inl)∧Ol P G N B M (H.D N B inl)
theorem VB{t:TypeId}{l:List af}{v:af}{e:Env}(h:tm P t l=some v):
 (∃n,mb P t=some n∧n≤l.length∧0<n∧v.den G e= .agg ((af.b0 G e l).take n))∨(mb P t=none∧scalar P t=true∧∃r,l=v::r):=by
 unfold tm at h
 split at h
 ·rename_i n hn
  split at h
  ·rename_i ag
   simp only[Bool.and_eq_true]at ag;cases h;refine .inl ⟨n,hn,Nat.le_of_ble_eq_true ag.1,Nat.le_of_ble_eq_true ag.2,?_⟩
   simp only[af.den,fE,List.map_take]
  ·cases h
 ·rename_i hn
  split at h
  ·rename_i ao
   cases h;exact .inr ⟨hn,ao,_,rfl⟩
  ·cases h
theorem Hs{S:ay}{e:Env}(hf:S.cP e): ∀{l:List ResultVar} {vs:List af},zU P N S l=some vs→oE P (S.den G N B e) l=some (af.b0 G e vs)
 |[],vs,h=>by cases h;rfl
 | .tmp t::r,vs,h=>by
  simp only[zU]at h
  split at h
  ·rename_i l av
   cases h
   have:=bR (G:=G) (N:=N) (B:=B) hf (.tmp t)
   simp only[oE,Hs hf av,af.b0,←this];rfl
  ·cases h
 | .cell p t::r,vs,h=>by
  simp only[zU]at h
  split at h
  ·rename_i l cs av hc
   split at h
   ·rename_i v az
    cases h
    have ab:=bR (G:=G) (N:=N) (B:=B) hf (.tmp p)
    have ae:=CN (G:=G) (N:=N) (B:=B) (e:=e) hc
    rw[←ab]at ae
    have ae:fG (S.den G N B e).heap ((S.den G N B e).db.getD p .top)=some (af.b0 G e cs):=ae
    simp only[oE,Hs hf av,ae,af.b0]
    rcases VB (G:=G) (e:=e) az with⟨n,g1,g2,g3,g4⟩|⟨g1,g2,eG,g3⟩
    ·simp only[g1,g4]
     rw[if_pos ⟨by rw[oP];exact g2,g3⟩]
    ·subst g3
     simp only[g1,g2,if_true,af.b0]
   ·cases h
  ·cases h
theorem zf1{fn:Func}{S:ay}{e:Env}{v:af}(hf:S.cP e)(h:Om P fn N S=some v):rk P fn (S.den G N B e)=some (v.den G e):=by
 unfold Om at h
 unfold rk
 split at h
 ·rename_i x hx
  cases h;rw[Hs hf hx];rfl
 ·rename_i l bW av
  cases h;rw[Hs hf av]
  match l with
  |[]=>rfl
  |[x]=>exact absurd rfl (bW x)
  |x::y::l=>rfl
 ·cases h
theorem VC(t:aH):t.jS De:=oM (t.lvl+1) (Nat.lt_succ_self _) (fun n _ x h=>by cases x<;>first|rfl|exact h) (fun n x h=>by cases x<;>first|rfl|exact h)
theorem Ot: ∀{l:List af} {i j:Nat},(fS (Dd i l)).get j=if j<i then none else l[j-i]?
 |[],i,j=>by simp only[Dd,fS];split<;>simp[bd.get]
 |x::r,i,j=>by
  simp only[Dd,fS,bd.kl,Ot (l:=r)]
  by_cases h:i=j
  ·subst h;simp
  ·rw[if_neg h]
   by_cases ae:j<i
   ·rw[if_pos ae,if_pos (by omega)]
   ·rw[if_neg ae,if_neg (by omega),show j-i=(j-(i+1))+1 by omega,List.getElem?_cons_succ]
theorem zf2{aI:List af}{S:ay}{e:Env}{k:Nat}:(xj aI S).den G (aI.length+k) S.n e=⟨af.b0 G e aI++List.replicate k .top,c6 G e S.h,S.n,S.n⟩:=by
 simp only[ay.den,xj,aQ.mk.injEq,and_true,true_and]
 apply List.ext_getElem?
 intro j
 rw[pF,Nat.zero_add,Ot,if_neg (Nat.not_lt_zero _),Nat.sub_zero,fE,List.getElem?_append,List.getElem?_replicate,List.length_map]
 by_cases h:j<aI.length
 ·rw[if_pos (by omega),if_pos h,List.getElem?_map,List.getElem?_eq_getElem h]
  rfl
 ·rw[if_neg h]
  by_cases ae:j<aI.length+k
  ·rw[if_pos ae,if_pos (by omega),List.getElem?_eq_none (by omega)]
  ·rw[if_neg ae,if_neg (by omega)]
theorem zf3{aI:List af}{S:ay}(ag:S.cO)(av:af.cW S.k aI=true):(xj aI S).cO:=by
 refine⟨fun i x hx=>?_,ag.h,ag.g⟩
 simp only[xj,Ot,Nat.not_lt_zero,if_false,Nat.sub_zero]at hx
 have hm:=List.mem_of_getElem? hx
 clear hx
 induction aI with
 |nil=>cases hm
 |cons y r aY=>
  simp only[af.cW,Bool.and_eq_true]at av
  rcases List.mem_cons.1 hm with rfl|hm
  ·exact av.1
  ·exact aY av.2 hm
theorem b2.zf4{c:Code}{Q:Exit→aQ→Prop}{s:aQ}(h:b2 P G c (fun e st=>∃Ht,bV st Ht∧Q e Ht) s):b2 P G c Q s:=fun E a w ah=>
 wp_mono (h E a w ah) fun _ bb w' ⟨st,⟨Ht,av,aG⟩,ae⟩=>⟨Ht,aG,av E G bb w' ae⟩
theorem zf5(xk:Oq P G M H)(cS:gV P G M inl):gV P G M (Oo P H T inl):=by
 intro f aI S e ag av hf ao
 unfold Oo at ao⊢
 split at ao
 ·rename_i fn o5
  split at ao
  ·rename_i c hc
   generalize me:aI.length+(fn.ntmps-aI.length)=N at ao;generalize aJ:On P H T inl c N aI S=t at ao;unfold VA at ao⊢
   split at ao
   ·rename_i Ou
    obtain⟨g1,g2,g3⟩:=jT (t.rel De) none ao
    have sI:t.safe M e:=(na (VC t)).1 g1
    have VD:=xi (T:=T) (B:=S.n) (N:=N) cS (xk inl cS N S.n).1 (xk inl cS N S.n).2 c 0 (xj aI S) e (zf3 ag av) hf (by
     unfold On at aJ;rw[aJ];exact sI)
    have cI:comp P N S.n T inl (H.L N S.n inl) (H.D N S.n inl) c 0 (xj aI S)=t:=aJ
    rw[cI,←me,zf2,me]at VD;refine eJ.zcV (k:=fn.ntmps-aI.length) o5 hc (by rw[oP]) (b2.zf4 (b2.mono VD fun ex st ar=>?_))
    obtain⟨x,bP,aF,ab,ae,aw,aM,bn,cl,dW⟩:=ar;refine⟨_,aw,?_⟩
    obtain⟨ly,dr,bg,dp,di⟩:=k8 (M:=M) (e:=e) Ou;rw[ab]at dp
    cases dp
    have ah:run M (t.rel De) e=some (.b8,bP,aF):=by
     rw[CC (VC t),ab]
     cases x<;>first|rfl|cases di
    obtain⟨Df,_⟩:=g3 bP aF ah;rw[ah]at g2
    have g2:run M ((t.rel De).eW (Hr P fn N) none) e=run M (Hr P fn N bP) aF:=g2
    unfold Hr at Df g2
    split at Df
    ·rename_i v az
     split at Df
     ·rename_i qW
      simp only[az,qW]at g2;refine⟨(by cases x<;>cases ex<;>first|exact .inl rfl|exact .inr rfl|exact ae.elim|cases di),v.den G aF,c6 G aF bP.h,zf1 bn az,fun _ _ h=>h,{bP with l:=bd.put .emp 0 v},aF,g2,?_,rfl,⟨fun i x hx=>?_,aM.h,aM.g⟩,bn,cl,dW⟩
      ·simp only[ay.at,bd.kl,if_true]
      ·simp only[bd.kl]at hx
       split at hx
       ·cases hx;exact qW
       ·simp[bd.get]at hx
     ·exact Df.elim
    ·exact Df.elim
   ·exact ao.elim
  ·exact ao.elim
 ·exact ao.elim
end
end Go.aK
