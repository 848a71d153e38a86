/- TD, part Q: regions whose order is fixed. Conditions: none. -/
import Derived.Test.YtmkpmgfieagphaaGreatDoorHTDm2
namespace Go.aN
open Go
def yf(k:Nat):bT→List cc
 | .f1 .oe x=>[.d1 k .oe x]
 | .f1 (.iX c) x=>[.d1 k (.iX c) x]
 | .f1 .nq x=>[.d1 k .nq x]
 | .f2 (.jy .add .i64 .i64) x y=>[.d2 k (.jy .add .i64 .i64) x y]
 | .f2 (.po .lss .i64) x y=>[.d2 k (.po .lss .i64) x y]
 |_=>[]
def yg(k:Nat):List bT→List cc→List cc
 |[],g=>g
 |x::r,g=>yg (k+1) r (yf k x++g)
def ar.e5(S:ar)(k:Nat)(xs:List bT):ar:={S with k:=k+xs.length,g:=yg k xs S.g}
inductive FO where
 |yes
 |no
 |on (gs:List (ab × Bool))
 |bad
def vL(l:List cc)(b:Bool):ab→FO
 | .cs (.bool c)=>match decide (c=b)with
  |true=>.yes
  |false=>.no
 | .tp _=>.no
 | .fN h c v=>match h.rt with
  |some .bool=>match vL l b v with
   | .yes=>.on [(h,c)]
   | .no=>.no
   | .on gs=>.on ((h,c)::gs)
   | .bad=>.bad
  |_=>.bad
 |g=>match g.rt,lq g l with
  |some .bool,some c=>match decide (c=b)with
   |true=>.yes
   |false=>.no
  |some .bool,none=>.on [(g,b)]
  |_,_=>.bad
def guardOf(N:Nat)(ops:Array Oper)(S:ar)(o:Oper):FO:=
 match o.guard with
 |none=>.yes
 |some (j,b)=>match my ops j with
  |some d=>match Nat.blt d N with
   |true=>vL S.g b ((S.at d).res S.g)
   |false=>.bad
  |none=>.bad
def hC:List (ab × Bool)→List cc→List cc
 |[],l=>l
 |(g,b)::r,l=>.eb g b::hC r l
def qK:List (ab × Bool)→fi→fi
 |[],n=>n
 |(g,b)::r,n=>.T7 g b (qK r n)
def lZ(k:Nat):List (ab × Bool)→Bool
 |[]=>true
 |(g,_)::r=>g.lt k&&lZ k r
def fR(e:Env):List (ab × Bool)→Bool
 |[]=>true
 |(g,b)::r=>(g.aA e .bool==b)&&fR e r
def N1(P:Program)(B:Nat)(S:ar)(t:TypeId)(x:ab):Option dn:=
 match x.rt,isStr P t&&Nat.ble B S.n with
 |some .str,true=>some ⟨[],[],none,(S.n,.it .st x (.cs (.int .i64 0)))::S.h,S.n+1,.ha S.n⟩
 |_,_=>none
def FP(P:Program)(N B:Nat)(T:List (Nat × bR))(S:ar)(o:Oper):Option dn:=
 match o.op with
 | .alloc t=>Nh P B S t
 | .box t x=>Ni B S t (S.a7 N x)
 | .store t p x=>Nj P S t (S.a7 N p) (S.a7 N x)
 | .buildSlice t len ps=>match Ns P N B T S t len ps.toList with
  |some r=>some r
  |none=>match Nt P B T S t len ps.toList with
   |some r=>some r
   |none=>match Nr P N T S t len ps.toList with
    |some r=>some r
    |none=>Nu P N B S t len ps.toList
 | .makeSlice t x y=>Nv P B T S t (S.a7 N x) (S.a7 N y)
 | .range t x=>N1 P B S t (S.a7 N x)
 | .makeMap t none=>NZ P B T S t
 | .mapUpdate t m x y=>N0 P T S t (S.a7 N m) (S.a7 N x) (S.a7 N y)
 | .call c=>match c.callee,c.args.toList,c.argTypes.toList with
  | .builtin .append,[x,y],[t,bL]=>match Nat.beq t bL with
   |true=>Nw P B S t (S.a7 N x) (S.a7 N y)
   |false=>Nx P B S t bL (S.a7 N x) (S.a7 N y)
  |_,_,_=>none
 |_=>none
structure qL where
 xs:List bT
 g:ab
 h:List (Nat × bO)
 v:ab
 bo:ab
def Ve(S:ar)(x:ab):Option qL:=
 match x with
 | .ha id=>match dm S.h id with
  |some (.it .st s p)=>match s.rt,p.rt with
   |some .str,some (.int .i64)=>some ⟨[.f2 .ma s p,.f2 .mc s p,.f2 .mb s p,.f2 .kX s p],.aV .bool S.k,jz S.h id (.it .st s (.aV (.int .i64) (S.k+3))),
    .tp [.cs (.bool true),.aV (.int .i64) (S.k+1),.aV (.int .i32) (S.k+2)],.tp [.cs (.bool false)]⟩
   |_,_=>none
  |_=>none
 |_=>none
def N2(N:Nat)(S:ar)(o:Oper):Option qL:=
 match o.op with
 | .next x true=>Ve S (S.a7 N x)
 |_=>none
def qL.ok(q:qL)(S:ar):Bool:=(hB S.k q.xs&&q.g.lt (S.k+q.xs.length))&&(eM (S.k+q.xs.length) q.h&&(q.v.lt (S.k+q.xs.length)&&q.bo.lt (S.k+q.xs.length)))
def qL.st(q:qL)(S:ar)(dst:Option Nat):ar:=(ar.put {S.e5 S.k q.xs with h:=q.h,g:=.eb q.g true::(S.e5 S.k q.xs).g} dst q.v).FK
def qL.yh(q:qL)(S:ar)(dst:Option Nat):ar:=(ar.put {S.e5 S.k q.xs with g:=.eb q.g false::(S.e5 S.k q.xs).g} dst q.bo).FK
def bO.kind:bO→bO→Bool
 | .dv _ _,.dv _ _=>true
 | .rw _ c _,.rw _ d _=>Nat.beq (b4 c) (b4 d)
 | .it _ _ _,.it _ _ _=>true
 |_,_=>false
def BH(n:Nat)(aJ:List (Nat × bO)):List (Nat × bO)→Bool
 |[]=>true
 |(id,o)::r=>(match Nat.blt id n with
  |true=>match dm aJ id with
   |some cG=>bO.kind cG o
   |none=>false
  |false=>true)&&BH n aJ r
mutual
def ab.r5(n:Nat):ab→Bool
 | .cr l=>ab.tx n l
 | .tp l=>ab.tx n l
 | .ej k _=>Nat.blt k n
 | .gR k _ _=>Nat.blt k n
 | .gY k _ _ _=>Nat.blt k n
 | .aP k=>Nat.blt k n
 | .cM k _=>Nat.blt k n
 | .fp _ (some k) _=>Nat.blt k n
 | .fn _ a b=>ab.tx n a&&ab.tx n b
 | .ha k=>Nat.blt k n
 | .fN _ _ x=>ab.r5 n x
 |_=>true
def ab.tx(n:Nat):List ab→Bool
 |[]=>true
 |x::r=>ab.r5 n x&&ab.tx n r
end
def ou(n:Nat):List (Nat × bO)→Bool
 |[]=>true
 |(id,.dv _ l)::r=>Nat.blt id n&&(ab.tx n l&&ou n r)
 |(id,.rw _ _ _)::r=>Nat.blt id n&&ou n r
 |(id,.it _ _ _)::r=>Nat.blt id n&&ou n r
def ar.back(S:ar)(dst:Option Nat)(C:ar):ar:=(⟨S.l,C.h,C.n,C.k,C.g⟩:ar).put dst (C.at 0)
def FQ(S C:ar):Bool:=(ab.r5 C.n (C.at 0)&&ou C.n C.h)&&(Nat.ble S.n C.n&&BH S.n S.h C.h)
def BI(S:ar)(dst:Option Nat)(C:ar):aC:=
 match FQ S C with
 |true=>.cQ .ct (S.back dst C)
 |false=>.bad 34
def N3(C:ar):List ab→List ab→Nat→Option (Nat × Nat × Nat)
 | .aP k::r,.aP m::eY,off=>match Nat.beq k m,dm C.h k,dm C.h m with
  |false,none,some (.rw _ _ _)=>some (off,k,m)
  |_,_,_=>N3 C r eY (off+1)
 |_::r,_::eY,off=>N3 C r eY (off+1)
 |_,_,_=>none
def FR(C:ar):List (Nat × bO)→Option (Nat × Nat × Nat × Nat)
 |[]=>none
 |(id,.dv _ ziu)::r=>match dm C.h id with
  |some (.dv _ l)=>match N3 C ziu l 0 with
   |some (off,k,m)=>some (id,off,k,m)
   |none=>FR C r
  |_=>FR C r
 |_::r=>FR C r
def FT(m:Nat):Option ab→Bool
 |some (.aP j)=>Nat.beq j m
 |_=>false
def yi(B id off k m:Nat)(C:ar):ar:=
 match dm C.h id,dm C.h m with
 |some (.dv t l),some (.rw gS c x)=>match FT m (l[off]?)&&((Nat.ble B k&&Nat.blt k C.n)&& !(Nat.beq id k))with
  |true=>⟨(C.l.map (ab.kill m)).map (ab.kill k),jz ((k,.rw gS c x)::hA k (hA m C.h)) id (.dv t ((ab.eo k (ab.eo m l)).set off (.aP k))),C.n,C.k,C.g⟩
  |false=>C
 |_,_=>C
def vM(B:Nat)(S C:ar):ar:=
 match FR C S.h with
 |some (id,off,k,m)=>yi B id off k m C
 |none=>C
def N4(B:Nat)(C:ar):List (Nat × bO)→Option Nat
 |[]=>none
 |(id,.rw _ _ _)::r=>match dm C.h id,Nat.ble B id with
  |none,true=>some id
  |_,_=>N4 B C r
 |_::r=>N4 B C r
def tz(B d k m:Nat)(C:ar):ar:=
 match dm C.h m with
 |some (.rw gS c x)=>match FT m (C.l.get d)&&(Nat.ble B k&&Nat.blt k C.n)with
  |true=>ar.put ⟨(C.l.map (ab.kill m)).map (ab.kill k),(k,.rw gS c x)::hA k (hA m C.h),C.n,C.k,C.g⟩ (some d) (.aP k)
  |false=>C
 |_=>C
def vN(B N:Nat)(S C:ar)(dst:Option Nat):ar:=
 match dst with
 |some d=>match C.l.get d,N4 B C S.h with
  |some (.aP m),some k=>match Nat.ble S.n m&&Nat.blt d N with
   |true=>match Nat.blt d N with
    |true=>tz B d k m C
    |false=>C
   |false=>C
  |_,_=>C
 |none=>C
def BJ(P:Program)(N:Nat)(S:ar)(o:Oper):Option (Nat × List ab):=
 match o.op with
 | .call c=>match c.callee with
  | .value x=>match S.a7 N x with
   | .fn (.func f) p q=>some (f,p++c.args.toList.map (S.a7 N)++q)
   |_=>none
  | .invoke x name=>match S.a7 N x with
   | .eB t a rs l=>match methodOf P t name,rZ a l,decide (pA l=some rs)with
    |some f,some v,true=>some (f,[v]++c.args.toList.map (S.a7 N)++[])
    |_,_,_=>none
   |_=>none
  |_=>none
 |_=>none
def ab.nh(id:Nat)(x y:ab):ab:=
 match y with
 | .aP j=>match Nat.beq j id with
  |true=>x
  |false=>.aP j
 |y=>ab.kill id y
def N5(id:Nat)(x:ab)(S:ar):ar:=⟨S.l.map (ab.nh id x),hA id S.h,S.n,S.k,S.g⟩
def yj(S:ar)(id:Nat):ar:=
 match dm S.h id with
 |some (.rw _ c (.aV r k))=>match hV r (.li c)with
  |true=>N5 id (.aV r k) S
  |false=>S
 |_=>S
def mO:List ab→ar→ar
 |[],S=>S
 | .aP id::r,S=>mO r (yj S id)
 |_::r,S=>mO r S
def Vf(f:Nat):List Nat→Bool
 |[]=>false
 |g::r=>Nat.beq g f||Vf f r
def preB(P:Program)(N:Nat)(S:ar)(o:Oper):Option (List ab):=
 match o.op with
 | .call _=>match o.guard with
  |some _=>none
  |none=>match BJ P N S o with
   |some (f,aG)=>match Vf f zgn with
    |true=>some aG
    |false=>none
   |none=>none
 |_=>none
def BK(f:gL)(x:ab):List cc→Option Nat
 |[]=>none
 | .d1 j g y::r=>match decide (g=f)&&eN y x with
  |true=>some j
  |false=>BK f x r
 |_::r=>BK f x r
def N6(S:ar)(r:dy):Option (aW × Nat):=
 match r.xs,r.ns,r.v with
 |[.f1 f x],[],.aV t k=>match Nat.beq k S.k with
  |true=>match BK f x S.g with
   |some j=>match Nat.blt j S.k with
    |true=>some (t,j)
    |false=>none
   |none=>none
  |false=>none
 |_,_,_=>none
def Vg(f:cI)(a b:Int):Option ab:=
 match f with
 | .jy .add .i64 .i64=>some (.cs (.int .i64 (bn .add .i64 a b)))
 | .jy .sub .i64 .i64=>some (.cs (.int .i64 (bn .sub .i64 a b)))
 | .jy .mul .i64 .i64=>some (.cs (.int .i64 (bn .mul .i64 a b)))
 | .po op .i64=>some (.cs (.bool (Be op a b)))
 |_=>none
def N7(S:ar)(r:dy):Option ab:=
 match r.xs,r.ns,r.v with
 |[.f2 f (.cs (.int .i64 a)) (.cs (.int .i64 b))],[],.aV t k=>match Nat.beq k S.k&&hV t f.c with
  |true=>Vg f a b
  |false=>none
 |_,_,_=>none
def N8(o:Oper):Nat:=
 match o.op with
 | .pick _ _ _=>1
 | .alloc _=>2
 | .box _ _=>3
 | .build _ _=>4
 | .buildSlice _ _ _=>5
 | .insert _ _ _ _=>6
 | .load _ _=>7
 | .store _ _ _=>8
 | .nilCheck _=>9
 | .binOp _ _ _ _ _=>10
 | .unOp _ _ _=>11
 | .convert _ _ _=>12
 | .makeInterface _ _=>13
 | .makeFunc _ _ _=>14
 | .makeMap _ _=>15
 | .makeSlice _ _ _=>16
 | .slice _ _ _ _ _=>17
 | .fieldAddr _ _ _=>18
 | .field _ _ _=>19
 | .indexAddr _ _ _=>20
 | .index _ _ _=>21
 | .lookup _ _ _ _=>22
 | .mapUpdate _ _ _ _=>23
 | .call c=>match c.callee with
  | .builtin .append=>30
  | .builtin .len=>31
  | .builtin .copy=>32
  | .builtin _=>33
  | .value _=>34
  |_=>35
 | .range _ _=>40
 | .next _ _=>41
 | .extract _ _=>42
 |_=>50
def exec(P:Program)(N B:Nat)(T:List (Nat × bR))(inl:Nat→List ab→ar→aC)(o:Oper)(S:ar)(k:ar→aC):aC:=
 match qG P N S o with
 |some r=>match hB S.k r.xs&&r.v.lt (S.k+r.xs.length)with
  |true=>match N6 S r with
   |some (t,j)=>k (S.put o.dst (.aV t j))
   |none=>match N7 S r with
    |some v=>k (S.put o.dst v)
    |none=>emit S.k r.xs r.ns (k ((S.e5 S.k r.xs).put o.dst r.v))
  |false=>.bad 30
 |none=>match FP P N B T S o with
  |some r=>match hB S.k r.xs&&(r.v.lt (S.k+r.xs.length)&&eM (S.k+r.xs.length) r.h)with
   |true=>emit S.k r.xs r.ns (k ((r.st S o.dst).e5 S.k r.xs))
   |false=>.bad 31
  |none=>match N2 N S o with
   |some q=>match q.ok S with
    |true=>emit S.k q.xs [] (.it q.g (k (q.st S o.dst)) (k (q.yh S o.dst)))
    |false=>.bad 33
   |none=>match BJ P N S o with
    |some (f,aG)=>match nd P f with
     |true=>iO N S ((inl f aG S).eP (BI S o.dst) none) fun C=>k (vN B N S (vM B S C) o.dst)
     |false=>.bad 32
    |none=>.bad (100+N8 o)
def FU(g:ab)(b:Bool)(x y:aC):aC:=
 match b with
 |true=>.it g x y
 |false=>.it g y x
def tA(y:List cc→aC):List (ab × Bool)→aC→List cc→aC
 |[],x,_=>x
 |(g,b)::r,x,l=>FU g b (tA y r x (.eb g b::l)) (y (.eb g (!b)::l))
def r6(S:ar)(dst:Option Nat)(l:List cc):aC:=.cQ .ct (ar.put {S with g:=l} dst (.tp []))
def hN(P:Program)(N B:Nat)(T:List (Nat × bR))(inl:Nat→List ab→ar→aC)(ops:Array Oper):List Oper→ar→aC
 |[],S=>.cQ .ct S
 |o::r,S=>match guardOf N ops S o with
  | .yes=>match preB P N S o with
   |some aG=>exec P N B T inl o (mO aG S) (hN P N B T inl ops r)
   |none=>exec P N B T inl o S (hN P N B T inl ops r)
  | .no=>hN P N B T inl ops r (S.put o.dst (.tp []))
  | .on gs=>match lZ S.k gs with
   |true=>match qG P N {S with g:=hC gs S.g} o with
    |some q=>match hB S.k q.xs&&q.v.lt (S.k+q.xs.length)with
     |true=>emit S.k q.xs (q.ns.map (qK gs)) (hN P N B T inl ops r ((S.e5 S.k q.xs).put o.dst (ko gs q.v)))
     |false=>.bad 35
    |none=>qI N S o.dst gs (tA (r6 S o.dst) gs (exec P N B T inl o {S with g:=hC gs S.g} (.cQ .ct)) S.g) (hN P N B T inl ops r)
   |false=>.bad 36
  | .bad=>.bad 37
section
variable {P:Program} {G:bc} {N B:Nat} {M:List aS} {T:List (Nat × bR)} {inl:Nat→List ab→ar→aC}
theorem ziv{S:ar}{o:Oper}{t:TypeId}{x:Operand}{r:dn}(ao:o.op= .range t x)(h:N1 P B S t (S.a7 N x)=some r):mM P G N B M o S r:=fun e hf hx hn=>by
 unfold N1 at h
 split at h
 ·rename_i Bt hc
  cases h;simp only[Bool.and_eq_true]at hc
  have jC:aL G (S.den G N B e) x= .av (.v (.string ((S.a7 N x).aA e .str))):=by rw[bP hf];exact ga Bt
  have:=zf1 (P:=P) (G:=G) (s:=S.den G N B e) t x ao (u3 hc.1) jC (Nat.le_of_ble_eq_true hc.2)
  unfold dn.st;rw[ff];exact this
 ·cases h
theorem ziw{S:ar}{o:Oper}{q:qL}{e:Env}(h:N2 N S o=some q)(hf:S.cC e)(hx: ∀(j:Nat) (x:bT),q.xs[j]? =some x→Env.at e (S.k+j)=x.den M e):
 (q.g.aA e .bool=true→dY P G o (S.den G N B e) ((ar.put {S with h:=q.h} o.dst q.v).den G N B e))∧(q.g.aA e .bool=false→dY P G o (S.den G N B e) ((S.put o.dst q.bo).den G N B e)):=by
 unfold N2 at h
 split at h
 ·rename_i x ao
  unfold Ve at h
  split at h
  ·rename_i id ax
   split at h
   ·rename_i s p ah
    split at h
    ·rename_i aa ae
     cases h
     have jC:aL G (S.den G N B e) x= .ref id:=by rw[bP hf,ax];rfl
     have bj:aE (S.den G N B e).heap id=some (.bU (qt (s.aA e .str) (Int.toNat (p.aA e (.int .i64))))):=by
      show aE (cF G e S.h) id=_;rw[er,ah];rfl
     have x0:=hx 0 _ rfl
     have an:=hx 1 _ rfl
     have bJ:=hx 2 _ rfl
     have b8:=hx 3 _ rfl
     simp only[bT.den,cI.den,Nat.add_zero]at x0 an bJ b8
     have tt:(ab.aV .bool S.k).aA e .bool=decide (Int.toNat (p.aA e (.int .i64))<ByteArray.size (s.aA e .str)):=by
      simp only[ab.aA,ab.fw,ab.dyn,x0,cH]
     refine⟨fun aH=>?_,fun aH=>?_⟩
     ·rw[tt]at aH
      have:=zf3 (P:=P) (G:=G) (s:=S.den G N B e) x ao jC bj (of_decide_eq_true aH) (c:=(Utf8.decode (s.aA e .str) (Int.toNat (p.aA e (.int .i64)))).1) (k:=(Utf8.decode (s.aA e .str) (Int.toNat (p.aA e (.int .i64)))).2) rfl
      rw[ff]
      have a6:(({S with h:=jz S.h id (.it .st s (.aV (.int .i64) (S.k+3)))}:ar).den G N B e)={S.den G N B e with heap:=eU (S.den G N B e).heap id (.bU (qt (s.aA e .str) (Int.toNat (p.aA e (.int .i64))+(Utf8.decode (s.aA e .str) (Int.toNat (p.aA e (.int .i64)))).2)))}:=by
       simp only[ar.den,tj,bO.den]
       congr 3
       simp only[ab.aA,ab.fw,ab.dyn,b8,cH];rfl
      rw[a6]
      have zix:(ab.tp [.cs (.bool true),.aV (.int .i64) (S.k+1),.aV (.int .i32) (S.k+2)]).den G e= .tuple [.av (.v (.bool true)),.av (.v (.int .i64 ((Int.toNat (p.aA e (.int .i64)):Nat):Int))),.av (.v (.int .i32 (((Utf8.decode (s.aA e .str) (Int.toNat (p.aA e (.int .i64)))).1:Nat):Int)))]:=by
       simp only[ab.den,ab.bX,an,bJ,cH,fL,kg]
      rw[zix];exact this
     ·rw[tt]at aH
      have:=zf2 (P:=P) (G:=G) (s:=S.den G N B e) x ao jC bj (Nat.le_of_not_lt (of_decide_eq_false aH))
      rw[ff];exact this.step
    ·cases h
   ·cases h
  ·cases h
 ·cases h
theorem Vh{S:ar}{o:Oper}{r:dn}(h:FP P N B T S o=some r):mM P G N B M o S r:=by
 unfold FP at h
 split at h
 ·exact zhS (by assumption) h
 ·exact zhT (by assumption) h
 ·exact zhV (by assumption) h
 ·split at h
  ·rename_i aK
   cases h;exact zh8 (by assumption) aK
  ·split at h
   ·rename_i aK
    cases h;exact zh7 (by assumption) aK
   ·split at h
    ·rename_i aK
     cases h;exact zh5 (by assumption) aK
    ·exact zh9 (by assumption) h
 ·exact zia (by assumption) h
 ·exact ziv (by assumption) h
 ·exact zis (by assumption) h
 ·exact zit (by assumption) h
 ·rename_i c ao
  split at h
  ·rename_i x y t bL hc hx aH
   split at h
   ·rename_i ad
    have:=Nat.eq_of_beq_eq_true ad
    subst this;obtain⟨callee,args,ts⟩:=c;simp only at hc hx aH;rw[hc,A2 hx,A2 aH]at ao;exact zid ao h
   ·obtain⟨callee,args,ts⟩:=c
    simp only at hc hx aH;rw[hc,A2 hx,A2 aH]at ao;exact zie ao h
  ·cases h
 ·cases h
theorem tB{g:ab}{a b:aC}{e:Env}{v:Bool}(h:g.aA e .bool=v):run M (.it g a b) e=match v with|true=>run M a e|false=>run M b e:=by
 simp only[run,aC.fold,h]
 cases v<;>rfl
def BL:b5→Exit→Prop
 | .ct,.normal=>True
 | .ext n,.exit m=>n=m
 | .ret,.ret=>True
 |_,_=>False
def jF(G:bc)(N B:Nat)(M:List aS)(t:aC)(e:Env)(a1:Nat):Exit→aQ→Prop:=fun ex st=>
 ∃x dq az,run M t e=some (x,dq,az)∧BL x ex∧cw st (dq.den G N B az)∧dq.cB∧dq.cC az∧b2 a1 e az∧a1≤dq.k
theorem jF.sub{t bL:aC}{e az:Env}{k bs:Nat}{ex:Exit}{st:aQ}(h:jF G N B M bL az bs ex st)(ag:run M t e=run M bL az)(aY:b2 k e az)(aj:k≤bs):jF G N B M t e k ex st:=by
 obtain⟨x,dq,bl,aa,ae,au,aR,bN,cL,eH⟩:=h
 exact⟨x,dq,bl,ag.trans aa,ae,au,aR,bN,b2.trans aY cL aj,Nat.le_trans aj eH⟩
theorem Vi{x:b5}{ex:Exit}(h:BL x ex)(n:Nat):x.bZ n=false:=by
 cases x with
 |lp m=>cases ex<;>cases h
 |_=>rfl
def fT(P:Program)(G:bc)(M:List aS)(inl:Nat→List ab→ar→aC):Prop:=
 ∀f aG (S:ar) e,S.cB→ab.cV S.k aG=true→S.cC e→(inl f aG S).safe M e→
  dN P G f (ab.bX G e aG) (cF G e S.h) S.n fun r b0=>∃C az,run M (inl f aG S) e=some (.ct,C,az)∧r=(C.at 0).den G az∧b0=cF G az C.h∧C.cB∧C.cC az∧b2 S.k e az∧S.k≤C.k
theorem ziy{e:Env}{k:Nat}{x:bT}(h:Env.at e k=x.den M e): ∀c∈yf k x,c.ok e:=fun c hc=>by
 unfold yf at hc
 split at hc
 ·rw[List.mem_singleton]at hc;subst hc;exact h
 ·rw[List.mem_singleton]at hc;subst hc;exact h
 ·rw[List.mem_singleton]at hc;subst hc;exact h
 ·rw[List.mem_singleton]at hc;subst hc;exact h
 ·rw[List.mem_singleton]at hc;subst hc;exact h
 ·cases hc
theorem ziz{k:Nat}{x:bT}(h:x.lt k=true):fq (k+1) (yf k x)=true:=by
 have ad:Nat.blt k (k+1)=true:=jX (Nat.lt_succ_self k)
 unfold yf
 split
 ·simp only[fq,cc.lt,ad,gI (Nat.le_succ k) (x:=_) h,Bool.and_self]
 ·simp only[fq,cc.lt,ad,gI (Nat.le_succ k) (x:=_) h,Bool.and_self]
 ·simp only[fq,cc.lt,ad,gI (Nat.le_succ k) (x:=_) h,Bool.and_self]
 ·simp only[bT.lt,Bool.and_eq_true]at h
  simp only[fq,cc.lt,ad,gI (Nat.le_succ k) h.1,gI (Nat.le_succ k) h.2,Bool.and_self]
 ·simp only[bT.lt,Bool.and_eq_true]at h
  simp only[fq,cc.lt,ad,gI (Nat.le_succ k) h.1,gI (Nat.le_succ k) h.2,Bool.and_self]
 ·rfl
theorem Vj{k:Nat}: ∀{a b:List cc},fq k a=true→fq k b=true→fq k (a++b)=true
 |[],_,_,h=>h
 |c::a,b,h,h'=>by
  simp only[fq,Bool.and_eq_true]at h;simp only[List.cons_append,fq,h.1,Vj h.2 h',Bool.and_self]
theorem Vk{e:Env}: ∀{xs:List bT} {k:Nat} {g:List cc},(∀c∈g,c.ok e)→(∀(j:Nat) (x:bT),xs[j]? =some x→Env.at e (k+j)=x.den M e)→∀c∈yg k xs g,c.ok e
 |[],_,_,h,_=>h
 |x::r,k,g,h,hx=>by
  refine Vk (xs:=r) (k:=k+1) (fun c hc=>?_) fun j y ay=>?_
  ·rcases List.mem_append.1 hc with hc|hc
   ·exact ziy (hx 0 x (by simp)) c hc
   ·exact h c hc
  ·have:=hx (j+1) y (by simpa using ay)
   rw[show k+1+j=k+(j+1)by omega];exact this
theorem Vl: ∀{xs:List bT} {k:Nat} {g:List cc},hB k xs=true→fq k g=true→fq (k+xs.length) (yg k xs g)=true
 |[],_,_,_,h=>h
 |x::r,k,g,aq,h=>by
  simp only[hB,Bool.and_eq_true]at aq
  have:=Vl (xs:=r) (k:=k+1) (g:=yf k x++g) aq.2 (Vj (ziz aq.1) (om (Nat.le_succ k) h))
  rw[List.length_cons,show k+(r.length+1)=k+1+r.length by omega]
  exact this
theorem r7{S:ar}{e:Env}{xs:List bT}(ad:S.cB)(hf:S.cC e)(aq:hB S.k xs=true):
 (S.e5 S.k xs).cB∧(S.e5 S.k xs).cC (dt M e S.k xs)∧(S.e5 S.k xs).den G N B (dt M e S.k xs)=S.den G N B e:=by
 have aY:b2 S.k e (dt M e S.k xs):=jY (Nat.le_refl _)
 refine⟨⟨fun i x hx=>gI (Nat.le_add_right _ _) (ad.l i x hx),tk (Nat.le_add_right _ _) ad.h,Vl aq ad.g⟩,Vk (iu aY ad.g hf) (jD aq),?_⟩
 exact(lr aY ad:S.den G N B (dt M e S.k xs)=S.den G N B e)
theorem jh{S:ar}{dst:Option Nat}{v:ab}(ad:S.cB)(ax:v.lt S.k=true):(S.put dst v).cB:=by
 cases dst with
 |none=>exact ad
 |some d=>
  refine⟨fun i x hx=>?_,ad.h,ad.g⟩
  simp only[ar.put,bd.h5]at hx
  split at hx
  ·cases hx;exact ax
  ·exact ad.l i x hx
theorem BM{e:Env}{f:gL}{x:ab}{j:Nat}: ∀{l:List cc},BK f x l=some j→(∀c∈l,c.ok e)→Env.at e j=⟨f.c,f.den (x.aA e f.a)⟩
 | .d1 i g y::r,h,hc=>by
  simp only[BK]at h
  split at h
  ·rename_i ad
   cases h;simp only[Bool.and_eq_true,decide_eq_true_eq]at ad
   have:=hc (.d1 j g y) (by simp)
   simp only[cc.ok]at this;rw[this,ad.1,e4 ad.2]
  ·exact BM h fun c hm=>hc c (by simp[hm])
 | .d2 _ _ _ _::r,h,hc=>BM (l:=r) h fun c hm=>hc c (by simp[hm])
 | .rg _ _::r,h,hc=>BM (l:=r) h fun c hm=>hc c (by simp[hm])
 | .eb _ _::r,h,hc=>BM (l:=r) h fun c hm=>hc c (by simp[hm])
theorem ziA{S:ar}{r:dy}{t:aW}{j:Nat}{e:Env}(h:N6 S r=some (t,j))(hf:S.cC e)(aq:hB S.k r.xs=true):(ab.aV t j).den G e=r.v.den G (dt M e S.k r.xs)∧Nat.blt j S.k=true∧r.ns=[]:=by
 unfold N6 at h
 split at h
 ·rename_i f x bL k hx hn ax
  split at h
  ·rename_i aj
   split at h
   ·rename_i zmh af
    split at h
    ·rename_i bM
     cases h;refine⟨?_,bM,hn⟩
     have aa:=BM af hf
     have ae:=jD (M:=M) (e:=e) aq 0 (.f1 f x) (by rw[hx];rfl)
     rw[Nat.add_zero]at ae;rw[ax,Nat.eq_of_beq_eq_true aj];simp only[ab.den];rw[aa,ae]
     have ziB:x.lt S.k=true:=by
      rw[hx]at aq;simp only[hB,bT.lt,Bool.and_eq_true]at aq;exact aq.1
     simp only[bT.den];rw[eK (jY (Nat.le_refl _)) ziB]
    ·cases h
   ·cases h
  ·cases h
 ·cases h
theorem ziC{S:ar}{r:dy}{v:ab}{e:Env}(h:N7 S r=some v)(aq:hB S.k r.xs=true):v.den G e=r.v.den G (dt M e S.k r.xs)∧v.lt S.k=true∧r.ns=[]:=by
 unfold N7 at h
 split at h
 ·rename_i f a b t k hx hn ax
  split at h
  ·rename_i aj
   simp only[Bool.and_eq_true]at aj
   have ae:=jD (M:=M) (e:=e) aq 0 _ (by rw[hx];rfl)
   rw[Nat.add_zero]at ae;rw[ax,Nat.eq_of_beq_eq_true aj.1,hy aj.2];unfold Vg at h
   split at h<;>first|cases h|skip
   all_goals
    refine⟨?_,rfl,hn⟩
    simp only[ab.den,ae,bT.den,cH,ab.aA,ab.fw,ab.dyn,cI.den];rfl
  ·cases h
 ·cases h
theorem ji{S:ar}{dst:Option Nat}{v:ab}{e:Env}(hf:S.cC e):(S.put dst v).cC e:=by
 cases dst<;>exact hf
theorem jj{S:ar}{dst:Option Nat}{v:ab}:(S.put dst v).k=S.k:=by cases dst<;>rfl
end
end Go.aN
namespace Go.aN
open Go
section
variable {P:Program} {G:bc} {N B:Nat} {M:List aS} {T:List (Nat × bR)} {inl:Nat→List ab→ar→aC}
theorem cD.ziD{ops:Array Oper}{o:Oper}{rest:List Oper}{s:aQ}{Q:Exit→aQ→Prop}{A:aQ→Prop}(ah:dV ops s o=some true)
 (h: ∀(E:Entry) (a:Act) (w:World),Rel E G s a w→∀(K:Act→World→Prop) (Q:Exit→Act→World→Prop),(∀t,A t→∀bg w',Rel E G t bg w'→K bg w')→o.wp P a w K Q)(k: ∀t,A t→cD P G ops Q rest t):cD P G ops Q (o::rest) s:=
 fun E a w ag=>wpList_step fun _ hK=>by
  have ay:=oa ag ah
  simp only[ay,if_true];exact h E a w ag _ _ fun t aH bg w' ed=>hK bg w' (k t aH E bg w' ed)
mutual
theorem FV{n:Nat}{e:Env}: ∀{x:ab},ab.r5 n x=true→gF n (x.den G e)=true:=fun {x} h=>by
 cases x with
 |cr l=>simp only[ab.den,gF];exact yk (l:=l) h
 |tp l=>simp only[ab.den,gF];exact yk (l:=l) h
 |fn f a b=>
  simp only[ab.r5,Bool.and_eq_true]at h;simp only[ab.den,gF,yk h.1,yk h.2,Bool.and_self]
 |ej k o=>simp only[ab.den,gF];exact decide_eq_true (fa h)
 |gR k x o=>simp only[ab.den,gF];exact decide_eq_true (fa (i:=k) h)
 |gY k o x n=>simp only[ab.den,gF];exact decide_eq_true (fa (i:=k) h)
 |cM k n=>simp only[ab.den,gF];exact decide_eq_true (fa (i:=k) h)
 |fp g i o=>
  cases i with
  |none=>simp only[ab.den];cases g.aA e .bool<;>rfl
  |some k=>
   have aa:decide (k<n)=true:=decide_eq_true (fa (i:=k) h)
   simp only[ab.den];cases g.aA e .bool
   ·rfl
   ·exact aa
 |aP k=>simp only[ab.den,gF];exact decide_eq_true (fa h)
 |ha k=>simp only[ab.den,gF];exact decide_eq_true (fa h)
 |fN g b x=>
  have:gF n (x.den G e)=true:=FV h
  simp only[ab.den]
  cases g.aA e .bool<;>cases b<;>first|exact this|rfl
 |lU g o=>simp only[ab.den];cases G g<;>rfl
 |_=>rfl
theorem yk{n:Nat}{e:Env}: ∀{l:List ab},ab.tx n l=true→k9 n (ab.bX G e l)=true:=fun {l} h=>by
 match l with
 |[]=>rfl
 |x::r=>
  simp only[ab.tx,Bool.and_eq_true]at h;simp only[ab.bX,k9,FV h.1,yk h.2,Bool.and_self]
end
theorem yl{n:Nat}{e:Env}: ∀{h:List (Nat × bO)},ou n h=true→la n (cF G e h)=true
 |[],_=>rfl
 |(id,.dv t l)::r,h=>by
  simp only[ou,Bool.and_eq_true]at h;simp only[cF,bO.den,la,yl h.2.2,yk h.2.1,decide_eq_true (fa h.1),Bool.and_self]
 |(id,.rw t c x)::r,h=>by
  simp only[ou,Bool.and_eq_true]at h;simp only[cF,bO.den,la,yl h.2,decide_eq_true (fa h.1),Bool.and_self]
 |(id,.it q x p)::r,h=>by
  simp only[ou,Bool.and_eq_true]at h;simp only[cF,bO.den,la,yl h.2,decide_eq_true (fa h.1),Bool.and_self]
theorem Vm: ∀{h:List (Nat × bO)} {id:Nat} {o:bO},dm h id=some o→(id,o)∈h
 |(i,p)::r,id,o,h=>by
  simp only[dm]at h
  split at h
  ·rename_i ad
   cases h;rw[Nat.eq_of_beq_eq_true ad];simp
  ·exact List.mem_cons_of_mem _ (Vm h)
theorem ziE{n:Nat}{aJ:List (Nat × bO)}{e az:Env}: ∀{h:List (Nat × bO)},BH n aJ h=true→∀id o,id<n→aE (cF G az h) id=some o→∃cG,aE (cF G e aJ) id=some cG∧Fq cG o:=by
 have key: ∀{h:List (Nat × bO)},BH n aJ h=true→∀id pG,(id,pG)∈h→id<n→∃cG,dm aJ id=some cG∧bO.kind cG pG=true:=by
  intro h
  induction h with
  |nil=>intro _ _ _ hm;cases hm
  |cons p r aZ=>
   obtain⟨j,q⟩:=p;intro aj id pG hm bM;simp only[BH,Bool.and_eq_true]at aj
   rcases List.mem_cons.1 hm with he|he
   ·cases he
    have aa:=aj.1
    rw[jX bM]at aa;simp only at aa
    split at aa
    ·rename_i cG ao;exact⟨cG,ao,aa⟩
    ·cases aa
   ·exact aZ aj.2 id pG he bM
 intro h aj id o bM ah
 rw[er]at ah
 cases ai:dm h id with
 |none=>rw[ai]at ah;cases ah
 |some pG=>
  rw[ai]at ah;cases ah;obtain⟨cG,aa,ae⟩:=key aj id pG (Vm ai) bM;refine⟨cG.den G e,by rw[er,aa];rfl,?_⟩
  cases cG<;>cases pG<;>first|trivial|(cases ae;done)|exact Nat.eq_of_beq_eq_true ae
mutual
theorem tC(id:Nat){k:Nat}: ∀{x:ab},x.lt k=true→(x.kill id).lt k=true:=fun {x} h=>by
 cases x with
 |cr l=>exact tD id (l:=l) h
 |tp l=>exact tD id (l:=l) h
 |fn f a b=>
  simp only[ab.lt,Bool.and_eq_true]at h;simp only[ab.kill,ab.lt,Bool.and_eq_true];exact⟨tD id h.1,tD id h.2⟩
 |fN g b x=>
  simp only[ab.lt,Bool.and_eq_true]at h;simp only[ab.kill,ab.lt,Bool.and_eq_true];exact⟨h.1,tC id h.2⟩
 |ej j o=>simp only[ab.kill];split<;>first|rfl|exact h
 |gR j x o=>simp only[ab.kill];split<;>first|rfl|exact h
 |gY j o x n=>simp only[ab.kill];split<;>first|rfl|exact h
 |cM j n=>simp only[ab.kill];split<;>rfl
 |fp g i o=>
  cases i with
  |none=>exact h
  |some j=>simp only[ab.kill];split<;>exact h
 |aP j=>simp only[ab.kill];split<;>first|rfl|exact h
 |ha j=>simp only[ab.kill];split<;>first|rfl|exact h
 |_=>exact h
theorem tD(id:Nat){k:Nat}: ∀{l:List ab},ab.cV k l=true→ab.cV k (ab.eo id l)=true:=fun {l} h=>by
 match l with
 |[]=>rfl
 |x::r=>
  simp only[ab.cV,Bool.and_eq_true]at h;simp only[ab.eo,ab.cV,Bool.and_eq_true];exact⟨tC id h.1,tD id h.2⟩
end
theorem Vn{S:ar}{o:Oper}{r:dn}{e:Env}(ad:S.cB)(hf:S.cC e)(aq:hB S.k r.xs=true)(ax:r.v.lt (S.k+r.xs.length)=true)(a6:eM (S.k+r.xs.length) r.h=true):
 ((r.st S o.dst).e5 S.k r.xs).cB∧((r.st S o.dst).e5 S.k r.xs).cC (dt M e S.k r.xs):=by
 obtain⟨cg,a2,_⟩:=r7 (M:=M) (G:=fun _=>none) (N:=0) (B:=0) ad hf aq
 have ah:(r.st S o.dst).g=S.g:=by unfold dn.st;cases o.dst<;>rfl
 refine⟨⟨fun i x hx=>?_,?_,?_⟩,?_⟩
 ·have hx:(r.st S o.dst).l.get i=some x:=hx
  show x.lt (S.k+r.xs.length)=true
  have base: ∀x,(r.l S.l).get i=some x→x.lt (S.k+r.xs.length)=true:=fun x hx=>by
   unfold dn.l at hx
   split at hx
   ·exact gI (Nat.le_add_right _ _) (ad.l i x hx)
   ·rw[bd.get_map]at hx
    cases aK:S.l.get i with
    |none=>rw[aK]at hx;cases hx
    |some y=>
     rw[aK]at hx;cases hx;exact tC _ (gI (Nat.le_add_right _ _) (ad.l i y aK))
  unfold dn.st at hx
  cases hd:o.dst with
  |none=>rw[hd]at hx;exact base x hx
  |some d=>
   rw[hd]at hx;simp only[ar.put,bd.h5]at hx
   split at hx
   ·cases hx;exact ax
   ·exact base x hx
 ·have:((r.st S o.dst).e5 S.k r.xs).h=r.h:=by unfold dn.st ar.e5;cases o.dst<;>rfl
  rw[this];exact a6
 ·show fq (S.k+r.xs.length) (yg S.k r.xs (r.st S o.dst).g)=true
  rw[ah];exact cg.g
 ·show ∀c∈yg S.k r.xs (r.st S o.dst).g,_
  rw[ah];exact a2
theorem BN{k:Nat}: ∀{a b:List ab},ab.cV k a=true→ab.cV k b=true→ab.cV k (a++b)=true
 |[],_,_,h=>h
 |x::a,b,h,h'=>by
  simp only[ab.cV,Bool.and_eq_true]at h;simp only[List.cons_append,ab.cV,h.1,BN h.2 h',Bool.and_self]
theorem N9{k:Nat}{x:ab}(hx:x.lt k=true): ∀{l:List ab} {i:Nat},ab.cV k l=true→ab.cV k (l.set i x)=true
 |[],_,h=>h
 |y::l,0,h=>by simp only[ab.cV,Bool.and_eq_true,List.set]at h⊢;exact⟨hx,h.2⟩
 |y::l,i+1,h=>by simp only[ab.cV,Bool.and_eq_true,List.set]at h⊢;exact⟨h.1,N9 hx h.2⟩
theorem FW{k:Nat}{o:bO}(ao:o.lt k=true): ∀{l:List (Nat × bO)} {i:Nat},eM k l=true→eM k (jz l i o)=true
 |[],_,_=>by simp only[jz,eM,ao,Bool.and_self]
 |(j,x)::l,i,h=>by
  simp only[eM,Bool.and_eq_true]at h;simp only[jz]
  split
  ·simp only[eM,Bool.and_eq_true];exact⟨ao,h.2⟩
  ·simp only[eM,Bool.and_eq_true];exact⟨h.1,FW ao h.2⟩
theorem vO{k id:Nat}{o:bO}: ∀{l:List (Nat × bO)},eM k l=true→dm l id=some o→o.lt k=true
 |[],_,h=>by cases h
 |(j,x)::l,aq,h=>by
  simp only[eM,Bool.and_eq_true]at aq;simp only[dm]at h
  split at h
  ·cases h;exact aq.1
  ·exact vO aq.2 h
theorem Oa{e:Env}{x:ab}: ∀{l:List ab} {i:Nat},ab.bX G e (l.set i x)=(ab.bX G e l).set i (x.den G e)
 |[],_=>rfl
 |y::l,0=>rfl
 |y::l,i+1=>by simp only[List.set,ab.bX,Oa (l:=l)]
theorem ov(id:Nat){k:Nat}: ∀{h:List (Nat × bO)},eM k h=true→eM k (hA id h)=true
 |[],h=>h
 |(j,.dv t l)::r,h=>by
  simp only[eM,Bool.and_eq_true]at h;unfold hA
  split
  ·exact ov id h.2
  ·simp only[eM,Bool.and_eq_true]
   exact⟨tD id h.1,ov id h.2⟩
 |(j,.rw t c x)::r,h=>by
  simp only[eM,Bool.and_eq_true]at h;unfold hA
  split
  ·exact ov id h.2
  ·simp only[eM,Bool.and_eq_true]
   exact⟨h.1,ov id h.2⟩
 |(j,.it q x p)::r,h=>by
  simp only[eM,Bool.and_eq_true]at h;unfold hA
  split
  ·exact ov id h.2
  ·simp only[eM,Bool.and_eq_true]
   exact⟨h.1,ov id h.2⟩
theorem ziF{id off k m:Nat}{C:ar}{e:Env}(ad:C.cB)(hf:C.cC e):(yi B id off k m C).cB∧(yi B id off k m C).cC e∧(yi B id off k m C).k=C.k∧cw (C.den G N B e) ((yi B id off k m C).den G N B e):=by
 unfold yi
 split
 ·rename_i t l gS c x ah hm
  split
  ·rename_i hc
   simp only[Bool.and_eq_true,Bool.not_eq_true']at hc;obtain⟨aM,⟨dg,cn⟩,gr⟩:=hc;refine⟨⟨fun i y ay=>?_,FW (o:=.dv t _) (N9 (x:=.aP k) rfl (tD _ (tD _ (vO (o:=.dv t l) ad.h ah)))) ?_,ad.g⟩,hf,rfl,?_⟩
   ·simp only[bd.get_map]at ay
    cases aK:C.l.get i with
    |none=>rw[aK]at ay;cases ay
    |some z=>
     rw[aK]at ay;simp only[Option.map_some,Option.some.injEq]at ay;subst ay;exact tC _ (tC _ (ad.l i z aK))
   ·have aa:=vO (o:=.rw gS c x) ad.h hm
    have ae:=ov k (ov m ad.h)
    simp only[eM,Bool.and_eq_true];exact⟨aa,ae⟩
   ·refine cw.zh1 id off m k gS (b4 c) (t:=t) (cs:=ab.bX G e l) (es:=List.map (ck c) (x.aA e (.li c))) (by simp only[ar.den,er,ah,Option.map_some,bO.den]) (by simp only[ar.den,er,hm,Option.map_some,bO.den]) ?_ (Nat.le_of_ble_eq_true dg) (fa cn) (Nat.ne_of_beq_eq_false gr) ?_
    ·rw[e9,List.getElem?_map]
     unfold FT at aM
     split at aM
     ·rename_i aq
      rw[aq]
      have:=Nat.eq_of_beq_eq_true aM
      subst this;rfl
     ·cases aM
    ·simp only[ar.den,yb,tj,cF,bO.den,pD,Oa,vH,ab.den]
  ·exact⟨ad,hf,rfl,cw.refl _⟩
 ·exact⟨ad,hf,rfl,cw.refl _⟩
theorem ziG{S C:ar}{e:Env}(ad:C.cB)(hf:C.cC e):(vM B S C).cB∧(vM B S C).cC e∧(vM B S C).k=C.k∧cw (C.den G N B e) ((vM B S C).den G N B e):=by
 unfold vM
 split
 ·exact ziF ad hf
 ·exact⟨ad,hf,rfl,cw.refl _⟩
theorem cw.tz{s bF:aQ}(d m k gS n:Nat){es:List (List ba)}(hm:aE s.heap m=some (.row false gS n es))(hc:s.c0[d]? =some (.aP m))(ad:s.base≤k)(bM:k<s.next)
 (h:(aQ.put ⟨eo k (eo m s.c0),(k,.row false gS n es)::dz k (dz m s.heap),s.next,s.base⟩ (some d) (.aP k):aQ)=bF):cw s bF:=by
 subst h
 intro E G a w ⟨β,ro,ag⟩
 have Np:=ag.heap.dh m _ hm
 have fh:=ag.UN (w':=w) m k ad bM hm (.row false gS n es) (β m) rfl rfl rfl (Nat.le_refl _) (fun _ _ _=>rfl) (fun _ ad=>.inl ad) rfl (by
  cases Np with
  |row _ _ _ xs aa ae au=>exact .row gS n es xs (by rw[dZ];exact aa) ae au)
 have ax:=ag.slot d _ hc
 have Vo:=fh.put (some d) (.aP k) (a.tmps.getD d undef) (by
  generalize a.tmps.getD d undef=bD at ax⊢
  cases ax with
  |aP _ _ _ ak=>
   refine .aP _ _ bM fun z bL cS dX _=>?_
   rw[ak _ _ _ _ hm]
   exact(dZ _ _ _).symm)
 have aY:a.put (some d) (a.tmps.getD d undef)=a:=by
  have hd:d<a.tmps.size:=by
   rw[ag.size];exact(List.getElem?_eq_some_iff.1 hc).1
  have:a.tmps.setIfInBounds d (a.tmps.getD d undef)=a.tmps:=by
   apply Array.ext
   ·simp
   ·intro i aa ae
    rw[Array.getElem_setIfInBounds]
    split
    ·rename_i hi
     subst hi;simp[Array.getD,hd]
    ·rfl
  show({a with tmps:=a.tmps.setIfInBounds d (a.tmps.getD d undef)}:Act)=a
  rw[this]
 rw[aY]at Vo
 exact⟨_,ro,Vo⟩
theorem ziH{d k m:Nat}{C:ar}{e:Env}(hd:d<N)(ad:C.cB)(hf:C.cC e):(tz B d k m C).cB∧(tz B d k m C).cC e∧(tz B d k m C).k=C.k∧cw (C.den G N B e) ((tz B d k m C).den G N B e):=by
 unfold Go.aN.tz
 split
 ·rename_i gS c x hm
  split
  ·rename_i hc
   simp only[Bool.and_eq_true]at hc;obtain⟨aM,dg,cn⟩:=hc;refine⟨jh ⟨fun i y ay=>?_,?_,ad.g⟩ rfl,ji hf,jj,?_⟩
   ·simp only[bd.get_map]at ay
    cases aK:C.l.get i with
    |none=>rw[aK]at ay;cases ay
    |some z=>
     rw[aK]at ay;simp only[Option.map_some,Option.some.injEq]at ay;subst ay;exact tC _ (tC _ (ad.l i z aK))
   ·have aa:=vO (o:=.rw gS c x) ad.h hm
    have ae:=ov k (ov m ad.h)
    simp only[eM,Bool.and_eq_true];exact⟨aa,ae⟩
   ·refine cw.tz d m k gS (b4 c) (es:=List.map (ck c) (x.aA e (.li c))) (by simp only[ar.den,er,hm,Option.map_some,bO.den]) ?_ (Nat.le_of_ble_eq_true dg) (fa cn) ?_
    ·unfold FT at aM
     split at aM
     ·rename_i aq
      have:=Nat.eq_of_beq_eq_true aM
      subst this;simp only[ar.den,oj,hd,if_true,Nat.zero_add,aq,ab.den]
     ·cases aM
    ·rw[ff]
     simp only[ar.den,yb,cF,bO.den,pD,ab.den]
  ·exact⟨ad,hf,rfl,cw.refl _⟩
 ·exact⟨ad,hf,rfl,cw.refl _⟩
theorem ziI{S C:ar}{dst:Option Nat}{e:Env}(ad:C.cB)(hf:C.cC e):(vN B N S C dst).cB∧(vN B N S C dst).cC e∧(vN B N S C dst).k=C.k∧cw (C.den G N B e) ((vN B N S C dst).den G N B e):=by
 unfold vN
 split
 ·split
  ·split
   ·split
    ·rename_i hd
     exact ziH (fa hd) ad hf
    ·exact⟨ad,hf,rfl,cw.refl _⟩
   ·exact⟨ad,hf,rfl,cw.refl _⟩
  ·exact⟨ad,hf,rfl,cw.refl _⟩
 ·exact⟨ad,hf,rfl,cw.refl _⟩
theorem Vp{o:Oper}{S:ar}{e:Env}{f:Nat}{aG:List ab}(h:BJ P N S o=some (f,aG))(hf:S.cC e)(ad:S.cB):
 ∃p q xs,ab.bX G e aG=p++xs.toList.map (aL G (S.den G N B e))++q∧vC P G o (S.den G N B e) f p q xs∧ab.cV S.k aG=true:=by
 have ym: ∀l:List Operand,ab.cV S.k (l.map (S.a7 N))=true:=fun l=>by
  induction l with
  |nil=>rfl
  |cons y r aZ=>simp only[List.map_cons,ab.cV,EY ad y,aZ,Bool.and_self]
 unfold BJ at h
 split at h
 ·rename_i c Bm
  obtain⟨callee,args,ts⟩:=c
  split at h
  ·rename_i x hx
   simp only at hx;subst hx
   split at h
   ·rename_i zmi p q' vy
    cases h;refine⟨ab.bX G e p,ab.bX G e q',args,?_,.value Bm (by rw[bP hf,vy];rfl),?_⟩
    ·rw[e9,e9,e9,List.map_append,List.map_append,List.map_map]
     congr 2
     exact List.map_congr_left fun y _=>(bP hf y).symm
    ·have fA:=EY (N:=N) ad x
     rw[vy]at fA;simp only[ab.lt,Bool.and_eq_true]at fA;exact BN (BN fA.1 (ym _)) fA.2
   ·cases h
  ·rename_i x name hx
   simp only at hx;subst hx
   split at h
   ·rename_i t a rs l vy
    split at h
    ·rename_i g v hm ax gi
     cases h;refine⟨[v.den G e],[],args,?_,.invoke Bm hm fun E a w β ro ag=>zhH hf vy ax (of_decide_eq_true gi) ag,?_⟩
     ·simp only[e9,List.map_append,List.map_map,List.map_cons,List.map_nil]
      congr 2
      exact List.map_congr_left fun y _=>(bP hf y).symm
     ·have fA:=EY (N:=N) ad x
      rw[vy]at fA;exact BN (BN (by simp only[ab.cV,zhJ fA ax,Bool.and_self]) (ym _)) rfl
    ·cases h
   ·cases h
  ·cases h
 ·cases h
theorem Ob(b1:fT P G M inl){ops:Array Oper}{o:Oper}{r:List Oper}{S:ar}{k:ar→aC}{e:Env}{Q:Exit→aQ→Prop}(ad:S.cB)(hf:S.cC e)(hw:dV ops (S.den G N B e) o=some true)(ai:(exec P N B T inl o S k).safe M e)
 (aj: ∀dq az,dq.cB→dq.cC az→b2 S.k e az→S.k≤dq.k→(k dq).safe M az→run M (exec P N B T inl o S k) e=run M (k dq) az→cD P G ops Q r (dq.den G N B az)):cD P G ops Q (o::r) (S.den G N B e):=by
 have iL:=ai
 unfold exec at iL
 split at iL
 ·rename_i q ax
  split at iL
  ·rename_i hc
   split at iL
   ·rename_i t j BO
    have fQ:exec P N B T inl o S k=k (S.put o.dst (.aV t j)):=by unfold exec;rw[ax];simp only[hc,BO]
    simp only[Bool.and_eq_true]at hc;obtain⟨cP,dC,zf⟩:=ziA (M:=M) (G:=G) BO hf hc.1
    have bY:b2 S.k e (dt M e S.k q.xs):=jY (Nat.le_refl _)
    have dJ:=vA (G:=G) (B:=B) (M:=M) ax (dt M e S.k q.xs) (iu bY ad.g hf) (jD hc.1) (by rw[zf];intro n hn;cases hn)
    rw[lr bY ad,←cP]at dJ
    have m4:(S.den G N B e).put o.dst ((ab.aV t j).den G e)=(S.put o.dst (.aV t j)).den G N B e:=by rw[ff]
    refine cD.step hw (m4 ▸ dJ.step) ?_
    exact aj _ e (jh ad dC) (ji hf) (b2.refl _ _) (by rw[jj];exact Nat.le_refl _) iL (by rw[fQ])
   rename_i BO
   split at iL
   ·rename_i v x4
    have fQ:exec P N B T inl o S k=k (S.put o.dst v):=by unfold exec;rw[ax];simp only[hc,BO,x4]
    simp only[Bool.and_eq_true]at hc;obtain⟨cP,dC,zf⟩:=ziC (M:=M) (G:=G) (e:=e) x4 hc.1
    have bY:b2 S.k e (dt M e S.k q.xs):=jY (Nat.le_refl _)
    have dJ:=vA (G:=G) (B:=B) (M:=M) ax (dt M e S.k q.xs) (iu bY ad.g hf) (jD hc.1) (by rw[zf];intro n hn;cases hn)
    rw[lr bY ad,←cP]at dJ
    have m4:(S.den G N B e).put o.dst (v.den G e)=(S.put o.dst v).den G N B e:=by rw[ff]
    refine cD.step hw (m4 ▸ dJ.step) ?_
    exact aj _ e (jh ad dC) (ji hf) (b2.refl _ _) (by rw[jj];exact Nat.le_refl _) iL (by rw[fQ])
   rename_i x4
   have fQ:exec P N B T inl o S k=emit S.k q.xs q.ns (k ((S.e5 S.k q.xs).put o.dst q.v)):=by unfold exec;rw[ax];simp only[hc,BO,x4]
   simp only[Bool.and_eq_true]at hc;obtain⟨gW,gz⟩:=mN iL;obtain⟨cg,a2,a3⟩:=r7 (M:=M) (G:=G) (N:=N) (B:=B) ad hf hc.1
   have bY:b2 S.k e (dt M e S.k q.xs):=jY (Nat.le_refl _)
   have dJ:=vA (G:=G) (B:=B) (M:=M) ax (dt M e S.k q.xs) (iu bY ad.g hf) (jD hc.1) gW
   rw[lr bY ad]at dJ
   have m4:(S.den G N B e).put o.dst (q.v.den G (dt M e S.k q.xs))=((S.e5 S.k q.xs).put o.dst q.v).den G N B (dt M e S.k q.xs):=by rw[ff,a3]
   refine cD.step hw (m4 ▸ dJ.step) ?_
   exact aj _ _ (jh cg hc.2) (ji a2) bY (by rw[jj];exact Nat.le_add_right _ _) gz (by rw[fQ,lY])
  ·exact iL.elim
 ·rename_i ax
  split at iL
  ·rename_i q aK
   split at iL
   ·rename_i hc
    have fQ:exec P N B T inl o S k=emit S.k q.xs q.ns (k ((q.st S o.dst).e5 S.k q.xs)):=by unfold exec;rw[ax,aK];simp only[hc]
    simp only[Bool.and_eq_true]at hc;obtain⟨gW,gz⟩:=mN iL
    have bY:b2 S.k e (dt M e S.k q.xs):=jY (Nat.le_refl _)
    have dJ:=Vh (G:=G) (M:=M) aK (dt M e S.k q.xs) (iu bY ad.g hf) (jD hc.1) gW
    rw[lr bY ad]at dJ;obtain⟨cP,dC⟩:=Vn (M:=M) (o:=o) ad hf hc.1 hc.2.1 hc.2.2;refine cD.step hw dJ ?_
    have rb:S.k≤((q.st S o.dst).e5 S.k q.xs).k:=Nat.le_add_right _ _
    exact aj ((q.st S o.dst).e5 S.k q.xs) _ cP dC bY rb gz (by rw[fQ,lY])
   ·exact iL.elim
  ·rename_i aK
   split at iL
   ·rename_i q qk
    split at iL
    ·rename_i hc
     have fQ:exec P N B T inl o S k=emit S.k q.xs [] (.it q.g (k (q.st S o.dst)) (k (q.yh S o.dst))):=by unfold exec;rw[ax,aK,qk];simp only[hc]
     simp only[qL.ok,Bool.and_eq_true]at hc;obtain⟨_,gz⟩:=mN iL
     have bY:b2 S.k e (dt M e S.k q.xs):=jY (Nat.le_refl _)
     obtain⟨cg,a2,a3⟩:=r7 (M:=M) (G:=G) (N:=N) (B:=B) ad hf hc.1.1;obtain⟨cP,dC⟩:=ziw (P:=P) (G:=G) (B:=B) qk (iu bY ad.g hf) (jD hc.1.1);rw[lr bY ad]at cP dC
     have rb: ∀b,Nat.ble S.k (S.k+b)=true:=fun b=>Nat.ble_eq_true_of_le (Nat.le_add_right _ _)
     have cA:run M (exec P N B T inl o S k) e=run M (.it q.g (k (q.st S o.dst)) (k (q.yh S o.dst))) (dt M e S.k q.xs):=by rw[fQ,lY]
     have eb: ∀b,q.g.aA (dt M e S.k q.xs) .bool=b→∀c∈(cc.eb q.g b::(S.e5 S.k q.xs).g),c.ok (dt M e S.k q.xs):=fun b ah c hm=>by
      rcases List.mem_cons.1 hm with rfl|hm
      ·exact ah
      ·exact a2 c hm
     cases ah:q.g.aA (dt M e S.k q.xs) .bool with
     |true=>
      refine cD.step hw (cP ah) ?_
      have qM:(q.st S o.dst).cB:=Va (jh (S:={S.e5 S.k q.xs with h:=q.h,g:=.eb q.g true::(S.e5 S.k q.xs).g}) ⟨cg.l,hc.2.1,by simp only[fq,cc.lt,Bool.and_eq_true];exact⟨hc.1.2,cg.g⟩⟩ hc.2.2.1)
      have fb:(q.st S o.dst).cC (dt M e S.k q.xs):=Vb (ji (S:={S.e5 S.k q.xs with h:=q.h,g:=.eb q.g true::(S.e5 S.k q.xs).g}) (eb true ah))
      have hd:(ar.put {S with h:=q.h} o.dst q.v).den G N B (dt M e S.k q.xs)=(q.st S o.dst).den G N B (dt M e S.k q.xs):=by cases o.dst<;>rfl
      rw[hd];exact aj _ _ qM fb bY (by show S.k≤(ar.put _ _ _).k;rw[jj];exact Nat.le_add_right _ _) (gz.1 ah) (by rw[cA,tB ah])
     |false=>
      refine cD.step hw (dC ah) ?_
      have qM:(q.yh S o.dst).cB:=Va (jh (S:={S.e5 S.k q.xs with g:=.eb q.g false::(S.e5 S.k q.xs).g}) ⟨cg.l,cg.h,by simp only[fq,cc.lt,Bool.and_eq_true];exact⟨hc.1.2,cg.g⟩⟩ hc.2.2.2)
      have fb:(q.yh S o.dst).cC (dt M e S.k q.xs):=Vb (ji (S:={S.e5 S.k q.xs with g:=.eb q.g false::(S.e5 S.k q.xs).g}) (eb false ah))
      have hd:(S.put o.dst q.bo).den G N B (dt M e S.k q.xs)=(q.yh S o.dst).den G N B (dt M e S.k q.xs):=by cases o.dst<;>rfl
      rw[hd];exact aj _ _ qM fb bY (by show S.k≤(ar.put _ _ _).k;rw[jj];exact Nat.le_add_right _ _) (gz.2 ah) (by rw[cA,tB ah])
    ·exact iL.elim
   rename_i qk
   split at iL
   ·rename_i f aG vj
    split at iL
    ·rename_i gG
     have fQ:exec P N B T inl o S k=iO N S ((inl f aG S).eP (BI S o.dst) none) fun C=>k (vN B N S (vM B S C) o.dst):=by unfold exec;rw[ax,aK,qk,vj];simp only[gG]
     obtain⟨t1,_,t3⟩:=FL (G:=G) (B:=B) ad hf iL;obtain⟨g1,g2,g3⟩:=jk (inl f aG S) none t1;obtain⟨p,q',args,m4,vD,bM⟩:=Vp (G:=G) (B:=B) vj hf ad
     have hs:=b1 f _ S e ad bM hf g1
     rw[m4]at hs
     refine cD.ziD (A:=fun t=>∃C az,run M (inl f aG S) e=some (.ct,C,az)∧C.cB∧C.cC az∧b2 S.k e az∧S.k≤C.k∧FQ S C=true∧t=(S.back o.dst C).den G N B az) hw
      (zhO vD gG hs fun r b0 ⟨C,az,aM,dg,cn,gr,iQ,kG,jN⟩=>?_) fun t ⟨C,az,aM,gr,iQ,kG,jN,bk,aH⟩=>?_
     ·have ah:=(g3 C az aM).1
      have bk:FQ S C=true:=by
       unfold BI at ah
       split at ah
       ·assumption
       ·exact ah.elim
      have eC:=bk
      simp only[FQ,Bool.and_eq_true]at eC;refine⟨C.n,Nat.le_of_ble_eq_true eC.2.1,?_,?_,?_,C,az,aM,gr,iQ,kG,jN,bk,?_⟩
      ·rw[dg];exact FV eC.1.1
      ·rw[cn];exact yl eC.1.2
      ·rw[cn];exact ziE eC.2.2
      ·rw[dg,cn,ar.back,ff]
       have:=lr (G:=G) (N:=N) (B:=B) kG ad
       have qj:kk G az S.l 0 N=kk G e S.l 0 N:=congrArg aQ.c0 this
       simp only[ar.den,qj]
     ·subst aH
      have ah:=(g3 C az aM)
      have cA:run M ((inl f aG S).eP (BI S o.dst) none) e=some (.ct,S.back o.dst C,az):=by
       rw[g2,aM];simp only[iJ,BI,bk];rfl
      have qM:(S.back o.dst C).cB:=by
       unfold ar.back;refine jh ⟨fun i x hx=>gI jN (ad.l i x hx),gr.h,gr.g⟩ ?_
       show(C.at 0).lt C.k=true;unfold ar.at
       cases hI:C.l.get 0 with
       |none=>rfl
       |some y=>exact gr.l 0 y hI
      obtain⟨dW,bl,s1,s2,pI,pJ,pK,pL,pM⟩:=t3 _ _ cA qM (ji iQ) kG (by unfold ar.back;rw[jj];exact jN)
      obtain⟨gW,gz,Oc,ziJ⟩:=ziG (G:=G) (N:=N) (B:=B) (S:=S) s2 pI;obtain⟨dI,eO,ziK,ziL⟩:=ziI (G:=G) (N:=N) (B:=B) (S:=S) (dst:=o.dst) gW gz;exact cD.le (cw.trans s1 (cw.trans ziJ ziL)) (aj _ bl dI eO pJ (by rw[ziK,Oc];exact pK) pL (by rw[fQ,pM]))
    ·exact iL.elim
   ·exact iL.elim
def Vq(G:bc)(N B:Nat)(ops:Array Oper)(o:Oper)(S:ar)(e:Env):FO→Prop
 | .yes=>dV ops (S.den G N B e) o=some true
 | .no=>dV ops (S.den G N B e) o=some false
 | .on gs=>(fR e gs=true→dV ops (S.den G N B e) o=some true)∧(fR e gs=false→dV ops (S.den G N B e) o=some false)
 | .bad=>True
def qN(b:Bool):aD→Option Bool
 | .av (.v (.bool c))=>some (c==b)
 | .tuple _=>some false
 |_=>none
def FX(G:bc)(b:Bool)(e:Env)(v:ab):FO→Prop
 | .yes=>qN b (v.den G e)=some true
 | .no=>qN b (v.den G e)=some false
 | .on gs=>(fR e gs=true→qN b (v.den G e)=some true)∧(fR e gs=false→qN b (v.den G e)=some false)
 | .bad=>True
theorem Vr{a b:Bool}(h:a=b):(a==b)=true:=by cases a<;>cases b<;>first|rfl|cases h
theorem Vs{a b:Bool}(h: ¬a=b):(a==b)=false:=by cases a<;>cases b<;>first|rfl|exact absurd rfl h
theorem lv{l:List cc}{b:Bool}{e:Env}(hf: ∀c∈l,c.ok e)(g:ab):FX G b e g (match g.rt,lq g l with
 |some .bool,some c=>match decide (c=b)with
  |true=>.yes
  |false=>.no
 |some .bool,none=>.on [(g,b)]
 |_,_=>.bad):=by
 split
 ·rename_i c aa ae
  have aj:=qC ae hf
  have hd:=ga (G:=G) (e:=e) aa
  rw[aj]at hd
  cases gG:decide (c=b)with
  |true=>show qN b (g.den G e)=some true;rw[hd];exact congrArg some (Vr (of_decide_eq_true gG))
  |false=>show qN b (g.den G e)=some false;rw[hd];exact congrArg some (Vs (of_decide_eq_false gG))
 ·rename_i aa ae
  have hd:=ga (G:=G) (e:=e) aa
  simp only[FX,fR,Bool.and_true];rw[hd];exact⟨fun h=>congrArg some h,fun h=>congrArg some h⟩
 ·trivial
theorem yn{h:ab}{c:Bool}{v:ab}{e:Env}(hc:h.aA e .bool=c):(ab.fN h c v).den G e=v.den G e:=by
 simp only[ab.den,hc];cases c<;>rfl
theorem Vt{h:ab}{c:Bool}{v:ab}{e:Env}(hc:h.aA e .bool= !c):(ab.fN h c v).den G e= .tuple []:=by
 simp only[ab.den,hc];cases c<;>rfl
theorem Vu{l:List cc}{b:Bool}{e:Env}(hf: ∀c∈l,c.ok e): ∀v:ab,FX G b e v (vL l b v)
 | .fN h c v=>by
  have aZ:=Vu (b:=b) hf v
  have Od:h.aA e .bool≠c→qN b ((ab.fN h c v).den G e)=some false:=fun hn=>by
   rw[Vt (by cases a6:h.aA e .bool<;>cases c<;>first|rfl|exact absurd a6 hn)]
   rfl
  simp only[vL]
  split
  ·cases ah:vL l b v with
   |yes=>
    rw[ah]at aZ;refine⟨fun aY=>?_,fun aY=>?_⟩
    ·simp only[fR,Bool.and_true,beq_iff_eq]at aY
     rw[yn aY];exact aZ
    ·simp only[fR,Bool.and_true,beq_eq_false_iff_ne]at aY
     exact Od aY
   |no=>
    rw[ah]at aZ;show qN b _=some false
    by_cases a6:h.aA e .bool=c
    ·rw[yn a6];exact aZ
    ·exact Od a6
   |on gs=>
    rw[ah]at aZ;refine⟨fun aY=>?_,fun aY=>?_⟩
    ·simp only[fR,Bool.and_eq_true,beq_iff_eq]at aY
     rw[yn aY.1];exact aZ.1 aY.2
    ·by_cases a6:h.aA e .bool=c
     ·rw[yn a6]
      refine aZ.2 ?_
      simp only[fR,a6,beq_self_eq_true,Bool.true_and]at aY;exact aY
     ·exact Od a6
   |bad=>trivial
  ·trivial
 | .cs x=>by
  unfold vL
  split
  ·rename_i c heq
   cases heq
   cases gG:decide (c=b)with
   |true=>exact congrArg some (Vr (of_decide_eq_true gG))
   |false=>exact congrArg some (Vs (of_decide_eq_false gG))
  ·rename_i heq;cases heq
  ·rename_i heq;cases heq
  ·exact lv hf _
 | .tp l=>rfl
 | .aV r i=>lv hf (.aV r i)
 | .fd c i k r=>lv hf (.fd c i k r)
 | .ip c i k=>lv hf (.ip c i k)
 | .cr l=>lv hf (.cr l)
 | .ej i o=>lv hf (.ej i o)
 | .gR i x o=>lv hf (.gR i x o)
 | .aP i=>lv hf (.aP i)
 | .fn f a b=>lv hf (.fn f a b)
 | .ha i=>lv hf (.ha i)
 | .lU g o=>lv hf (.lU g o)
 | .gY i o x n=>lv hf (.gY i o x n)
 | .cM i n=>lv hf (.cM i n)
 | .fp g i o=>lv hf (.fp g i o)
 | .eB t a rs l=>lv hf (.eB t a rs l)
 | .top=>lv hf .top
theorem Oe{ops:Array Oper}{o:Oper}{S:ar}{e:Env}(hf:S.cC e):Vq G N B ops o S e (guardOf N ops S o):=by
 unfold guardOf
 cases ah:o.guard with
 |none=>simp only[Vq,dV,ah]
 |some L1=>
  obtain⟨j,b⟩:=L1;simp only
  cases hd:my ops j with
  |none=>trivial
  |some d=>
   simp only
   cases mV:Nat.blt d N with
   |false=>trivial
   |true=>
    have bM:d<N:=fa mV
    have ag:=MD (G:=G) hf (x:=S.at d)
    have hc:=Vu (G:=G) (b:=b) hf ((S.at d).res S.g)
    rw[FX.eq_def]at hc
    have key: ∀q,qN b (((S.at d).res S.g).den G e)=some q→dV ops (S.den G N B e) o=some q:=fun q h=>by
     rw[ag]at h;simp only[dV,ah,hd,vq,if_pos bM];generalize (S.at d).den G e=v at h;unfold qN at h
     split at h
     ·rename_i c
      cases h
      cases b<;>cases c<;>rfl
     ·cases h;rfl
     ·cases h
    simp only;generalize vL S.g b ((S.at d).res S.g)=fN at hc
    cases fN with
    |yes=>exact key _ hc
    |no=>exact key _ hc
    |on gs=>exact⟨fun h=>key _ (hc.1 h),fun h=>key _ (hc.2 h)⟩
    |bad=>trivial
end
end Go.aN
namespace Go.aN
open Go
section
variable {P:Program} {G:bc} {N B:Nat} {M:List aS} {T:List (Nat × bR)} {inl:Nat→List ab→ar→aC}
theorem BP{S:ar}{g:ab}{b:Bool}(ad:S.cB)(ah:g.lt S.k=true):({S with g:=.eb g b::S.g}:ar).cB:=
 ⟨ad.l,ad.h,by
  show(cc.lt S.k (.eb g b)&&fq S.k S.g)=true;rw[ad.g,Bool.and_true]
  exact ah⟩
theorem BQ{S:ar}{g:ab}{b:Bool}{e:Env}(hf:S.cC e)(ah:g.aA e .bool=b):({S with g:=.eb g b::S.g}:ar).cC e:=fun c hc=>by
 rcases List.mem_cons.1 hc with rfl|hc
 ·exact ah
 ·exact hf c hc
theorem Of{a b:Bool}(h: ¬a=b):a= !b:=by cases a<;>cases b<;>first|rfl|exact absurd rfl h
theorem Vv{g:ab}{b:Bool}{x y:aC}{e:Env}(h:g.aA e .bool=b):run M (FU g b x y) e=run M x e:=by
 cases b<;>exact tB h
theorem ziM{g:ab}{b:Bool}{x y:aC}{e:Env}(h:g.aA e .bool= !b):run M (FU g b x y) e=run M y e:=by
 cases b<;>exact tB h
theorem ziN{g:ab}{b:Bool}{x y:aC}{e:Env}(ai:(FU g b x y).safe M e)(h:g.aA e .bool=b):x.safe M e:=by
 cases b with
 |true=>exact ai.1 h
 |false=>exact ai.2 h
theorem yo{S:ar}: ∀{gs:List (ab × Bool)},S.cB→lZ S.k gs=true→({S with g:=hC gs S.g}:ar).cB
 |[],ad,_=>ad
 |(g,b)::r,ad,h=>by
  simp only[lZ,Bool.and_eq_true]at h;exact BP (S:={S with g:=hC r S.g}) (b:=b) (yo ad h.2) h.1
theorem yp{S:ar}{e:Env}: ∀{gs:List (ab × Bool)},S.cC e→fR e gs=true→({S with g:=hC gs S.g}:ar).cC e
 |[],hf,_=>hf
 |(g,b)::r,hf,h=>by
  simp only[fR,Bool.and_eq_true,beq_iff_eq]at h;exact BQ (S:={S with g:=hC r S.g}) (b:=b) (yp hf h.2) h.1
theorem FY{k:Nat}{v:ab}: ∀{gs:List (ab × Bool)},lZ k gs=true→v.lt k=true→(ko gs v).lt k=true
 |[],_,h=>h
 |(g,b)::r,ah,h=>by
  simp only[lZ,Bool.and_eq_true]at ah;simp only[ko,ab.lt,ah.1,FY ah.2 h,Bool.and_self]
theorem FZ{k m:Nat}(h:k≤m): ∀{gs:List (ab × Bool)},lZ k gs=true→lZ m gs=true
 |[],_=>rfl
 |(g,b)::r,ah=>by
  simp only[lZ,Bool.and_eq_true]at ah⊢;exact⟨gI h ah.1,FZ h ah.2⟩
theorem F0{k:Nat}{e az:Env}(h:b2 k e az): ∀{gs:List (ab × Bool)},lZ k gs=true→fR az gs=fR e gs
 |[],_=>rfl
 |(g,b)::r,ah=>by
  simp only[lZ,Bool.and_eq_true]at ah;simp only[fR,eK h ah.1,F0 h ah.2]
theorem F1{v:ab}{e:Env}: ∀{gs:List (ab × Bool)},fR e gs=true→(ko gs v).den G e=v.den G e
 |[],_=>rfl
 |(g,b)::r,h=>by
  simp only[fR,Bool.and_eq_true,beq_iff_eq]at h;exact(yn h.1).trans (F1 h.2)
theorem F2{v:ab}{e:Env}: ∀{gs:List (ab × Bool)},fR e gs=false→(ko gs v).den G e= .tuple []
 |[],h=>by cases h
 |(g,b)::r,h=>by
  by_cases ah:g.aA e .bool=b
  ·simp only[fR,ah,beq_self_eq_true,Bool.true_and]at h
   exact(yn ah).trans (F2 h)
  ·exact Vt (Of ah)
theorem F3{n:fi}{e:Env}: ∀{gs:List (ab × Bool)},(qK gs n).ok M e→fR e gs=true→n.ok M e
 |[],h,_=>h
 |(g,b)::r,h,aY=>by
  simp only[fR,Bool.and_eq_true,beq_iff_eq]at aY;exact F3 (gs:=r) (h aY.1) aY.2
theorem Og{x:aC}{y:List cc→aC}{e:Env}: ∀{gs:List (ab × Bool)} {l:List cc},fR e gs=true→run M (tA y gs x l) e=run M x e∧((tA y gs x l).safe M e→x.safe M e)
 |[],_,_=>⟨rfl,fun h=>h⟩
 |(g,b)::r,l,h=>by
  simp only[fR,Bool.and_eq_true,beq_iff_eq]at h;obtain⟨aa,ae⟩:=Og (x:=x) (y:=y) (l:=.eb g b::l) h.2;exact⟨(Vv h.1).trans aa,fun ai=>ae (ziN ai h.1)⟩
theorem Oh{x:aC}{y:List cc→aC}{e:Env}{k:Nat}: ∀{gs:List (ab × Bool)} {l:List cc},fR e gs=false→lZ k gs=true→fq k l=true→(∀c∈l,c.ok e)→∃h7,run M (tA y gs x l) e=run M (y h7) e∧fq k h7=true∧∀c∈h7,c.ok e
 |[],_,h,_,_,_=>by cases h
 |(g,b)::r,l,h,ah,aq,hc=>by
  simp only[lZ,Bool.and_eq_true]at ah
  have sW: ∀b,fq k (.eb g b::l)=true:=fun b=>by
   show(cc.lt k (.eb g b)&&fq k l)=true;rw[aq,Bool.and_true];exact ah.1
  by_cases fy:g.aA e .bool=b
  ·simp only[fR,fy,beq_self_eq_true,Bool.true_and]at h
   obtain⟨h7,aa,ae,au⟩:=Oh (x:=x) (y:=y) (k:=k) (gs:=r) (l:=.eb g b::l) h ah.2 (sW b) fun c hm=>by
    rcases List.mem_cons.1 hm with rfl|hm
    ·exact fy
    ·exact hc c hm
   exact⟨h7,(Vv fy).trans aa,ae,au⟩
  ·refine⟨.eb g (!b)::l,ziM (Of fy),sW _,fun c hm=>?_⟩
   rcases List.mem_cons.1 hm with rfl|hm
   ·exact Of fy
   ·exact hc c hm
theorem Vw{S:ar}{dst:Option Nat}{l:List cc}{e:Env}(ad:S.cB)(aq:fq S.k l=true)(hc: ∀c∈l,c.ok e):
 ∃aU:ar,r6 S dst l= .cQ .ct aU∧aU.cB∧aU.cC e∧S.k≤aU.k∧aU.den G N B e=(S.den G N B e).put dst (.tuple []):=
 ⟨_,rfl,jh ⟨ad.l,ad.h,aq⟩ rfl,ji hc,by rw[jj];exact Nat.le_refl _,by rw[ff];rfl⟩
mutual
theorem Vx(id t n:Nat)(es:List (List ba)): ∀a:aD,Sub (hQ [(id,.row true t n es)] a) (ee id a):=fun a=>by
 cases a with
 |agg l=>exact(yq id t n es l).agg
 |tuple l=>exact(yq id t n es l).tuple
 |aP k=>
  by_cases h:k=id
  ·simp only[ee,h,if_true]
   exact Sub.top _
  ·simp only[ee,h,if_false,hQ,aE,if_neg (fun e:id=k=>h e.symm)]
   exact Sub.refl _
 |fn f p q=>
  intro w ro σ β N c hc;simp only[hQ]at hc
  cases hc with
  |fn _ _ _ c d aa ae au aR=>
   have ak:=(yq id t n es p).at
   have aK:=(yq id t n es q).at
   refine .fn f _ _ c d (by rw[aa,ak.1]) (by rw[ae,aK.1]) (fun j y af=>?_) fun j y af=>?_
   ·obtain⟨x,hx,ai⟩:=ak.2 j y af
    exact ai _ _ _ _ _ _ (au j x hx)
   ·obtain⟨x,hx,ai⟩:=aK.2 j y af
    exact ai _ _ _ _ _ _ (aR j x hx)
 |av x=>exact Sub.refl _
 |top=>exact Sub.refl _
 |ptr k o=>simp only[ee,hQ];split<;>first|exact Sub.top _|exact Sub.refl _
 |dF k o=>simp only[ee,hQ];split<;>first|exact Sub.top _|exact Sub.refl _
 |c5 k i o=>simp only[ee,hQ];split<;>first|exact Sub.top _|exact Sub.refl _
 |ref k=>simp only[ee,hQ];split<;>first|exact Sub.top _|exact Sub.refl _
theorem yq(id t n:Nat)(es:List (List ba)): ∀l:List aD,fW (kJ [(id,.row true t n es)] l) (eo id l):=fun l=>by
 match l with
 |[]=>exact .nil
 |x::r=>exact .cons (Vx id t n es x) (yq id t n es r)
end
theorem Vy(σ:Heap): ∀l:List aD,kJ σ l=l.map (hQ σ)
 |[]=>rfl
 |x::r=>by simp only[kJ,List.map_cons,Vy σ r]
theorem ziO{e:Env}{id t:Nat}{c:bR}{k:Nat}: ∀y:ab,Sub (hQ [(id,.row true t (b4 c) (List.map (ck c) ((ab.aV (.li c) k).aA e (.li c))))] (y.den G e)) ((ab.nh id (.aV (.li c) k) y).den G e):=fun y=>by
 unfold ab.nh
 split
 ·rename_i j
  split
  ·rename_i af
   obtain rfl:=Nat.eq_of_beq_eq_true af;simp only[ab.den,hQ,aE,if_true];rw[show(ab.aV (.li c) k).aA e (.li c)=(Env.at e k).aG (.li c)by simp only[ab.aA,ab.fw,ab.dyn,cH]]
   exact lT.ft fun _ _ _ h=>.li _ _ _ h
  ·rename_i af
   have b9: ¬id=j:=fun h=>by rw[h,Nat.beq_refl]at af;cases af
   simp only[ab.den,hQ,aE,if_neg b9];exact Sub.refl _
 ·rw[Ft]
  exact Vx _ _ _ _ _
theorem ziP{S:ar}{e:Env}(id:Nat)(ad:S.cB)(hf:S.cC e):(yj S id).cB∧(yj S id).cC e∧(yj S id).k=S.k∧cw (S.den G N B e) ((yj S id).den G N B e):=by
 unfold yj
 split
 ·rename_i t c r k ah
  split
  ·rename_i ag
   cases hy ag
   have hx:(ab.aV (.li c) k).lt S.k=true:=vO (o:=.rw t c (.aV (.li c) k)) ad.h ah
   refine⟨⟨fun i y ay=>?_,ov id ad.h,ad.g⟩,hf,rfl,?_⟩
   ·simp only[N5,bd.get_map]at ay
    cases aK:S.l.get i with
    |none=>rw[aK]at ay;cases ay
    |some z=>
     rw[aK]at ay;simp only[Option.map_some,Option.some.injEq]at ay;subst ay;show(ab.nh id _ z).lt S.k=true;unfold ab.nh
     split
     ·split
      ·exact hx
      ·rfl
     ·exact tC _ (ad.l i z aK)
   ·have bj:aE (S.den G N B e).heap id=some (.row false t (b4 c) (List.map (ck c) ((ab.aV (.li c) k).aA e (.li c)))):=by
     simp only[ar.den,er,ah,Option.map_some,bO.den]
    refine(cw.nh (S.den G N B e) id).trans ?_
    unfold Go.aN.nh;rw[bj];refine cw.of rfl (Nat.le_refl _) ?_ (fun i v ax=>?_) fun j o ao=>?_
    ·simp only[ar.den,n4,EX]
    ·simp only[ar.den,oj]at ax
     split at ax
     rotate_left
     ·cases ax
     rename_i hi;simp only[N5,bd.get_map,Option.some.injEq]at ax;subst ax
     refine⟨hQ [(id,.row true t (b4 c) (List.map (ck c) ((ab.aV (.li c) k).aA e (.li c))))] (match S.l.get (0+i)with
      |some x=>x.den G e
      |none=>.top),by simp only[ar.den,Vy,List.getElem?_map,oj,if_pos hi,Option.map_some]<;>rfl,?_⟩
     cases aK:S.l.get (0+i)with
     |none=>exact Sub.top _
     |some z=>exact ziO z
    ·have ao:aE (cF G e (hA id S.h)) j=some o:=ao
     rw[pD,qn]at ao
     split at ao
     ·cases ao
     rename_i b9
     cases aK:aE (cF G e S.h) j with
     |none=>rw[aK]at ao;cases ao
     |some Vz=>
      rw[aK]at ao;simp only[Option.map_some,Option.some.injEq]at ao;subst ao;refine⟨kM [(id,.row true t (b4 c) (List.map (ck c) ((ab.aV (.li c) k).aA e (.li c))))] Vz,?_,?_⟩
      ·rw[qq,Au]
       rw[if_neg (fun h=>b9 h.symm)];show Option.map _ (aE (cF G e S.h) j)=_;rw[aK];rfl
      ·cases Vz with
       |box t cs=>exact .box t (yq _ _ _ _ cs)
       |row z t n es=>exact .same _
       |bU bW=>exact .same _
  ·exact⟨ad,hf,rfl,cw.refl _⟩
 ·exact⟨ad,hf,rfl,cw.refl _⟩
theorem Oi{e:Env}: ∀(aG:List ab) {S:ar},S.cB→S.cC e→(mO aG S).cB∧(mO aG S).cC e∧(mO aG S).k=S.k∧cw (S.den G N B e) ((mO aG S).den G N B e)
 |[],S,ad,hf=>⟨ad,hf,rfl,cw.refl _⟩
 |a::r,S,ad,hf=>by
  unfold mO
  split
  ·rename_i h;cases h
  ·rename_i id eY h
   cases h;obtain⟨aa,ae,au,aR⟩:=ziP (G:=G) (N:=N) (B:=B) id ad hf;obtain⟨g1,g2,g3,g4⟩:=Oi r aa ae;exact⟨g1,g2,g3.trans au,aR.trans g4⟩
  ·rename_i h
   cases h;exact Oi r ad hf
theorem ziQ{ops:Array Oper}{o:Oper}{S:ar}{aG:List ab}{e:Env}(ak:preB P N S o=some aG)(ad:S.cB)(hf:S.cC e):
 (mO aG S).cB∧(mO aG S).cC e∧(mO aG S).k=S.k∧cw (S.den G N B e) ((mO aG S).den G N B e)∧dV ops ((mO aG S).den G N B e) o=some true:=by
 have hn:o.guard=none:=by
  unfold preB at ak
  split at ak
  ·split at ak
   ·cases ak
   ·assumption
  ·cases ak
 obtain⟨aa,ae,au,aR⟩:=Oi (G:=G) (N:=N) (B:=B) aG ad hf
 exact⟨aa,ae,au,aR,by unfold dV;rw[hn]⟩
theorem uN(b1:fT P G M inl){ops:Array Oper}: ∀(l:List Oper) {S:ar} {e:Env} {Q:Exit→aQ→Prop},S.cB→S.cC e→(hN P N B T inl ops l S).safe M e→(∀ex st,jF G N B M (hN P N B T inl ops l S) e S.k ex st→Q ex st)→cD P G ops Q l (S.den G N B e)
 |[],S,e,Q,ad,hf,_,ez=>cD.nil (ez _ _ ⟨.ct,S,e,rfl,trivial,cw.refl _,ad,hf,b2.refl _ _,Nat.le_refl _⟩)
 |o::r,S,e,Q,ad,hf,ai,ez=>by
  have ah:=Oe (G:=G) (N:=N) (B:=B) (ops:=ops) (o:=o) hf
  have e1:=ai
  unfold hN at e1
  cases ja:guardOf N ops S o with
  |yes=>
   rw[ja]at ah e1;simp only at e1
   cases ak:preB P N S o with
   |some aG=>
    rw[ak]at e1
    have fQ:hN P N B T inl ops (o::r) S=exec P N B T inl o (mO aG S) (hN P N B T inl ops r):=by rw[hN,ja];simp only[ak]
    obtain⟨f1,f2,f3,f4,f5⟩:=ziQ (G:=G) (B:=B) (ops:=ops) ak ad hf;refine cD.le f4 (Ob b1 f1 f2 f5 e1 fun dq az aa ae au aR bN cL=>uN b1 r aa ae bN fun ex st ak=>ez ex st (ak.sub ?_ (f3 ▸ au) (f3 ▸ aR)))
    rw[fQ,cL]
   |none=>
    rw[ak]at e1
    have fQ:hN P N B T inl ops (o::r) S=exec P N B T inl o S (hN P N B T inl ops r):=by rw[hN,ja];simp only[ak]
    refine Ob b1 ad hf ah e1 fun dq az aa ae au aR bN cL=>uN b1 r aa ae bN fun ex st ak=>ez ex st (ak.sub ?_ au aR)
    rw[fQ,cL]
  |no=>
   rw[ja]at ah e1
   have fQ:hN P N B T inl ops (o::r) S=hN P N B T inl ops r (S.put o.dst (.tp [])):=by rw[hN,ja]
   refine cD.pass ah ?_
   have hd:(S.den G N B e).put o.dst (.tuple [])=(S.put o.dst (.tp [])).den G N B e:=by rw[ff];rfl
   rw[hd];refine uN b1 r (jh ad rfl) (ji hf) e1 fun ex st ak=>ez ex st (ak.sub (by rw[fQ]) (b2.refl _ _) (by rw[jj];exact Nat.le_refl _))
  |on gs=>
   rw[ja]at ah e1;simp only at e1;obtain⟨g1,g2⟩:=ah
   split at e1
   ·rename_i kQ
    split at e1
    ·rename_i q ax
     split at e1
     ·rename_i hc
      have fQ:hN P N B T inl ops (o::r) S=emit S.k q.xs (q.ns.map (qK gs)) (hN P N B T inl ops r ((S.e5 S.k q.xs).put o.dst (ko gs q.v))):=by rw[hN,ja];simp only[kQ,ax,hc]
      simp only[Bool.and_eq_true]at hc;obtain⟨gW,gz⟩:=mN e1;obtain⟨cg,a2,a3⟩:=r7 (M:=M) (G:=G) (N:=N) (B:=B) ad hf hc.1
      have bY:b2 S.k e (dt M e S.k q.xs):=jY (Nat.le_refl _)
      have h1:fR (dt M e S.k q.xs) gs=fR e gs:=F0 bY kQ
      have aj:S.k≤S.k+q.xs.length:=Nat.le_add_right _ _
      have fH:(ko gs q.v).lt (S.k+q.xs.length)=true:=FY (FZ aj kQ) hc.2
      have Oj:((S.e5 S.k q.xs).put o.dst (ko gs q.v)).cB:=jh cg fH
      have BR:=uN b1 (ops:=ops) r (Q:=Q) Oj (ji a2) gz fun ex st ak=>ez ex st (ak.sub (by rw[fQ,lY]) bY (by rw[jj];exact aj))
      rw[ff,a3]at BR
      cases fy:fR e gs with
      |true=>
       have ia:=yp hf fy
       have iq:=yo ad kQ
       have dJ:=vA (G:=G) (B:=B) (M:=M) ax (dt M e S.k q.xs) (iu bY iq.g ia) (jD hc.1) fun n hn=>F3 (gW (qK gs n) (List.mem_map.2 ⟨n,hn,rfl⟩)) (h1.trans fy)
       have yr:({S with g:=hC gs S.g}:ar).den G N B (dt M e S.k q.xs)=S.den G N B e:=lr (S:={S with g:=hC gs S.g}) bY iq
       rw[yr]at dJ;refine cD.step (g1 fy) dJ.step ?_
       rw[F1 (h1.trans fy)]at BR;exact BR
      |false=>
       refine cD.pass (g2 fy) ?_
       rw[F2 (h1.trans fy)]at BR;exact BR
     ·exact e1.elim
    ·rename_i ax
     have fQ:hN P N B T inl ops (o::r) S=qI N S o.dst gs (tA (r6 S o.dst) gs (exec P N B T inl o {S with g:=hC gs S.g} (.cQ .ct)) S.g) (hN P N B T inl ops r):=by rw[hN,ja];simp only[ax,kQ]
     obtain⟨t1,_,t3⟩:=NW (G:=G) (B:=B) ad hf e1
     have fin: ∀(aU:ar) (aB:Env),run M (tA (r6 S o.dst) gs (exec P N B T inl o {S with g:=hC gs S.g} (.cQ .ct)) S.g) e=some (.ct,aU,aB)→aU.cB→aU.cC aB→b2 S.k e aB→S.k≤aU.k→cD P G ops Q r (aU.den G N B aB):=fun aU aB ag aa ae au aR=>by
      obtain⟨dW,bl,s1,s2,pI,pJ,pK,pL,pM⟩:=t3 aU aB ag aa ae au aR;exact cD.le s1 (uN b1 r s2 pI pL fun ex st ak=>ez ex st (ak.sub (by rw[fQ,pM]) pJ pK))
     cases fy:fR e gs with
     |false=>
      refine cD.pass (g2 fy) ?_
      obtain⟨h7,cR,c7,fV⟩:=Oh (M:=M) (x:=exec P N B T inl o {S with g:=hC gs S.g} (.cQ .ct)) (y:=r6 S o.dst) (l:=S.g) fy kQ ad.g hf
      obtain⟨aU,r3,pN,Ok,Ol,Om⟩:=Vw (G:=G) (N:=N) (B:=B) (dst:=o.dst) ad c7 fV;rw[←Om];exact fin aU e (by rw[cR,r3];rfl) pN Ok (b2.refl _ _) Ol
     |true=>
      have ia:=yp hf fy
      have iq:=yo ad kQ
      obtain⟨f1,f2⟩:=Og (M:=M) (x:=exec P N B T inl o {S with g:=hC gs S.g} (.cQ .ct)) (y:=r6 S o.dst) (l:=S.g) fy
      refine Ob b1 (S:={S with g:=hC gs S.g}) iq ia (g1 fy) (f2 t1) fun dq az aa ae au aR _ cL=>fin dq az ?_ aa ae au aR
      exact f1.trans cL
   ·exact e1.elim
  |bad=>rw[ja]at e1;exact e1.elim
end
end Go.aN
namespace Go.aN
open Go
def BS(i:Nat)(y:ab):List cc→Bool
 |[]=>false
 | .rg j b::r=>(Nat.beq j i&&eN b y)||BS i y r
 |_::r=>BS i y r
def yt(j:Nat)(all:List cc):List cc→Option Bool
 |[]=>none
 | .d2 i (.po .lss .i64) x y::r=>match Nat.beq i j with
  |true=>match eN x y with
   |true=>some false
   |false=>match x with
    | .aV (.int .i64) m=>match BS m y all&&(match y.rt with|some (.int .i64)=>true|_=>false)with
     |true=>some true
     |false=>none
    |_=>none
  |false=>yt j all r
 |_::r=>yt j all r
def On(g:ab)(l:List cc):Option Bool:=
 match lq g l with
 |some b=>some b
 |none=>match g with
  | .aV .bool j=>yt j l l
  |_=>none
def BT(i:Nat):List cc→Option ab
 |[]=>none
 | .d1 j .nq x::r=>match Nat.beq j i with
  |true=>match x.rt with
   |some .bool=>some x
   |_=>none
  |false=>BT i r
 |_::r=>BT i r
def ar.eb(S:ar)(v:ab)(b:Bool):ar:=
 match v with
 | .aV .bool i=>match BT i S.g with
  |some x=>{S with g:=.eb x (!b):: .eb (.aV .bool i) b::S.g}
  |none=>{S with g:=.eb (.aV .bool i) b::S.g}
 |v=>{S with g:=.eb v b::S.g}
def Oo(N:Nat)(S:ar)(x:Operand)(f g:ar→aC):aC:=
 match S.a7 N x with
 | .cs (.bool true)=>f S
 | .cs (.bool false)=>g S
 |v=>match v.rt with
  |some .bool=>match On v S.g with
   |some true=>f S
   |some false=>g S
   |none=>.it v (f (S.eb v true)) (g (S.eb v false))
  |_=>.bad 38
def comp(P:Program)(N B:Nat)(T:List (Nat × bR))(inl:Nat→List ab→ar→aC)(L:(ar→aC)→Nat→ar→aC)(D:Array Oper→ar→aC):Code→Nat→ar→aC
 | .skip,_,S=>.cQ .ct S
 | .ret,_,S=>.cQ .ret S
 | .exit id,_,S=>.cQ (.ext id) S
 | .region _ ops draw,_,S=>match draw with
  |true=>D ops S
  |false=>hN P N B T inl ops ops.toList S
 | .cond x a b,cur,S=>Oo N S x (comp P N B T inl L D a cur) (comp P N B T inl L D b cur)
 | .block id c,_,S=>(comp P N B T inl L D c id S).rel (pr id)
 | .seq a b,cur,S=>iO N S (comp P N B T inl L D a cur S) (comp P N B T inl L D b cur)
 | .loop c,cur,S=>L (comp P N B T inl L D c cur) cur S
 |_,_,_=>.bad 6
section
variable {P:Program} {G:bc} {N B:Nat} {M:List aS} {T:List (Nat × bR)} {inl:Nat→List ab→ar→aC} {L:(ar→aC)→Nat→ar→aC} {D:Array Oper→ar→aC}
theorem BU{i:Nat}{y:ab}{e:Env}: ∀{l:List cc},BS i y l=true→(∀c∈l,c.ok e)→0≤cu (Env.at e i)∧cu (Env.at e i)<cu (y.dyn e)
 | .rg j b::r,h,hc=>by
  simp only[BS,Bool.or_eq_true,Bool.and_eq_true]at h
  rcases h with⟨aa,ae⟩|h
  ·rw[←Nat.eq_of_beq_eq_true aa,←e4 ae]
   exact hc (.rg j b) (by simp)
  ·exact BU h fun c hm=>hc c (by simp[hm])
 | .d1 _ _ _::r,h,hc=>BU (l:=r) h fun c hm=>hc c (by simp[hm])
 | .d2 _ _ _ _::r,h,hc=>BU (l:=r) h fun c hm=>hc c (by simp[hm])
 | .eb _ _::r,h,hc=>BU (l:=r) h fun c hm=>hc c (by simp[hm])
theorem ziR(d:aF):(d.aG (.int .i64):Int)=cu d∨(d.aG (.int .i64):Int)=0:=by
 obtain⟨r,v⟩:=d
 by_cases h:r= .int .i64
 ·subst h
  exact .inl (cH _ _)
 ·refine .inr ?_
  unfold aF.aG
  split
  ·rename_i h' _;exact absurd h' h
  ·rfl
theorem BV{j:Nat}{e:Env}{b:Bool}{all:List cc}(aY: ∀c∈all,c.ok e): ∀{l:List cc},yt j all l=some b→(∀c∈l,c.ok e)→(ab.aV .bool j).aA e .bool=b
 | .d2 i f x y::r,h,hc=>by
  have aJ:=hc (.d2 i f x y) (by simp)
  have ag: ∀{b},yt j all r=some b→(ab.aV .bool j).aA e .bool=b:=fun h=>BV aY h fun c hm=>hc c (by simp[hm])
  unfold yt at h
  split at h
  ·cases h
  ·rename_i AN iP s5 eY heq
   cases heq
   split at h
   ·rename_i oS
    have oS:=Nat.eq_of_beq_eq_true oS
    subst oS;simp only[cc.ok]at aJ
    have ax:(ab.aV .bool i).aA e .bool=Be .lss (x.aA e (.int .i64)) (y.aA e (.int .i64)):=by
     simp only[ab.aA,ab.fw,ab.dyn,cH,aJ];rfl
    rw[ax]
    split at h
    ·rename_i he
     cases h;rw[e4 he];exact decide_eq_false (Int.lt_irrefl _)
    ·split at h
     ·rename_i m _
      split at h
      ·rename_i aj
       cases h;simp only[Bool.and_eq_true]at aj
       have aa:=BU aj.1 aY
       have ay:y.rt=some (.int .i64):=by
        have:=aj.2
        split at this
        ·assumption
        ·cases this
       rw[lW ay]at aa
       have hx:(ab.aV (.int .i64) m).aA e (.int .i64)=(Env.at e m).aG (.int .i64):=by simp only[ab.aA,ab.fw,ab.dyn,cH]
       rw[hx];refine decide_eq_true ?_
       have ae:=aa.2
       rcases ziR (Env.at e m)with q|q
       ·rw[q];exact ae
       ·rw[q];exact Int.lt_of_le_of_lt aa.1 ae
      ·cases h
     ·cases h
   ·exact ag h
  ·rename_i heq
   cases heq;exact ag h
 | .d1 _ _ _::r,h,hc=>BV aY (l:=r) h fun c hm=>hc c (by simp[hm])
 | .rg _ _::r,h,hc=>BV aY (l:=r) h fun c hm=>hc c (by simp[hm])
 | .eb _ _::r,h,hc=>BV aY (l:=r) h fun c hm=>hc c (by simp[hm])
theorem VA{e:Env}{g:ab}{b:Bool}{l:List cc}(h:On g l=some b)(hc: ∀c∈l,c.ok e):g.aA e .bool=b:=by
 unfold On at h
 split at h
 ·rename_i aj;cases h;exact qC aj hc
 ·split at h
  ·exact BV hc h hc
  ·cases h
def jg(P:Program)(G:bc)(N B:Nat)(M:List aS)(c:Code)(f:ar→aC):Prop:=
 ∀(S:ar) (e:Env),S.cB→S.cC e→(f S).safe M e→b7 P G c (jF G N B M (f S) e S.k) (S.den G N B e)
theorem Oq{i:Nat}{x:ab}{e:Env}{k:Nat}: ∀{l:List cc},BT i l=some x→(∀c∈l,c.ok e)→fq k l=true→(ab.aV .bool i).aA e .bool= !(x.aA e .bool)∧x.lt k=true
 |[],h,_,_=>by cases h
 |c::r,h,hc,aq=>by
  have Ax: ∀c∈r,c.ok e:=fun c hm=>hc c (List.mem_cons_of_mem _ hm)
  have sW:c.lt k=true∧fq k r=true:=by simpa only[fq,Bool.and_eq_true]using aq
  unfold BT at h
  split at h
  ·rename_i heq;cases heq
  ·rename_i j y eY heq
   cases heq
   split at h
   ·rename_i af
    have af:=Nat.eq_of_beq_eq_true af
    subst af
    split at h
    ·cases h
     have aJ:Env.at e j=⟨gL.nq.c,gL.nq.den (x.aA e gL.nq.a)⟩:=hc _ (List.mem_cons_self ..)
     have aa:=sW.1
     simp only[cc.lt,Bool.and_eq_true]at aa;refine⟨?_,aa.2⟩
     simp only[ab.aA,ab.fw,ab.dyn,aJ,cH];rfl
    ·cases h
   ·exact Oq h Ax sW.2
  ·rename_i heq
   cases heq;exact Oq h Ax sW.2
theorem VB{S:ar}{v:ab}{b:Bool}{e:Env}(ad:S.cB)(hf:S.cC e)(aq:v.lt S.k=true)(ax:v.aA e .bool=b):(S.eb v b).cB∧(S.eb v b).cC e∧(S.eb v b).k=S.k∧(S.eb v b).den G N B e=S.den G N B e:=by
 unfold ar.eb
 split
 ·rename_i i
  split
  ·rename_i x hx
   obtain⟨aa,ae⟩:=Oq hx hf ad.g;rw[ax]at aa
   have au:x.aA e .bool= !b:=by rw[aa];cases x.aA e .bool<;>rfl
   have cg:=BP (b:=b) ad aq
   have a2:=BQ hf ax
   exact⟨BP (S:={S with g:=.eb (.aV .bool i) b::S.g}) (b:=!b) cg ae,BQ (S:={S with g:=.eb (.aV .bool i) b::S.g}) a2 au,rfl,rfl⟩
  ·exact⟨BP ad aq,BQ hf ax,rfl,rfl⟩
 ·exact⟨BP ad aq,BQ hf ax,rfl,rfl⟩
theorem ziS{x:Operand}{a b:Code}{f g:ar→aC}(hf:jg P G N B M a f)(ah:jg P G N B M b g):jg P G N B M (.cond x a b) (fun S=>Oo N S x f g):=by
 intro S e ad fb ai
 have hx:=bP (G:=G) (N:=N) (B:=B) fb x
 have bM:=EY (N:=N) ad x
 simp only at ai⊢
 unfold Oo at ai⊢
 generalize S.a7 N x=v at ai hx bM⊢
 split at ai
 ·exact b7.SU hx (hf S e ad fb ai)
 ·exact b7.SV hx (ah S e ad fb ai)
 ·rename_i aa ae
  split at ai
  ·rename_i ag
   have hd:=ga (G:=G) (e:=e) ag
   rw[←hx]at hd
   have hd:=hd.trans (show _=aD.av (.v (.bool _))from rfl)
   split at ai
   ·rename_i aj
    rw[VA aj fb]at hd;exact b7.SU hd (hf S e ad fb ai)
   ·rename_i aj
    rw[VA aj fb]at hd;exact b7.SV hd (ah S e ad fb ai)
   ·refine b7.cond hd (fun aH=>?_) (fun aH=>?_)
    ·obtain⟨cR,c7,fV,mh⟩:=VB (G:=G) (N:=N) (B:=B) ad fb bM aH
     have:=hf _ e cR c7 (ai.1 aH)
     rw[mh]at this;refine b7.mono this fun ex st ak=>ak.sub ?_ (b2.refl _ _) (Nat.le_of_eq fV.symm)
     rw[tB aH]
    ·obtain⟨cR,c7,fV,mh⟩:=VB (G:=G) (N:=N) (B:=B) ad fb bM aH
     have:=ah _ e cR c7 (ai.2 aH)
     rw[mh]at this;refine b7.mono this fun ex st ak=>ak.sub ?_ (b2.refl _ _) (Nat.le_of_eq fV.symm)
     rw[tB aH]
  ·exact ai.elim
theorem ziT{id:Nat}{c:Code}{f:ar→aC}(hf:jg P G N B M c f):jg P G N B M (.block id c) (fun S=>(f S).rel (pr id)):=by
 intro S e ad fb ai
 have ao:=zgV (f S) id
 refine b7.block (b7.mono (hf S e ad fb ((k5 ao).1 ai)) fun ex st ak=>?_)
 obtain⟨x,dq,az,aa,ae,au,aR,bN,cL,eH⟩:=ak
 have ag:run M ((f S).rel (pr id)) e=some (pr id x,dq,az):=by rw[w4 ao,aa];rfl
 cases x with
 |ct=>cases ex<;>first|exact⟨_,dq,az,ag,trivial,au,aR,bN,cL,eH⟩|exact ae.elim
 |ret=>cases ex<;>first|exact⟨_,dq,az,ag,trivial,au,aR,bN,cL,eH⟩|exact ae.elim
 |lp n=>exact(by cases ex<;>exact ae.elim)
 |ext n=>
  cases ex with
  |exit m=>
   have ae:n=m:=ae
   subst ae;show(bif Nat.beq n id then _ else _)
   cases ad:Nat.beq n id with
   |true=>exact⟨.ct,dq,az,by rw[ag];simp only[pr,ad],trivial,au,aR,bN,cL,eH⟩
   |false=>exact⟨.ext n,dq,az,by rw[ag];simp only[pr,ad],rfl,au,aR,bN,cL,eH⟩
  |_=>exact ae.elim
theorem Am{a b:Code}{f g:ar→aC}(hf:jg P G N B M a f)(ah:jg P G N B M b g):jg P G N B M (.seq a b) (fun S=>iO N S (f S) g):=by
 intro S e ad fb ai
 obtain⟨t1,t2,t3⟩:=FL (G:=G) (B:=B) ad fb ai
 refine b7.seq (b7.mono (hf S e ad fb t1) fun ex st ak=>?_)
 obtain⟨x,dq,az,aa,ae,au,aR,bN,cL,eH⟩:=ak
 have other:x≠ .ct→ex≠ .normal→jF G N B M (iO N S (f S) g) e S.k ex st:=fun b9 _=>⟨x,dq,az,t2 x dq az aa b9 (Vi ae),ae,au,aR,bN,cL,eH⟩
 cases x with
 |ct=>
  cases ex with
  |normal=>
   obtain⟨dW,bl,s1,s2,pI,pJ,pK,pL,pM⟩:=t3 dq az aa aR bN cL eH;exact b7.le au (b7.le s1 (b7.mono (ah dW bl s2 pI pL) fun ex st ak=>ak.sub pM pJ pK))
  |_=>exact ae.elim
 |ret=>cases ex<;>first|exact other (by simp) (by simp)|exact ae.elim
 |ext n=>cases ex<;>first|exact other (by simp) (by simp)|exact ae.elim
 |lp n=>cases ex<;>exact ae.elim
theorem Ot{c:Code}{x:b5}{ex:Exit}(h:BL x ex)(k: ∀{Q:Exit→aQ→Prop} {s:aQ},Q ex s→b7 P G c Q s):jg P G N B M c (fun S=>.cQ x S):=
 fun S e ad hf _=>k ⟨x,S,e,rfl,h,cw.refl _,ad,hf,b2.refl _ _,Nat.le_refl _⟩
def Ou(P:Program)(G:bc)(N B:Nat)(M:List aS)(L:(ar→aC)→Nat→ar→aC):Prop:=∀c f id,jg P G N B M c f→jg P G N B M (.loop c) (L f id)
def Ov(P:Program)(G:bc)(N B:Nat)(M:List aS)(D:Array Oper→ar→aC):Prop:=∀id ops,jg P G N B M (.region id ops true) (D ops)
theorem oZ(b1:fT P G M inl)(fY:Ou P G N B M L)(mv:Ov P G N B M D): ∀(c:Code) (cur:Nat),jg P G N B M c (comp P N B T inl L D c cur)
 | .skip,_=>Ot (ex:=.normal) trivial b7.skip
 | .ret,_=>Ot (ex:=.ret) trivial b7.ret
 | .exit id,_=>Ot (ex:=.exit id) rfl b7.exit
 | .region id ops draw,_=>by
  cases draw with
  |true=>exact mv id ops
  |false=>
   intro S e ad hf ai
   have h0:ops=ops.toList.toArray:=by simp
   rw[h0];refine b7.region ?_
   rw[←h0];exact uN b1 ops.toList ad hf ai fun _ _ h=>h
 | .cond x a b,cur=>ziS (oZ b1 fY mv a cur) (oZ b1 fY mv b cur)
 | .block id c,_=>ziT (oZ b1 fY mv c id)
 | .seq a b,cur=>Am (oZ b1 fY mv a cur) (oZ b1 fY mv b cur)
 | .loop c,cur=>fY c _ cur (oZ b1 fY mv c cur)
 | .rangeFunc _ _ _ _,_=>fun _ _ _ _ h=>h.elim
 | .scope _,_=>fun _ _ _ _ h=>h.elim
 | .label _,_=>fun _ _ _ _ h=>h.elim
 | .goto _,_=>fun _ _ _ _ h=>h.elim
 | .refuse _,_=>fun _ _ _ _ h=>h.elim
end
end Go.aN
namespace Go.aN
open Go
def BW:Nat→List ab→List (Nat × ab)
 |_,[]=>[]
 |i,x::r=>(i,x)::BW (i+1) r
def yu(P:Program)(N:Nat)(S:ar):List ResultVar→Option (List ab)
 |[]=>some []
 | .tmp t::r=>match yu P N S r with
  |some l=>some (S.a7 N (.tmp t)::l)
  |none=>none
 | .cell p t::r=>match yu P N S r,vt S (S.a7 N (.tmp p))with
  |some l,some cs=>match qc P t cs with
   |some v=>some (v::l)
   |none=>none
  |_,_=>none
def Ow(P:Program)(fn:Func)(N:Nat)(S:ar):Option ab:=
 match yu P N S fn.results.toList with
 |some [x]=>some x
 |some l=>some (.tp l)
 |none=>none
def sO:b5→b5
 | .ret=>.ct
 |x=>x
def ziU:b5→Bool
 | .ct=>true
 | .ret=>true
 |_=>false
def uP(P:Program)(fn:Func)(N:Nat)(S:ar):aC:=
 match Ow P fn N S with
 |some v=>match v.lt S.k with
  |true=>.cQ .ct {S with l:=bd.put .emp 0 v}
  |false=>.bad 44
 |none=>.bad 43
structure jM where
 L:Nat→Nat→(Nat→List ab→ar→aC)→(ar→aC)→Nat→ar→aC
 D:Nat→Nat→(Nat→List ab→ar→aC)→Array Oper→ar→aC
def qd(aG:List ab)(S:ar):ar:={S with l:=fr (BW 0 aG)}
def Ox(P:Program)(H:jM)(T:List (Nat × bR))(inl:Nat→List ab→ar→aC)(c:Code)(N:Nat)(aG:List ab)(S:ar):aC:=
 comp P N S.n T inl (H.L N S.n inl) (H.D N S.n inl) c 0 (qd aG S)
def yv(n:Nat)(m:Nat):Nat:=
 match n with
 |0=>m
 |k+1=>k+1
def aC.nA:aC→Nat
 | .cQ _ _=>0
 | .lt _ _ t=>t.nA
 | .eL _ t=>t.nA
 | .it _ a b=>yv a.nA b.nA
 | .dH _ a _ k=>yv a.nA k.nA
 | .eA _ _ _ _ _ a k=>yv a.nA k.nA
 | .e3 _ _ _ a k=>yv a.nA k.nA
 | .bad n=>n
def ziV(f n:Nat):Nat:=
 match Nat.ble 1000 n with
 |true=>n
 |false=>f*1000+n
def DR(P:Program)(f:Nat)(fn:Func)(N:Nat)(t:aC):aC:=
 match t.fx ziU with
 |true=>(t.rel sO).eP (uP P fn N) none
 |false=>.bad (ziV f t.nA)
def Oy(P:Program)(H:jM)(T:List (Nat × bR))(inl:Nat→List ab→ar→aC)(f:Nat)(aG:List ab)(S:ar):aC:=
 match P.funcs[f]? with
 |some fn=>match fn.body with
  |some c=>DR P f fn (aG.length+(fn.ntmps-aG.length)) (Ox P H T inl c (aG.length+(fn.ntmps-aG.length)) aG S)
  |none=>.bad 41
 |none=>.bad 42
section
variable {P:Program} {G:bc} {N B:Nat} {M:List aS} {T:List (Nat × bR)} {inl:Nat→List ab→ar→aC} {H:jM}
def Oz(P:Program)(G:bc)(M:List aS)(H:jM):Prop:=∀(inl:Nat→List ab→ar→aC),fT P G M inl→∀N B,Ou P G N B M (H.L N B inl)∧Ov P G N B M (H.D N B inl)
theorem VC{t:TypeId}{l:List ab}{v:ab}{e:Env}(h:qc P t l=some v):
 (∃n,mr P t=some n∧n≤l.length∧0<n∧v.den G e= .agg ((ab.bX G e l).take n))∨(mr P t=none∧scalar P t=true∧∃r,l=v::r):=by
 unfold qc at h
 split at h
 ·rename_i n hn
  split at h
  ·rename_i ad
   simp only[Bool.and_eq_true]at ad;cases h;refine .inl ⟨n,hn,Nat.le_of_ble_eq_true ad.1,Nat.le_of_ble_eq_true ad.2,?_⟩
   simp only[ab.den,e9,List.map_take]
  ·cases h
 ·rename_i hn
  split at h
  ·rename_i ai
   cases h;exact .inr ⟨hn,ai,_,rfl⟩
  ·cases h
theorem F4{S:ar}{e:Env}(hf:S.cC e): ∀{l:List ResultVar} {vs:List ab},yu P N S l=some vs→nb P (S.den G N B e) l=some (ab.bX G e vs)
 |[],vs,h=>by cases h;rfl
 | .tmp t::r,vs,h=>by
  simp only[yu]at h
  split at h
  ·rename_i l aq
   cases h
   have:=bP (G:=G) (N:=N) (B:=B) hf (.tmp t)
   simp only[nb,F4 hf aq,ab.bX,←this];rfl
  ·cases h
 | .cell p t::r,vs,h=>by
  simp only[yu]at h
  split at h
  ·rename_i l cs aq hc
   split at h
   ·rename_i v ax
    cases h
    have aa:=bP (G:=G) (N:=N) (B:=B) hf (.tmp p)
    have ae:=Bp (G:=G) (N:=N) (B:=B) (e:=e) hc
    rw[←aa]at ae
    have ae:fu (S.den G N B e).heap ((S.den G N B e).c0.getD p .top)=some (ab.bX G e cs):=ae
    simp only[nb,F4 hf aq,ae,ab.bX]
    rcases VC (G:=G) (e:=e) ax with⟨n,g1,g2,g3,g4⟩|⟨g1,g2,eY,g3⟩
    ·simp only[g1,g4]
     rw[if_pos ⟨by rw[ml];exact g2,g3⟩]
    ·subst g3
     simp only[g1,g2,if_true,ab.bX]
   ·cases h
  ·cases h
theorem RX{fn:Func}{S:ar}{e:Env}{v:ab}(hf:S.cC e)(h:Ow P fn N S=some v):AI P fn (S.den G N B e)=some (v.den G e):=by
 unfold Ow at h
 unfold AI
 split at h
 ·rename_i x hx
  cases h;rw[F4 hf hx];rfl
 ·rename_i l b9 aq
  cases h;rw[F4 hf aq]
  match l with
  |[]=>rfl
  |[x]=>exact absurd rfl (b9 x)
  |x::y::l=>rfl
 ·cases h
theorem DS(t:aC):t.iI sO:=nu (t.lvl+1) (Nat.lt_succ_self _) (fun n _ x h=>by cases x<;>first|rfl|exact h) (fun n x h=>by cases x<;>first|rfl|exact h)
theorem OA: ∀{l:List ab} {i j:Nat},(fr (BW i l)).get j=if j<i then none else l[j-i]?
 |[],i,j=>by simp only[BW,fr];split<;>simp[bd.get]
 |x::r,i,j=>by
  simp only[BW,fr,bd.h5,OA (l:=r)]
  by_cases h:i=j
  ·subst h;simp
  ·rw[if_neg h]
   by_cases ae:j<i
   ·rw[if_pos ae,if_pos (by omega)]
   ·rw[if_neg ae,if_neg (by omega),show j-i=(j-(i+1))+1 by omega,List.getElem?_cons_succ]
theorem RT{aG:List ab}{S:ar}{e:Env}{k:Nat}:(qd aG S).den G (aG.length+k) S.n e=⟨ab.bX G e aG++List.replicate k .top,cF G e S.h,S.n,S.n⟩:=by
 simp only[ar.den,qd,aQ.mk.injEq,and_true,true_and]
 apply List.ext_getElem?
 intro j
 rw[oj,Nat.zero_add,OA,if_neg (Nat.not_lt_zero _),Nat.sub_zero,e9,List.getElem?_append,List.getElem?_replicate,List.length_map]
 by_cases h:j<aG.length
 ·rw[if_pos (by omega),if_pos h,List.getElem?_map,List.getElem?_eq_getElem h]
  rfl
 ·rw[if_neg h]
  by_cases ae:j<aG.length+k
  ·rw[if_pos ae,if_pos (by omega),List.getElem?_eq_none (by omega)]
  ·rw[if_neg ae,if_neg (by omega)]
theorem RS{aG:List ab}{S:ar}(ad:S.cB)(aq:ab.cV S.k aG=true):(qd aG S).cB:=by
 refine⟨fun i x hx=>?_,ad.h,ad.g⟩
 simp only[qd,OA,Nat.not_lt_zero,if_false,Nat.sub_zero]at hx
 have hm:=List.mem_of_getElem? hx
 clear hx
 induction aG with
 |nil=>cases hm
 |cons y r aZ=>
  simp only[ab.cV,Bool.and_eq_true]at aq
  rcases List.mem_cons.1 hm with rfl|hm
  ·exact aq.1
  ·exact aZ aq.2 hm
theorem b7.RV{c:Code}{Q:Exit→aQ→Prop}{s:aQ}(h:b7 P G c (fun e st=>∃F5,cw st F5∧Q e F5) s):b7 P G c Q s:=fun E a w ag=>
 wp_mono (h E a w ag) fun _ bg w' ⟨st,⟨F5,aq,aK⟩,ae⟩=>⟨F5,aK,aq E G bg w' ae⟩
theorem ziW(k4:Oz P G M H)(b1:fT P G M inl):fT P G M (Oy P H T inl):=by
 intro f aG S e ad aq hf ai
 unfold Oy at ai⊢
 split at ai
 ·rename_i fn nV
  split at ai
  ·rename_i c hc
   generalize mV:aG.length+(fn.ntmps-aG.length)=N at ai;generalize aH:Ox P H T inl c N aG S=t at ai;unfold DR at ai⊢
   split at ai
   ·rename_i An
    obtain⟨g1,g2,g3⟩:=jk (t.rel sO) none ai
    have uO:t.safe M e:=(k5 (DS t)).1 g1
    have Ao:=oZ (T:=T) (B:=S.n) (N:=N) b1 (k4 inl b1 N S.n).1 (k4 inl b1 N S.n).2 c 0 (qd aG S) e (RS ad aq) hf (by
     unfold Ox at aH;rw[aH];exact uO)
    have cN:comp P N S.n T inl (H.L N S.n inl) (H.D N S.n inl) c 0 (qd aG S)=t:=aH
    rw[cN,←mV,RT,mV]at Ao;refine dN.RU (k:=fn.ntmps-aG.length) nV hc (by rw[ml]) (b7.RV (b7.mono Ao fun ex st ak=>?_))
    obtain⟨x,dq,az,aa,ae,au,aR,bN,cL,eH⟩:=ak;refine⟨_,au,?_⟩
    obtain⟨iP,dW,bl,cR,c7⟩:=jl (M:=M) (e:=e) An;rw[aa]at cR
    cases cR
    have ag:run M (t.rel sO) e=some (.ct,dq,az):=by
     rw[w4 (DS t),aa]
     cases x<;>first|rfl|cases c7
    obtain⟨o0,_⟩:=g3 dq az ag;rw[ag]at g2
    have g2:run M ((t.rel sO).eP (uP P fn N) none) e=run M (uP P fn N dq) az:=g2
    unfold uP at o0 g2
    split at o0
    ·rename_i v ax
     split at o0
     ·rename_i fH
      simp only[ax,fH]at g2;refine⟨(by cases x<;>cases ex<;>first|exact .inl rfl|exact .inr rfl|exact ae.elim|cases c7),v.den G az,cF G az dq.h,RX bN ax,fun _ _ h=>h,{dq with l:=bd.put .emp 0 v},az,g2,?_,rfl,⟨fun i x hx=>?_,aR.h,aR.g⟩,bN,cL,eH⟩
      ·simp only[ar.at,bd.h5,if_true]
      ·simp only[bd.h5]at hx
       split at hx
       ·cases hx;exact fH
       ·simp[bd.get]at hx
     ·exact o0.elim
    ·exact o0.elim
   ·exact ai.elim
  ·exact ai.elim
 ·exact ai.elim
end
end Go.aN
