/- TD, part Z: regions of drawn order, sound. Conditions: none. -/
import Derived.Test.YtmkpmgfieagphaaDoorKTDy
namespace Go.aG
open Go
def uM(v:ab):Bool:=
 match v.rt with
 |some (.int _)=>true
 |some .bool=>true
 |some .str=>true
 |_=>false
def GD(P:Program)(S:aq)(t:TypeId)(id:Nat)(i:ab):Option dq:=
 match i.rt,iZ P t,c2 S.h id with
 |some (.int k),some n,some (.rw _ c y)=>match Nat.beq n (cO c)with
  |true=>some ⟨[],nB S.g (.hU c) (.jh c k) y i,.fY id i 0⟩
  |false=>none
 |_,_,_=>none
def GF(P:Program)(S:aq)(t:TypeId)(x i:ab):Option dq:=
 match i.rt,iZ P t,sh x with
 |some (.int k),some n,some c=>match Nat.beq n (cO c)with
  |true=>some ⟨[.f2 (.jh c k) x i],nB S.g (.hU c) (.jh c k) x i,.ip c S.k 0⟩
  |false=>none
 |_,_,_=>none
def GG(P:Program)(S:aq)(t:TypeId)(id off:Nat)(i:ab):Option dq:=
 match i.rt,rS P t,se S (.de id off)with
 |some (.int _),some (len,n),some _=>match i with
  | .cs (.int _ (.ofNat j))=>match Nat.blt j len,tZ (j*n) (.de id off)with
   |true,some p=>some ⟨[],[],p⟩
   |_,_=>none
  |i=>some ⟨[],tX S.g len i,.ga id off i n⟩
 |_,_,_=>none
def A9(P:Program)(N:Nat)(S:aq)(t:TypeId)(x:ab)(lo hi:Option Operand):Option dq:=
 match ub N S lo,ub N S hi,x.rt,iZ P t with
 |some l,some h,some (.li c),some n=>match Nat.beq n (cO c)with
  |true=>some ⟨[.eC c x l h],[.eC c x l h],.bb (.li c) S.k⟩
  |false=>none
 |_,_,_,_=>none
def pI(P:Program)(N:Nat)(S:aq)(o:Oper):Option dq:=
 match o.op with
 | .move x=>some ⟨[],[],S.aX N x⟩
 | .assign x=>some ⟨[],[],S.aX N x⟩
 | .nilCheck x=>match qC S (S.aX N x)with
  |true=>some ⟨[],[],S.aX N x⟩
  |false=>none
 | .fieldAddr t x f=>match qb P t f,qC S (S.aX N x)with
  |some k,true=>match tZ k (S.aX N x)with
   |some p=>some ⟨[],[],p⟩
   |none=>none
  |_,_=>none
 | .load t x=>match se S (S.aX N x)with
  |some l=>match pv P t l with
   |some v=>some ⟨[],[],v⟩
   |none=>none
  |none=>match ox P N S o with
   |some r=>match uM r.v with
    |true=>some r
    |false=>none
   |none=>none
 | .indexAddr t x i=>match S.aX N x with
  | .aL id=>GD P S t id (S.aX N i)
  | .de id off=>GG P S t id off (S.aX N i)
  |y=>GF P S t y (S.aX N i)
 | .slice t x lo hi none=>match A9 P N S t (S.aX N x) lo hi with
  |some r=>some r
  |none=>match ox P N S o with
   |some r=>match uM r.v with
    |true=>some r
    |false=>none
   |none=>none
 |_=>match ox P N S o with
  |some r=>match uM r.v with
   |true=>some r
   |false=>none
  |none=>none
def lY(o:Oper):Bool:=
 match o.op with
 | .store _ _ _=>true
 | .alloc _=>true
 | .box _ _=>true
 | .buildSlice _ _ _=>true
 | .mapUpdate _ _ _ _=>true
 | .call c=>match c.callee with
  | .builtin .append=>true
  | .builtin .copy=>true
  |_=>false
 |_=>false
mutual
def ab.pure:ab→Bool
 | .bb _ _=>true
 | .fd _ _ _ _=>true
 | .cs _=>true
 | .ip _ _ _=>true
 | .cm l=>ab.ep l
 | .tp l=>ab.ep l
 | .fn _ a b=>ab.ep a&&ab.ep b
 |_=>false
def ab.ep:List ab→Bool
 |[]=>true
 |x::r=>ab.pure x&&ab.ep r
end
def GH(S:aq)(dst:Option Nat)(C:aq):ay:=
 match ab.pure (C.at 0)with
 |true=>.cc .bY ((⟨S.l,S.h,S.n,C.k,C.g⟩:aq).put dst (C.at 0))
 |false=>.bad 74
def pJ(P:Program)(N B:Nat)(T:List (Nat × bC))(inl:Nat→List ab→aq→ay)(o:Oper)(S:aq):ay:=
 match lY o with
 |true=>match Aw P N B T S o with
  |some r=>match gx S.k r.xs&&(r.v.lt (S.k+r.xs.length)&&ei (S.k+r.xs.length) r.h)with
   |true=>emit S.k r.xs r.ns (.cc .bY ((r.st S o.dst).ej S.k r.xs))
   |false=>.bad 31
  |none=>.bad (100+FT o)
 |false=>match ox P N S o with
  |some r=>match gx S.k r.xs&&r.v.lt (S.k+r.xs.length)with
   |true=>emit S.k r.xs r.ns (.cc .bY ((S.ej S.k r.xs).put o.dst r.v))
   |false=>.bad 30
  |none=>match Az N S o with
   |some (f,as)=>match lH P f&&ab.ep as with
    |true=>(inl f as ⟨.emp,[],0,S.k,S.g⟩).eb (GH S o.dst) none
    |false=>.bad 32
   |none=>.bad (100+FT o)
def oI(P:Program)(N B:Nat)(T:List (Nat × bC))(inl:Nat→List ab→aq→ay)(ops:Array Oper)(o:Oper)(S:aq):ay:=
 match guardOf N ops S o with
 | .yes=>pJ P N B T inl o S
 | .no=>match lY o with
  |false=>.cc .bY (S.put o.dst (.tp []))
  |true=>.bad 73
 | .on gs=>match kK S.k gs&& !(lY o)with
  |true=>match ox P N {S with g:=gz gs S.g} o with
   |some r=>match gx S.k r.xs&&r.v.lt (S.k+r.xs.length)with
    |true=>emit S.k r.xs (r.ns.map (oB gs)) (.cc .bY ((S.ej S.k r.xs).put o.dst (jn gs r.v)))
    |false=>.bad 35
   |none=>qN (pC S o.dst) gs (pJ P N B T inl o {S with g:=gz gs S.g}) S.g
  |false=>.bad 36
 | .bad=>.bad 37
def qX(P:Program)(N:Nat)(ops:Array Oper)(o:Oper)(S:aq)(k:aq→ay):ay:=
 match guardOf N ops S o with
 | .yes=>match pI P N S o with
  |some r=>match gx S.k r.xs&&r.v.lt (S.k+r.xs.length)with
   |true=>emit S.k r.xs r.ns (k ((S.ej S.k r.xs).put o.dst r.v))
   |false=>.bad 30
  |none=>.bad 76
 | .no=>k (S.put o.dst (.tp []))
 | .on gs=>match kK S.k gs with
  |true=>match pI P N {S with g:=gz gs S.g} o with
   |some r=>match gx S.k r.xs&&r.v.lt (S.k+r.xs.length)with
    |true=>emit S.k r.xs (r.ns.map (oB gs)) (k ((S.ej S.k r.xs).put o.dst (jn gs r.v)))
    |false=>.bad 35
   |none=>.bad 76
  |false=>.bad 36
 | .bad=>.bad 37
def pop(P:Program)(N:Nat)(S:aq)(o:Oper):Bool:=
 match o.op with
 | .move _=>true
 | .assign _=>true
 | .nilCheck _=>true
 | .fieldAddr _ _ _=>true
 | .indexAddr _ _ _=>true
 | .slice t x lo hi none=>(A9 P N S t (S.aX N x) lo hi).isSome
 |_=>false
def uN(P:Program)(N:Nat)(ops:Array Oper)(S:aq)(o:Oper):Bool:=
 match guardOf N ops S o with
 | .yes=>pop P N S o
 | .no=>true
 | .on gs=>pop P N {S with g:=gz gs S.g} o
 | .bad=>false
def VN(P:Program)(N:Nat)(ops:Array Oper)(wr m:List Bool)(S:aq)(i:Nat):Bool:=
 match ops[i]? with
 |some o=>(Region.free .any ops m.toArray i&&(!(wr.getD i false)&&(uN P N ops S o||A8 ops wr m i)))&&(match guardOf N ops S o with
  | .yes=>(pI P N S o).isSome
  | .no=>true
  | .on gs=>(pI P N {S with g:=gz gs S.g} o).isSome
  | .bad=>false)
 |none=>false
def MP(P:Program)(N:Nat)(ops:Array Oper)(wr m:List Bool)(S:aq):List Nat→Option Nat
 |[]=>none
 |i::r=>match VN P N ops wr m S i with
  |true=>some i
  |false=>MP P N ops wr m S r
def Ba(N:Nat)(ops:Array Oper)(S:aq)(o:Oper):List (ab × Bool):=
 match guardOf N ops S o with
 | .on gs=>gs
 |_=>[]
def GI:bJ→bJ→Bool
 | .d1 i f x,.d1 j g y=>Nat.beq i j&&(decide (f=g)&&fi x y)
 | .d2 i f x y,.d2 j g u v=>(Nat.beq i j&&decide (f=g))&&(fi x u&&fi y v)
 | .rg i b,.rg j c=>Nat.beq i j&&fi b c
 | .dp g b,.dp h c=>fi g h&&decide (b=c)
 |_,_=>false
def Bb:List bJ→List bJ→Bool
 |[],[]=>true
 |x::l,y::m=>GI x y&&Bb l m
 |_,_=>false
def GJ:bq→bq→Bool
 | .cT t l,.cT u m=>Nat.beq t u&&qK l m
 | .rw t c x,.rw u d y=>Nat.beq t u&&(decide (c=d)&&fi x y)
 | .it x p,.it y q=>fi x y&&fi p q
 |_,_=>false
def Bc:List (Nat × bq)→List (Nat × bq)→Bool
 |[],[]=>true
 |(i,x)::l,(j,y)::m=>Nat.beq i j&&(GJ x y&&Bc l m)
 |_,_=>false
def xK:aZ ab→aZ ab→Bool
 | .emp,.emp=>true
 | .n v l r,.n w m s=>(match v,w with
  |some x,some y=>fi x y
  |none,none=>true
  |_,_=>false)&&(xK l m&&xK r s)
 |_,_=>false
def GK(S U:aq):Bool:=(xK S.l U.l&&Bc S.h U.h)&&((Nat.beq S.n U.n&&Nat.beq S.k U.k)&&Bb S.g U.g)
def Bd(S:aq):List ay→Bool
 |[]=>true
 | .cc .bY U::r=>GK U S&&Bd S r
 |_=>false
def xL:List ay→ay
 | .cc .bY S::r=>match Bd S r with
  |true=>.cc .bY S
  |false=>.bad 72
 |_=>.bad 71
def oJ(P:Program)(N B:Nat)(T:List (Nat × bC))(inl:Nat→List ab→aq→ay)(ops:Array Oper)(wr:List Bool):Nat→List Bool→aq→ay
 |0,m,S=>match Region.ready .any ops m.toArray with
  |[]=>.cc .bY S
  |_=>.bad 70
 |n+1,m,S=>match Region.ready .any ops m.toArray with
  |[]=>.cc .bY S
  |i::rd=>match MP P N ops wr m S (i::rd)with
   |some j=>match ops[j]?,(Region.ready .any ops m.toArray).contains j&&(Region.free .any ops m.toArray j&& !(wr.getD j false))with
    |some o,true=>match uN P N ops S o||A8 ops wr m j with
     |true=>qX P N ops o S (oJ P N B T inl ops wr n (m.set j true))
     |false=>.bad 79
    |_,_=>.bad 77
   |none=>match rd,ops[i]? with
    |[],some o=>match decide (wr.getD i false=lY o)with
     |true=>oz N S o.dst (Ba N ops S o) (oI P N B T inl ops o S) (oJ P N B T inl ops wr n (m.set i true))
     |false=>.bad 78
    |_,_=>xL ((i::rd).map fun j=>match ops[j]? with
     |some o=>match decide (wr.getD j false=lY o)with
      |true=>oz N S o.dst (Ba N ops S o) (oI P N B T inl ops o S) (oJ P N B T inl ops wr n (m.set j true))
      |false=>.bad 78
     |none=>.bad 77)
def GL(P:Program)(N B:Nat)(T:List (Nat × bC))(inl:Nat→List ab→aq→ay)(ops:Array Oper)(S:aq):ay:=
 match P.follows .mixedOrders&&Region.noSelect ops with
 |true=>oJ P N B T inl ops (ops.toList.map lY) ops.size (List.replicate ops.size false) S
 |false=>.bad 75
section
variable {P:Program} {G:aY} {N B:Nat} {M:List bc} {T:List (Nat × bC)} {inl:Nat→List ab→aq→ay}
theorem VO{v:ab}{e:Env}(h:uM v=true): ∃c,v.den G e= .au (.v c):=by
 unfold uM at h
 split at h
 ·rename_i ae;exact⟨_,gg ae⟩
 ·rename_i ae;exact⟨_,gg ae⟩
 ·rename_i ae;exact⟨_,gg ae⟩
 ·cases h
theorem VP{t:TypeId}{n:Nat}(h:kZ P t=some n):scalar P t=false:=by
 unfold kZ at h
 unfold scalar
 split at h<;>simp_all
theorem iG.pK{ops:Array Oper}{o:Oper}{s:aJ}{v:az}(h:ld P G o s v)(ag:dD ops s o=some true):iG P G ops o s (s.put o.dst v):=by
 intro E a w ⟨β,ro,ae⟩
 have hw:=mj (ops:=ops) ⟨β,ro,ae⟩ ag
 obtain⟨c,aa,af⟩:=h E a w β ro ae
 exact⟨c,.inl ⟨hw,fun cY _=>aa cY⟩,β,ro,ae.put _ _ _ af⟩
theorem MQ{o:Oper}{S:aq}{t:TypeId}{x i:Operand}{r:dq}{e:Env}(ao:o.op= .indexAddr t x i)(h:GF P S t (S.aX N x) (S.aX N i)=some r)(hf:S.cf e)(hx: ∀(j:Nat) (x:bG),r.xs[j]? =some x→Env.at e (S.k+j)=x.den M e)(hn: ∀n∈r.ns,n.ok M e):ld P G o (S.den G N B e) (r.v.den G e):=by
 unfold GF at h
 split at h
 ·rename_i k n c hi kI hc
  split at h
  ·rename_i ad
   cases h
   have ad:=Nat.eq_of_beq_eq_true ad
   rw[ad]at kI
   have fZ:aE G (S.den G N B e) i=_:=(bw hf i).trans (iL hi)
   obtain⟨hd,E0⟩:=EZ (G:=G) (e:=e) hc;obtain⟨g1,g2⟩:=tY hf hi hn
   have:=KG c _ k _ ao kI fZ ((bw hf x).trans hd) g1 g2
   have aP:Env.at e S.k=_:=hx 0 _ rfl
   have aa:=K8 (G:=G) (x:=List.getD ((S.aX N x).aD e (.li c)) (Int.toNat ((S.aX N i).aD e (.int k))) (ed c)) aP
   show ld P G o _ ((ab.ip c S.k 0).den G e);rw[aa];exact this
  ·cases h
 ·cases h
theorem VQ{o:Oper}{s:aJ}(t:TypeId)(x i:Operand)(ao:o.op= .indexAddr t x i){n:Nat}(aB:iZ P t=some n){k:IntKind}{j:Nat}(hi:aE G s i= .au (.v (.int k (j:Int)))){p:az}(ak:lI s.heap n j (aE G s x)=some p):
 ld P G o s p:=
 fun _ a w β ro ae=>by
  obtain⟨cz,len,cap,hc,ai,c1⟩:=JQ ae.heap (ae.eval x) ak;obtain⟨e,hu,bA⟩:=vY aB;refine⟨_,fun cY=>?_,c1⟩
  have rR:(0:Int)≤j∧(j:Int)<len:=⟨by omega,by omega⟩
  simp[execOp,ao,hc,ae.dU hi,Instr.indexAt,asIntOf,run_underlying hu,ai,bA]
theorem MR{o:Oper}{S:aq}{t:TypeId}{x i:Operand}{id:Nat}{r:dq}{e:Env}(ao:o.op= .indexAddr t x i)(hid:S.aX N x= .aL id)(h:GD P S t id (S.aX N i)=some r)(hf:S.cf e)(hx: ∀(j:Nat) (x:bG),r.xs[j]? =some x→Env.at e (S.k+j)=x.den M e)(hn: ∀n∈r.ns,n.ok M e):ld P G o (S.den G N B e) (r.v.den G e):=by
 unfold GD at h
 split at h
 ·rename_i k n bn c y hi kI ag
  split at h
  ·rename_i ad
   cases h
   have ad:=Nat.eq_of_beq_eq_true ad
   have fZ:aE G (S.den G N B e) i=_:=(bw hf i).trans (iL hi)
   obtain⟨g1,g2⟩:=tY hf hi hn;obtain⟨j,ai⟩: ∃j:Nat,(S.aX N i).aD e (.int k)=(j:Int):=⟨_,(Int.toNat_of_nonneg g1).symm⟩;rw[ai]at fZ g2
   have g2:(j:Int)<((List.length (y.aD e (.li c)):Nat):Int):=g2
   have:=VQ (P:=P) (o:=o) t x i ao kI fZ (p:=.cn id j 0) (by
    rw[bw hf,hid];simp only[ab.den,lI,aq.den,et,ag,Option.map_some,bq.den]
    rw[if_pos ⟨ad.symm,by rw[List.length_map];omega⟩])
   simp only[ab.den,lh hi,ai,Int.toNat_natCast];exact this
  ·cases h
 ·cases h
theorem MS{o:Oper}{s:aJ}(t:TypeId)(x i:Operand)(ao:o.op= .indexAddr t x i){len n:Nat}(aB:rS P t=some (len,n)){k:IntKind}{j:Nat}(hi:aE G s i= .au (.v (.int k (j:Int))))(ai:j<len)
 {cs:List az}(ff:eZ s.heap (aE G s x)=some cs){p:az}(ak:h5 (j*n) (aE G s x)=some p):
 ld P G o s p:=
 fun _ a w β ro ae=>by
  obtain⟨cz,hc,c1⟩:=Jc ak ff (ae.eval x);unfold rS at aB
  split at aB
  ·rename_i m e hu
   cases rT:P.info? e with
   |none=>simp[rT]at aB
   |some Sk=>
    simp[rT]at aB;obtain⟨rfl,rfl⟩:=aB;refine⟨_,fun cY=>?_,c1⟩
    simp[execOp,ao,hc,ae.dU hi,Instr.indexAt,asIntOf,run_underlying hu,Instr.sureAddr,ai,sizeOf,typeInfo,rT]
  ·cases aB
theorem MT{o:Oper}{S:aq}{t:TypeId}{x i:Operand}{id off:Nat}{r:dq}{e:Env}(ao:o.op= .indexAddr t x i)(hid:S.aX N x= .de id off)(h:GG P S t id off (S.aX N i)=some r)(hf:S.cf e)(hn: ∀n∈r.ns,n.ok M e):ld P G o (S.den G N B e) (r.v.den G e):=by
 unfold GG at h
 split at h
 ·rename_i k len n l hi aI an
  have fZ:aE G (S.den G N B e) i=_:=(bw hf i).trans (iL hi)
  have ff:=wW (G:=G) (N:=N) (B:=B) (e:=e) an
  have qO:aE G (S.den G N B e) x=(ab.de id off).den G e:=by rw[bw hf,hid]
  rw[←qO]at ff
  split at h
  ·rename_i bj j ai
   split at h
   ·rename_i p dv ak
    cases h;refine MS t x i ao aI (k:=bj) (j:=j) (by rw[bw hf,ai];rfl) (eF dv) ff ?_
    have ah:=wX (G:=G) (e:=e) ak
    rw[←ah,qO];rfl
   ·cases h
  ·cases h
   have jL:0≤b1 ((S.aX N i).dyn e)∧b1 ((S.aX N i).dyn e)<(len:Int):=zS hf hn
   obtain⟨j,ai⟩: ∃j:Nat,b1 ((S.aX N i).dyn e)=(j:Int):=⟨_,(Int.toNat_of_nonneg jL.1).symm⟩;rw[←lh hi,ai]at fZ;refine MS t x i ao aI fZ (by omega) ff ?_
   rw[qO];simp only[ab.den,h5,ai,Int.toNat_natCast]
 ·cases h
theorem MU{o:Oper}{S:aq}{t:TypeId}{x:Operand}{lo hi:Option Operand}{r:dq}{e:Env}(ao:o.op= .slice t x lo hi none)(h:A9 P N S t (S.aX N x) lo hi=some r)(hf:S.cf e)(hx: ∀(j:Nat) (x:bG),r.xs[j]? =some x→Env.at e (S.k+j)=x.den M e)(hn: ∀n∈r.ns,n.ok M e):ld P G o (S.den G N B e) (r.v.den G e):=by
 unfold A9 at h
 split at h
 ·rename_i l h' c n an aV ae kI
  split at h
  ·rename_i ad
   cases h;rw[Nat.eq_of_beq_eq_true ad]at kI
   have aP:Env.at e S.k=_:=hx 0 _ rfl
   simp only[ab.den,aP,bG.den,cA];exact KW c _ ao kI ((bw hf x).trans (gg ae)) (ud hf an) (ud hf aV) (hn _ (List.mem_singleton.2 rfl))
  ·cases h
 ·cases h
theorem VR{ops:Array Oper}{o:Oper}{S:aq}{r:dq}{e:Env}(h:pI P N S o=some r)(hf:S.cf e)(hx: ∀(j:Nat) (x:bG),r.xs[j]? =some x→Env.at e (S.k+j)=x.den M e)(hn: ∀n∈r.ns,n.ok M e)(ag:dD ops (S.den G N B e) o=some true):
 iG P G ops o (S.den G N B e) ((S.den G N B e).put o.dst (r.v.den G e)):=by
 have key:(match ox P N S o with
  |some r=>match uM r.v with
   |true=>some r
   |false=>none
  |none=>none)=some r→iG P G ops o (S.den G N B e) ((S.den G N B e).put o.dst (r.v.den G e)):=fun h=>by
  split at h
  ·rename_i dW av
   split at h
   ·rename_i hc
    cases h
    have di:=sl (G:=G) (B:=B) (M:=M) av e hf hx hn
    obtain⟨c,VS⟩:=VO (G:=G) (e:=e) hc;rw[VS]at di⊢;exact iG.pc di ag
   ·cases h
  ·cases h
 unfold pI at h
 split at h
 ·rename_i x ao
  cases h
  have:jd P G o (S.den G N B e)=some ((S.aX N x).den G e):=by unfold jd;rw[ao,←bw hf]
  exact(gw.val this ag).l
 ·rename_i x ao
  cases h
  have:jd P G o (S.den G N B e)=some ((S.aX N x).den G e):=by unfold jd;rw[ao,←bw hf]
  exact(gw.val this ag).l
 ·rename_i x ao
  split at h
  ·rename_i ak
   cases h
   have:jd P G o (S.den G N B e)=some ((S.aX N x).den G e):=by
    unfold jd;rw[ao];simp only[bw hf,sg ak]
   exact(gw.val this ag).l
  ·cases h
 ·rename_i t x f ao
  split at h
  ·rename_i k aj ak
   split at h
   ·rename_i p ah
    cases h
    have:jd P G o (S.den G N B e)=some (p.den G e):=by
     unfold jd;rw[ao];simp only[aj,bw hf,sg ak,wX ah]
    exact(gw.val this ag).l
   ·cases h
  ·cases h
 ·rename_i t x ao
  split at h
  ·rename_i l an
   split at h
   ·rename_i v av
    cases h
    have hc:=wW (G:=G) (N:=N) (B:=B) (e:=e) an
    have:zE P G o (S.den G N B e)=some (v.den G e):=by
     unfold zE;rw[ao];simp only[bw hf,hc]
     rcases Md (G:=G) (e:=e) av with⟨n,g1,g2,g3,g4⟩|⟨g1,g2,dW,g3⟩
     ·cases l with
      |nil=>simp at g2;omega
      |cons y l=>
       have ah:scalar P t=false:=VP g1
       rw[g4];simp only[ab.bF,ah,g1];rw[if_pos ⟨by simpa[lT]using g2,g3⟩]
     ·subst g3
      simp only[ab.bF,g2]
    exact iG.load this ag
   ·cases h
  ·exact key h
 ·rename_i t x i ao
  split at h
  ·rename_i id hid
   exact iG.pK (MR ao hid h hf hx hn) ag
  ·rename_i id off hid
   exact iG.pK (MT ao hid h hf hn) ag
  ·exact iG.pK (MQ ao h hf hx hn) ag
 ·rename_i t x lo hi ao
  split at h
  ·rename_i dW ah
   cases h;exact iG.pK (MU ao ah hf hx hn) ag
  ·exact key h
 ·exact key h
mutual
theorem MV{e:Env}: ∀{x:ab},ab.pure x=true→e1 (x.den G e)=true:=fun {x} h=>by
 cases x with
 |cm l=>simp only[ab.den,e1];exact uO (l:=l) h
 |tp l=>simp only[ab.den,e1];exact uO (l:=l) h
 |fn f a b=>
  simp only[ab.pure,Bool.and_eq_true]at h;simp only[ab.den,e1,uO h.1,uO h.2,Bool.and_self]
 |de k o=>cases h
 |fY k x o=>cases h
 |ga k o x n=>cases h
 |cC k n=>cases h
 |eH g i o=>cases h
 |aL k=>cases h
 |ia k=>cases h
 |e6 g b x=>cases h
 |kF g o=>cases h
 |top=>cases h
 |_=>rfl
theorem uO{e:Env}: ∀{l:List ab},ab.ep l=true→ep (ab.bF G e l)=true:=fun {l} h=>by
 match l with
 |[]=>rfl
 |x::r=>
  simp only[ab.ep,Bool.and_eq_true]at h;simp only[ab.bF,ep,MV h.1,uO h.2,Bool.and_self]
end
def qY(G:aY)(N B:Nat)(M:List bc)(t:ay)(e:Env)(aR:Nat):aJ→Prop:=fun st=>
 ∃aN aC,run M t e=some (.bY,aN,aC)∧aN.cd∧aN.cf aC∧bM aR e aC∧aR≤aN.k∧st=aN.den G N B aC
theorem MW(b5:gC P G M inl){ops:Array Oper}{o:Oper}{S:aq}{e:Env}(ad:S.cd)(hf:S.cf e)(ah:(pJ P N B T inl o S).safe M e)(ag:dD ops (S.den G N B e) o=some true):
 (lY o=true→GC P G ops o (S.den G N B e) (qY G N B M (pJ P N B T inl o S) e S.k))∧(lY o=false→jt P G ops o (S.den G N B e) (qY G N B M (pJ P N B T inl o S) e S.k)):=by
 refine⟨fun hw=>?_,fun hw=>?_⟩
 ·unfold pJ at ah⊢
  rw[hw]at ah⊢;simp only at ah⊢
  split at ah
  ·rename_i r aH
   split at ah
   ·rename_i hc
    simp only[Bool.and_eq_true]at hc;obtain⟨fc,ey⟩:=ll ah
    have bs:bM S.k e (cK M e S.k r.xs):=iN (Nat.le_refl _)
    have di:=LV (G:=G) (M:=M) aH (cK M e S.k r.xs) (hE bs ad.g hf) (ij hc.1) fc
    rw[ki bs ad]at di;obtain⟨cY,c0⟩:=L1 (M:=M) (o:=o) ad hf hc.1 hc.2.1 hc.2.2;exact fun E a w ae=>⟨mj ae ag,fun K Q hK=>di E a w ae K Q fun aW w' dC=>hK _ ⟨(r.st S o.dst).ej S.k r.xs,_,kJ,cY,c0,bs,Nat.le_add_right _ _,rfl⟩ aW w' dC⟩
   ·exact ah.elim
  ·exact ah.elim
 ·unfold pJ at ah⊢
  rw[hw]at ah⊢;simp only at ah⊢
  split at ah
  ·rename_i r av
   split at ah
   ·rename_i hc
    simp only[Bool.and_eq_true]at hc;obtain⟨fc,ey⟩:=ll ah;obtain⟨bN,a2,a3⟩:=pD (M:=M) (G:=G) (N:=N) (B:=B) ad hf hc.1
    have bs:bM S.k e (cK M e S.k r.xs):=iN (Nat.le_refl _)
    have di:=sl (G:=G) (B:=B) (M:=M) av (cK M e S.k r.xs) (hE bs ad.g hf) (ij hc.1) fc
    rw[ki bs ad]at di;exact jt.v di ag ⟨(S.ej S.k r.xs).put o.dst r.v,_,kJ,jo bN hc.2,jq a2,bs,by rw[jr];exact Nat.le_add_right _ _,by rw[fh,a3]⟩
   ·exact ah.elim
  ·split at ah
   ·rename_i f as hR
    split at ah
    ·rename_i fR
     simp only[Bool.and_eq_true]at fR;obtain⟨fR,GM⟩:=fR;obtain⟨g1,g2,g3⟩:=iJ (inl f as ⟨.emp,[],0,S.k,S.g⟩) none ah;unfold Az at hR
     split at hR
     ·rename_i c tV
      split at hR
      ·rename_i x hx
       split at hR
       ·rename_i UW p gu si
        cases hR;obtain⟨callee,args,ts⟩:=c;simp only at hx;subst hx
        have bz:ab.cj S.k (p++args.toList.map (S.aX N)++gu)=true:=by
         have gf:=wQ (N:=N) ad x
         rw[si]at gf;simp only[ab.lt,Bool.and_eq_true]at gf;refine xi (xi gf.1 ?_) gf.2
         generalize args.toList=l
         induction l with
         |nil=>rfl
         |cons y r aO=>simp only[List.map_cons,ab.cj,wQ ad y,aO,Bool.and_self]
        have nI:ab.bF G e (p++args.toList.map (S.aX N)++gu)=ab.bF G e p++args.toList.map (aE G (S.den G N B e))++ab.bF G e gu:=by
         rw[eg,eg,eg,List.map_append,List.map_append,List.map_map]
         congr 2
         exact List.map_congr_left fun y _=>(bw hf y).symm
        have VT:(⟨.emp,[],0,S.k,S.g⟩:aq).cd:=⟨fun i x hx=>by simp[aZ.get]at hx,rfl,ad.g⟩
        have gv:=b5 f _ ⟨.emp,[],0,S.k,S.g⟩ e VT bz hf g1
        have uP:=uO (G:=G) (e:=e) GM
        rw[nI]at gv uP;refine jt.call tV (by rw[bw hf,si];rfl) fR ag uP gv fun r bE ⟨C,aw,aF,ea,fU,kk,pE,oE,my⟩=>?_
        have ak:=(g3 C aw aF).1
        have kj:ab.pure (C.at 0)=true:=by
         unfold GH at ak
         split at ak
         ·assumption
         ·exact ak.elim
        refine⟨by rw[ea];exact MV kj,(⟨S.l,S.h,S.n,C.k,C.g⟩:aq).put o.dst (C.at 0),aw,?_,?_,jq pE,oE,by rw[jr];exact my,?_⟩
        ·rw[g2,aF]
         simp only[hD,GH,kj];rfl
        ·refine jo ⟨fun i x hx=>fT my (ad.l i x hx),sd my ad.h,kk.g⟩ ?_
         show(C.at 0).lt C.k=true;unfold aq.at
         cases hr:C.l.get 0 with
         |none=>rfl
         |some y=>exact kk.l 0 y hr
        ·rw[fh,ea]
         have:=ki (G:=G) (N:=N) (B:=B) (S:=S) oE ad
         have af:(aq.mk S.l S.h S.n C.k C.g).den G N B aw=S.den G N B e:=this
         rw[af]
       ·cases hR
      ·cases hR
     ·cases hR
    ·exact ah.elim
   ·exact ah.elim
theorem VU{o:Oper}{S:aq}{e:Env}(ad:S.cd)(hf:S.cf e):qY G N B M (.cc .bY (S.put o.dst (.tp []))) e S.k ((S.den G N B e).put o.dst (.tuple [])):=
 ⟨S.put o.dst (.tp []),e,rfl,jo ad rfl,jq hf,bM.refl _ _,by rw[jr];exact Nat.le_refl _,by rw[fh];rfl⟩
theorem jt.mono{ops:Array Oper}{o:Oper}{s:aJ}{A A':aJ→Prop}(h:jt P G ops o s A)(cW: ∀t,A t→A' t):jt P G ops o s A':=fun E a w ae=>by
 rcases h E a w ae with⟨aa,af⟩|⟨aa,t,af,ar⟩
 ·exact .inl ⟨aa,fun K Q hK=>af K Q fun t aB=>hK t (cW t aB)⟩
 ·exact .inr ⟨aa,t,cW t af,ar⟩
theorem MX(b5:gC P G M inl){ops:Array Oper}{o:Oper}{S:aq}{e:Env}(ad:S.cd)(hf:S.cf e)(ah:(oI P N B T inl ops o S).safe M e):
 (lY o=true→GC P G ops o (S.den G N B e) (qY G N B M (oI P N B T inl ops o S) e S.k))∧(lY o=false→jt P G ops o (S.den G N B e) (qY G N B M (oI P N B T inl ops o S) e S.k)):=by
 have ag:=FY (G:=G) (N:=N) (B:=B) (ops:=ops) (o:=o) hf
 unfold oI at ah⊢
 cases iq:guardOf N ops S o with
 |yes=>
  rw[iq]at ag ah;exact MW b5 ad hf ah ag
 |no=>
  rw[iq]at ag ah;simp only at ah⊢
  split at ah
  ·rename_i hw
   exact⟨fun h=>(by rw[hw]at h;cases h),fun _=>.no ag (VU ad hf)⟩
  ·exact ah.elim
 |bad=>rw[iq]at ah;exact ah.elim
 |on gs=>
  rw[iq]at ag ah;simp only at ah⊢;obtain⟨g1,g2⟩:=ag
  split at ah
  ·rename_i MY
   simp only[Bool.and_eq_true,Bool.not_eq_true']at MY;obtain⟨jS,hw⟩:=MY;refine⟨fun h=>(by rw[hw]at h;cases h),fun _=>?_⟩
   split at ah
   ·rename_i q av
    split at ah
    ·rename_i hc
     simp only[Bool.and_eq_true]at hc;obtain⟨fc,ey⟩:=ll ah;obtain⟨bN,a2,a3⟩:=pD (M:=M) (G:=G) (N:=N) (B:=B) ad hf hc.1
     have bs:bM S.k e (cK M e S.k q.xs):=iN (Nat.le_refl _)
     have hO:fb (cK M e S.k q.xs) gs=fb e gs:=AJ bs jS
     have aj:S.k≤S.k+q.xs.length:=Nat.le_add_right _ _
     have nE:(jn gs q.v).lt (S.k+q.xs.length)=true:=AH (AI aj jS) hc.2
     have gN: ∀t,t=(S.den G N B e).put o.dst ((jn gs q.v).den G (cK M e S.k q.xs))→qY G N B M (emit S.k q.xs (q.ns.map (oB gs)) (.cc .bY ((S.ej S.k q.xs).put o.dst (jn gs q.v)))) e S.k t:=fun t aB=>
      ⟨(S.ej S.k q.xs).put o.dst (jn gs q.v),_,kJ,jo bN nE,jq a2,bs,by rw[jr];exact Nat.le_add_right _ _,by rw[fh,a3,aB]⟩
     cases eS:fb e gs with
     |true=>
      have jb:=uz hf eS
      have hQ:=uy ad jS
      have di:=sl (G:=G) (B:=B) (M:=M) av (cK M e S.k q.xs) (hE bs hQ.g jb) (ij hc.1) fun n hn=>AM (fc (oB gs n) (List.mem_map.2 ⟨n,hn,rfl⟩)) (hO.trans eS)
      have uA:({S with g:=gz gs S.g}:aq).den G N B (cK M e S.k q.xs)=S.den G N B e:=ki (S:={S with g:=gz gs S.g}) bs hQ
      rw[uA]at di;exact jt.v di (g1 eS) (gN _ (by rw[AK (hO.trans eS)]))
     |false=>exact jt.no (g2 eS) (gN _ (by rw[AL (hO.trans eS)]))
    ·exact ah.elim
   ·cases eS:fb e gs with
    |false=>
     obtain⟨eB,dx,dG,lM⟩:=F0 (M:=M) (x:=pJ P N B T inl o {S with g:=gz gs S.g}) (y:=pC S o.dst) (l:=S.g) eS jS ad.g hf
     obtain⟨aN,lz,kV,sN,n1,nZ⟩:=L9 (G:=G) (N:=N) (B:=B) (dst:=o.dst) ad dG lM;exact jt.no (g2 eS) ⟨aN,e,by rw[dx,lz];rfl,kV,sN,bM.refl _ _,n1,nZ.symm⟩
    |true=>
     have jb:=uz hf eS
     have hQ:=uy ad jS
     obtain⟨f1,f2⟩:=FZ (M:=M) (x:=pJ P N B T inl o {S with g:=gz gs S.g}) (y:=pC S o.dst) (l:=S.g) eS
     refine jt.mono ((MW b5 (S:={S with g:=gz gs S.g}) hQ jb (f2 ah) (g1 eS)).2 hw) fun t ⟨aN,aC,aa,af⟩=>⟨aN,aC,?_,af⟩
     rw[f1];exact aa
  ·exact ah.elim
theorem MZ{ops:Array Oper}{o:Oper}{S:aq}{e:Env}{k:aq→ay}(X:aJ→aJ→Prop)(c:aq→Prop)
 (an: ∀(S:aq) (r:dq) (e:Env),c S→pI P N S o=some r→S.cf e→(∀(j:Nat) (x:bG),r.xs[j]? =some x→Env.at e (S.k+j)=x.den M e)→(∀n∈r.ns,n.ok M e)→dD ops (S.den G N B e) o=some true→X (S.den G N B e) ((S.den G N B e).put o.dst (r.v.den G e)))
 (aj: ∀s,dD ops s o=some false→X s (s.put o.dst (.tuple [])))(hr:guardOf N ops S o= .yes→c S)(zk: ∀gs,guardOf N ops S o= .on gs→c {S with g:=gz gs S.g})(ad:S.cd)(hf:S.cf e)(ah:(qX P N ops o S k).safe M e):
 ∃aN aC,aN.cd∧aN.cf aC∧bM S.k e aC∧S.k≤aN.k∧(k aN).safe M aC∧run M (qX P N ops o S k) e=run M (k aN) aC∧X (S.den G N B e) (aN.den G N B aC):=by
 have ag:=FY (G:=G) (N:=N) (B:=B) (ops:=ops) (o:=o) hf
 unfold qX at ah⊢
 cases iq:guardOf N ops S o with
 |bad=>rw[iq]at ah;exact ah.elim
 |no=>
  rw[iq]at ag ah
  have:=aj _ ag
  exact⟨S.put o.dst (.tp []),e,jo ad rfl,jq hf,bM.refl _ _,by rw[jr];exact Nat.le_refl _,ah,rfl,by rw[fh];exact this⟩
 |yes=>
  rw[iq]at ag ah;simp only at ah⊢
  split at ah
  ·rename_i q av
   split at ah
   ·rename_i hc
    simp only[Bool.and_eq_true]at hc;obtain⟨fc,ey⟩:=ll ah;obtain⟨bN,a2,a3⟩:=pD (M:=M) (G:=G) (N:=N) (B:=B) ad hf hc.1
    have bs:bM S.k e (cK M e S.k q.xs):=iN (Nat.le_refl _)
    have hd:=ki (G:=G) (N:=N) (B:=B) bs ad
    have di:=an _ _ _ (hr iq) av (hE bs ad.g hf) (ij hc.1) fc (by rw[hd];exact ag)
    rw[hd]at di;exact⟨(S.ej S.k q.xs).put o.dst q.v,_,jo bN hc.2,jq a2,bs,by rw[jr];exact Nat.le_add_right _ _,ey,kJ,by rw[fh,a3];exact di⟩
   ·exact ah.elim
  ·exact ah.elim
 |on gs=>
  rw[iq]at ag ah;simp only at ah⊢;obtain⟨g1,g2⟩:=ag
  split at ah
  ·rename_i jS
   split at ah
   ·rename_i q av
    split at ah
    ·rename_i hc
     simp only[Bool.and_eq_true]at hc;obtain⟨fc,ey⟩:=ll ah;obtain⟨bN,a2,a3⟩:=pD (M:=M) (G:=G) (N:=N) (B:=B) ad hf hc.1
     have bs:bM S.k e (cK M e S.k q.xs):=iN (Nat.le_refl _)
     have hO:fb (cK M e S.k q.xs) gs=fb e gs:=AJ bs jS
     have AF:S.k≤S.k+q.xs.length:=Nat.le_add_right _ _
     have nE:(jn gs q.v).lt (S.k+q.xs.length)=true:=AH (AI AF jS) hc.2
     refine⟨(S.ej S.k q.xs).put o.dst (jn gs q.v),_,jo bN nE,jq a2,bs,by rw[jr];exact Nat.le_add_right _ _,ey,kJ,?_⟩
     rw[fh,a3]
     cases eS:fb e gs with
     |true=>
      have jb:=uz hf eS
      have hQ:=uy ad jS
      have uA:({S with g:=gz gs S.g}:aq).den G N B (cK M e S.k q.xs)=S.den G N B e:=ki (S:={S with g:=gz gs S.g}) bs hQ
      have di:=an _ _ _ (zk gs iq) av (hE bs hQ.g jb) (ij hc.1) (fun n hn=>AM (fc (oB gs n) (List.mem_map.2 ⟨n,hn,rfl⟩)) (hO.trans eS)) (by rw[uA];exact g1 eS)
      rw[uA]at di;rw[AK (hO.trans eS)];exact di
     |false=>
      rw[AL (hO.trans eS)];exact aj _ (g2 eS)
    ·exact ah.elim
   ·exact ah.elim
  ·exact ah.elim
theorem VV{ops:Array Oper}{o:Oper}{S:aq}{e:Env}{k:aq→ay}(ad:S.cd)(hf:S.cf e)(ah:(qX P N ops o S k).safe M e):
 ∃aN aC,aN.cd∧aN.cf aC∧bM S.k e aC∧S.k≤aN.k∧(k aN).safe M aC∧run M (qX P N ops o S k) e=run M (k aN) aC∧iG P G ops o (S.den G N B e) (aN.den G N B aC):=
 MZ (iG P G ops o) (fun _=>True) (fun _ _ _ _ av hf hx hn ag=>VR av hf hx hn ag) (fun _ h=>(gw.skip h).l) (fun _=>trivial) (fun _ _=>trivial) ad hf ah
theorem gw.pK{ops:Array Oper}{o:Oper}{s:aJ}{v:az}(h:ld P G o s v)(ag:dD ops s o=some true):gw P G ops o s (s.put o.dst v):=by
 intro E a w ⟨β,ro,ae⟩
 have hw:=mj (ops:=ops) ⟨β,ro,ae⟩ ag
 obtain⟨c,aa,af⟩:=h E a w β ro ae
 exact⟨c,.inl ⟨hw,aa⟩,β,ro,ae.put _ _ _ af⟩
theorem VW{ops:Array Oper}{o:Oper}{S:aq}{r:dq}{e:Env}(ak:pop P N S o=true)(h:pI P N S o=some r)(hf:S.cf e)(hx: ∀(j:Nat) (x:bG),r.xs[j]? =some x→Env.at e (S.k+j)=x.den M e)(hn: ∀n∈r.ns,n.ok M e)(ag:dD ops (S.den G N B e) o=some true):
 gw P G ops o (S.den G N B e) ((S.den G N B e).put o.dst (r.v.den G e)):=by
 unfold pI at h
 unfold pop at ak
 split at h
 ·rename_i x ao
  cases h
  have:jd P G o (S.den G N B e)=some ((S.aX N x).den G e):=by unfold jd;rw[ao,←bw hf]
  exact gw.val this ag
 ·rename_i x ao
  cases h
  have:jd P G o (S.den G N B e)=some ((S.aX N x).den G e):=by unfold jd;rw[ao,←bw hf]
  exact gw.val this ag
 ·rename_i x ao
  split at h
  ·rename_i aH
   cases h
   have:jd P G o (S.den G N B e)=some ((S.aX N x).den G e):=by
    unfold jd;rw[ao];simp only[bw hf,sg aH]
   exact gw.val this ag
  ·cases h
 ·rename_i t x f ao
  split at h
  ·rename_i k aj aH
   split at h
   ·rename_i p ah
    cases h
    have:jd P G o (S.den G N B e)=some (p.den G e):=by
     unfold jd;rw[ao];simp only[aj,bw hf,sg aH,wX ah]
    exact gw.val this ag
   ·cases h
  ·cases h
 ·rename_i t x ao
  rw[ao]at ak;cases ak
 ·rename_i t x i ao
  split at h
  ·rename_i id hid
   exact gw.pK (MR ao hid h hf hx hn) ag
  ·rename_i id off hid
   exact gw.pK (MT ao hid h hf hn) ag
  ·exact gw.pK (MQ ao h hf hx hn) ag
 ·rename_i t x lo hi ao
  split at h
  ·rename_i dW ah
   cases h;exact gw.pK (MU ao ah hf hx hn) ag
  ·rename_i ah
   rw[ao]at ak;simp only[ah,Option.isSome_none]at ak;cases ak
 ·rename_i aa af ar aQ bx ct dw
  split at ak
  ·rename_i x ao;exact absurd ao (aa x)
  ·rename_i x ao;exact absurd ao (af x)
  ·rename_i x ao;exact absurd ao (ar x)
  ·rename_i t x f ao;exact absurd ao (aQ t x f)
  ·rename_i t x i ao;exact absurd ao (ct t x i)
  ·rename_i t x lo hi ao;exact absurd ao (dw t x lo hi)
  ·cases ak
theorem VX{ops:Array Oper}{o:Oper}{S:aq}{e:Env}{k:aq→ay}(ak:uN P N ops S o=true)(ad:S.cd)(hf:S.cf e)(ah:(qX P N ops o S k).safe M e):
 ∃aN aC,aN.cd∧aN.cf aC∧bM S.k e aC∧S.k≤aN.k∧(k aN).safe M aC∧run M (qX P N ops o S k) e=run M (k aN) aC∧gw P G ops o (S.den G N B e) (aN.den G N B aC):=
 MZ (gw P G ops o) (fun S=>pop P N S o=true) (fun _ _ _ hc av hf hx hn ag=>VW hc av hf hx hn ag) (fun _ h=>gw.skip h)
  (fun ag=>by unfold uN at ak;rw[ag]at ak;exact ak) (fun gs ag=>by unfold uN at ak;rw[ag]at ak;exact ak) ad hf ah
theorem VY{x y:bJ}(h:GI x y=true):x=y:=by
 unfold GI at h
 split at h
 ·simp only[Bool.and_eq_true,decide_eq_true_eq]at h;rw[Nat.eq_of_beq_eq_true h.1,h.2.1,fC h.2.2]
 ·simp only[Bool.and_eq_true,decide_eq_true_eq]at h
  obtain⟨⟨aa,af⟩,ar,aQ⟩:=h
  cases Nat.eq_of_beq_eq_true aa;cases af;rw[fC ar,fC aQ]
 ·simp only[Bool.and_eq_true]at h;rw[Nat.eq_of_beq_eq_true h.1,fC h.2]
 ·simp only[Bool.and_eq_true,decide_eq_true_eq]at h;rw[fC h.1,h.2]
 ·cases h
theorem M0: ∀{l m:List bJ},Bb l m=true→l=m
 |[],[],_=>rfl
 |[],_::_,h=>by cases h
 |_::_,[],h=>by cases h
 |x::l,y::m,h=>by
  simp only[Bb,Bool.and_eq_true]at h;rw[VY h.1,M0 h.2]
theorem VZ{x y:bq}(h:GJ x y=true):x=y:=by
 unfold GJ at h
 split at h
 ·simp only[Bool.and_eq_true]at h;rw[Nat.eq_of_beq_eq_true h.1,uj h.2]
 ·simp only[Bool.and_eq_true,decide_eq_true_eq]at h;rw[Nat.eq_of_beq_eq_true h.1,h.2.1,fC h.2.2]
 ·simp only[Bool.and_eq_true]at h;rw[fC h.1,fC h.2]
 ·cases h
theorem M1: ∀{l m:List (Nat × bq)},Bc l m=true→l=m
 |[],[],_=>rfl
 |[],_::_,h=>by cases h
 |_::_,[],h=>by cases h
 |(i,x)::l,(j,y)::m,h=>by
  simp only[Bc,Bool.and_eq_true]at h;rw[Nat.eq_of_beq_eq_true h.1,VZ h.2.1,M1 h.2.2]
theorem GN: ∀{l m:aZ ab},xK l m=true→l=m
 | .emp,.emp,_=>rfl
 | .emp,.n _ _ _,h=>by cases h
 | .n _ _ _,.emp,h=>by cases h
 | .n v l r,.n w m s,h=>by
  simp only[xK,Bool.and_eq_true]at h;rw[GN h.2.1,GN h.2.2]
  have aa:=h.1
  cases v<;>cases w<;>first|rfl|(cases aa;done)|(rw[fC aa])
theorem V0{S U:aq}(h:GK S U=true):S=U:=by
 obtain⟨bN,a2,a3,a4,a5⟩:=S
 obtain⟨ez,gB,fE,l9,px⟩:=U
 simp only[GK,Bool.and_eq_true]at h
 obtain⟨⟨aa,af⟩,⟨ar,aQ⟩,bx⟩:=h
 rw[GN aa,M1 af,Nat.eq_of_beq_eq_true ar,Nat.eq_of_beq_eq_true aQ,M0 bx]
theorem M3{S:aq}: ∀{l:List ay},Bd S l=true→∀t∈l,t= .cc .bY S
 |[],_,_,aB=>by cases aB
 |u::r,h,t,aB=>by
  unfold Bd at h
  split at h
  ·rename_i heq;cases heq
  ·rename_i U dW heq
   cases heq;simp only[Bool.and_eq_true]at h
   rcases List.mem_cons.1 aB with rfl|aB
   ·rw[V0 h.1]
   ·exact M3 h.2 t aB
  ·cases h
theorem V1{l:List ay}{e:Env}(h:(xL l).safe M e): ∃S,xL l= .cc .bY S∧∀t∈l,t= .cc .bY S:=by
 unfold xL at h⊢
 split at h
 ·rename_i S r
  split at h
  ·rename_i ah
   refine⟨S,by simp only[ah],fun t aB=>?_⟩
   rcases List.mem_cons.1 aB with rfl|aB
   ·rfl
   ·exact M3 ah t aB
  ·exact h.elim
 ·exact h.elim
theorem xM(b5:gC P G M inl){L:List Oper}{wr:List Bool}(ke:Region.noSelect L.toArray=true){Q:Exit→aJ→Prop}: ∀(n:Nat) (m:List Bool) {S:aq} {e:Env},S.cd→S.cf e→(oJ P N B T inl L.toArray wr n m S).safe M e→(∀st,im G N B M (oJ P N B T inl L.toArray wr n m S) e S.k .normal st→Q .normal st)→e4 P G L Q wr n m (S.den G N B e)
 |0,m,S,e,ad,hf,ah,dP=>by
  unfold oJ at ah dP
  split at ah
  ·rename_i ae
   rw[ae]at dP;exact e4.done (dP _ ⟨.bY,S,e,rfl,trivial,cw.refl _,ad,hf,bM.refl _ _,Nat.le_refl _⟩) ae
  ·exact ah.elim
 |n+1,m,S,e,ad,hf,ah,dP=>by
  unfold oJ at ah dP
  cases ae:Region.ready .any L.toArray m.toArray with
  |nil=>
   rw[ae]at dP;exact e4.done (dP _ ⟨.bY,S,e,rfl,trivial,cw.refl _,ad,hf,bM.refl _ _,Nat.le_refl _⟩) ae
  |cons i rd=>
   rw[ae]at ah dP;simp only at ah dP
   split at ah
   ·rename_i j iF
    rw[iF]at dP;simp only at dP
    split at ah
    ·rename_i o ao hc
     rw[ao,hc]at dP;simp only[Bool.and_eq_true,Bool.not_eq_true']at hc;simp only at dP
     split at ah
     ·rename_i uP
      rw[uP]at dP;simp only at dP
      cases M4:uN P N L.toArray S o with
      |true=>
       obtain⟨aN,aC,s1,s2,lV,nJ,nK,nL,nM⟩:=VX (G:=G) (B:=B) M4 ad hf ah;exact e4.VJ j (by simpa using ao) nM (xM b5 ke n (m.set j true) s1 s2 nK fun st ak=>dP st (ak.sub nL lV nJ)) ke hc.2.1 (by rw[ae];exact hc.1) hc.2.2
      |false=>
       rw[M4,Bool.false_or]at uP;obtain⟨aN,aC,s1,s2,lV,nJ,nK,nL,nM⟩:=VV (G:=G) (B:=B) ad hf ah;exact e4.VI j (by simpa using ao) nM (xM b5 ke n (m.set j true) s1 s2 nK fun st ak=>dP st (ak.sub nL lV nJ)) ke hc.2.1 (by rw[ae];exact hc.1) uP
     ·exact ah.elim
    ·exact ah.elim
   ·rename_i iF
    rw[iF]at dP;simp only at dP
    split at ah
    ·rename_i o ao
     rw[ao]at dP;simp only at dP
     split at ah
     ·rename_i oK
      rw[oK]at dP
      have oK:=of_decide_eq_true oK
      simp only at dP;obtain⟨t1,_,t3⟩:=FM (G:=G) (B:=B) ad hf ah
      have next: ∀t,qY G N B M (oI P N B T inl L.toArray o S) e S.k t→e4 P G L Q wr n (m.set i true) t:=fun t ⟨aN,aC,aa,af,ar,aQ,bx,ct⟩=>by
       subst ct;obtain⟨dt,a6,dx,dG,lM,sw,GO,GQ,GR⟩:=t3 aN aC aa af ar aQ bx
       have:=xM b5 ke n (m.set i true) dG lM GQ fun st ak=>dP st (ak.sub GR sw GO)
       exact fun E a w ae=>this E a w (dx E G a w ae)
      obtain⟨cI,n3⟩:=MX (G:=G) (B:=B) (T:=T) b5 ad hf t1
      cases hw:lY o with
      |true=>exact e4.VK (by simpa using ao) ae (oK.trans hw) (cI hw) next
      |false=>exact e4.one (by simpa using ao) ae (oK.trans hw) (n3 hw) next
     ·exact ah.elim
    ·rename_i _ rd _ _ gM
     have M5: ∀st,im G N B M (xL ((i::rd).map fun j=>match L.toArray[j]? with
      |some o=>match decide (wr.getD j false=lY o)with
       |true=>oz N S o.dst (Ba N L.toArray S o) (oI P N B T inl L.toArray o S) (oJ P N B T inl L.toArray wr n (m.set j true))
       |false=>.bad 78
      |none=>.bad 77)) e S.k .normal st→Q .normal st:=fun st ak=>dP st (by
      split
      ·rename_i b6 k0;exact(gM b6 rfl k0).elim
      ·exact ak)
     clear dP;obtain⟨U,tR,dz⟩:=V1 ah;rw[tR]at M5 ah;refine e4.any (by rw[ae];simp) fun j ai=>?_
     rw[ae]at ai
     have uQ:=dz _ (List.mem_map.2 ⟨j,ai,rfl⟩)
     split at uQ
     ·rename_i o ao
      split at uQ
      ·rename_i oK
       have oK:=of_decide_eq_true oK
       have eP:(oz N S o.dst (Ba N L.toArray S o) (oI P N B T inl L.toArray o S) (oJ P N B T inl L.toArray wr n (m.set j true))).safe M e:=by rw[uQ];trivial
       obtain⟨t1,_,t3⟩:=FM (G:=G) (B:=B) ad hf eP;refine⟨o,by simpa using ao,qY G N B M (oI P N B T inl L.toArray o S) e S.k,fun t ⟨aN,aC,aa,af,ar,aQ,bx,ct⟩=>?_,fun E a w c1=>?_⟩
       ·subst ct
        obtain⟨dt,a6,dx,dG,lM,sw,GO,GQ,GR⟩:=t3 aN aC aa af ar aQ bx
        have:=xM b5 ke n (m.set j true) dG lM GQ fun st ak=>M5 st (by rw[←uQ];exact ak.sub GR sw GO)
        exact fun E a w ae=>this E a w (dx E G a w ae)
       ·obtain⟨cI,n3⟩:=MX (G:=G) (B:=B) (T:=T) b5 ad hf t1
        cases hw:lY o with
        |true=>
         obtain⟨y1,pt⟩:=cI hw E a w c1;exact .inl ⟨y1,fun K Q hK=>pt K Q fun t aB aW w' dC=>hK t aB aW w' dC (.inl (oK.trans hw))⟩
        |false=>
         rcases n3 hw E a w c1 with⟨y1,pt⟩|⟨y1,pt⟩
         ·exact .inl ⟨y1,fun K Q hK=>pt K Q fun t aB aW w' dC aj=>hK t aB aW w' dC (.inr aj)⟩
         ·exact .inr ⟨oK.trans hw,y1,pt⟩
      ·cases uQ
     ·cases uQ
theorem V2(b5:gC P G M inl):F7 P G N B M (GL P N B T inl):=by
 intro id ops S e ad hf ah
 have ug:ops=ops.toList.toArray:=by simp
 rw[ug]at ah⊢
 generalize ops.toList=L at ah⊢
 unfold GL at ah⊢
 split at ah
 ·rename_i hc
  simp only[Bool.and_eq_true]at hc;refine bL.VM _ (xM b5 hc.2 _ _ ad hf ah fun st ak=>ak) hc.1 (by simp)
 ·exact ah.elim
def n4.all(P:Program)(T:List (Nat × bC)):n4:=⟨fun N B _=>Gy N B,fun N B inl=>GL P N B T inl⟩
theorem QX:Gb P G M (n4.all P T):=fun _ b5 _ _=>⟨VE,V2 b5⟩
end
end Go.aG
namespace Go.aG
open Go
section
variable {P:Program} {G:aY} {f:FuncId} {args:List az} {σ:bp} {n:Nat} {R:az→bp→Prop}
theorem dn.arg{pg:List az}(h:dn P G f args σ n R)(aI:fI pg args):dn P G f pg σ n R:=by
 intro w β ro ek aa af ar aQ bx
 refine h w β ro ek (by rw[aa,aI.at.1]) (fun i x hx=>?_) ar aQ bx
 obtain⟨y,ax,ah⟩:=aI.at.2 i x hx
 exact ah _ _ _ _ _ _ (af i y ax)
theorem dn.res{qa:az→bp→Prop}(h:dn P G f args σ n R)(aH: ∀r bE,R r bE→qa r bE):dn P G f args σ n qa:=by
 intro w β ro ek aa af ar aQ bx
 refine Calls.mono (h w β ro ek aa af ar aQ bx) fun e w' ⟨v,cB,eU,dB,ro',cy,he,ct,mX⟩=>?_
 exact⟨v,cB,eU,dB,ro',cy,he,aH _ _ ct,mX⟩
theorem iT(β:Nat→Value)(b:Nat): ¬Own ([]:bp) β b:=fun⟨_,_,ag,_⟩=>by simp[aA]at ag
theorem dn.frame(h:dn P G f args [] 0 R)(ak:ep args=true)(fk: ∀r bE,R r bE→e1 r=true):dn P G f args σ n fun r bE=>bE=σ∧∃e2,R r e2:=by
 intro w β ro ek aa af ar aQ bx
 refine Calls.mono (h w β ro ek aa (fun i x hx=>mf (af i x hx) (lG ak hx)) ⟨by simp[aA],by simp[aA],fun b _=>iT β b,ar.lt⟩ aQ (by simp[aA])) fun e w' ⟨v,r,e2,dB,ro',cy,he,ae,c1,gO,cb⟩=>?_
 have kA: ∀b,b<w.heap.size→w'.heap[b]? =w.heap[b]? :=fun b ad=>cb.frame b ad (iT β b)
 have lu:cP ⟨w,ro,σ,β,n⟩ G ⟨[],σ,n,n⟩ ⟨#[],[]⟩ w β ro:=⟨rfl,rfl,by simp,ar,aQ,⟨rfl,rfl,rfl,Nat.le_refl _,fun _ _ _=>rfl,fun _ h=>.inl h,fun _ h=>h,fun _ h=>.inl h,fun id _ o ag=>⟨by simp[ag],rfl⟩,bx,Nat.le_refl _⟩,Nat.le_refl _⟩
 have cJ:=lu.grow (w':=w') (ro':=ro') cb.os cb.tape cb.output cb.size kA cb.iV (fun b ad=>by
  rcases cb.h3 b ad with q|q|q
  ·exact .inl q
  ·exact absurd q (iT β b)
  ·exact .inr ⟨q,gO.lt b ad⟩)
 exact⟨v,r,σ,β,ro',n,he,⟨rfl,e2,ae⟩,mf c1 (fk r e2 ae),cJ.heap,cJ.trans⟩
theorem dn.V3{pg:List az}(h:dn P G f args [] 0 R)(aI:fI (gW σ pg) args)(ak:ep (gW σ pg)=true)(fk: ∀r bE,R r bE→jc r=true):dn P G f pg σ n fun r bE=>bE=σ∧∃e2,R r e2:=by
 have h:=h.arg aI
 intro w β ro ek aa af ar aQ bx
 have me: ∀b,Own σ β b→b<w.heap.size:=fun b ⟨k,p,aj,ak,a1⟩=>(ar.cL k p aj).gI ak a1
 refine Calls.mono (h w β (r1 ro σ β) ek (by rw[rZ];exact aa) (fun i x hx=>?_) ⟨by simp[aA],by simp[aA],fun b _=>iT β b,fun b ad=>ad.elim (ar.lt b) (me b)⟩
  (aQ.keep (fun _ _=>rfl) fun _ h=>.inl h) (by simp[aA])) fun e w' ⟨v,r,e2,dB,ro',cy,he,ae,c1,gO,cb⟩=>?_
 ·obtain⟨z,bl,rfl⟩:=r0 _ hx
  exact mf (D7 ar (af i z bl)) (lG ak hx)
 have kA: ∀b,b<w.heap.size→w'.heap[b]? =w.heap[b]? :=fun b ad=>cb.frame b ad (iT β b)
 have lu:cP ⟨w,ro,σ,β,n⟩ G ⟨[],σ,n,n⟩ ⟨#[],[]⟩ w β ro:=⟨rfl,rfl,by simp,ar,aQ,⟨rfl,rfl,rfl,Nat.le_refl _,fun _ _ _=>rfl,fun _ h=>.inl h,fun _ h=>h,fun _ h=>.inl h,fun id _ o ag=>⟨by simp[ag],rfl⟩,bx,Nat.le_refl _⟩,Nat.le_refl _⟩
 have cJ:=lu.grow (w':=w') (ro':=ro) cb.os cb.tape cb.output cb.size kA (fun _ h=>h) (fun _ h=>.inl h)
 exact⟨v,r,σ,β,ro,n,he,⟨rfl,e2,ae⟩,zt c1 (fk r e2 ae),cJ.heap,cJ.trans⟩
end
def aS.e5(d:aS):az:=
 match d with
 |⟨.st c,x⟩=>.agg ((cF c x).map .au)
 |⟨r,x⟩=>.au (fz r x)
def lZ(rs:List aU)(x:(eQ rs).den):List az:=(dm rs x).map aS.e5
def kn(rs:List aU)(x:(eQ rs).den):az:=
 match lZ rs x with
 |[v]=>v
 |l=>.tuple l
structure hs where
 f:Nat
 j:Nat
 ps:List aU
 rs:List aU
 eo:Bool
def df(P:Program)(G:aY)(f:Nat)(m:bc):Prop:=
 ∀x:(eQ m.ps).den,mD m.pre x→dn P G f (lZ m.ps x) [] 0 fun v _=>v=kn m.rs (m.m x)
def M6(P:Program)(G:aY)(M:List bc)(c:hs):Prop:=
 (en bc.d M c.j).ps=c.ps∧(en bc.d M c.j).rs=c.rs∧df P G c.f (en bc.d M c.j)∧(c.eo=true→(en bc.d M c.j).pre=none)
def p9(P:Program)(G:aY)(M:List bc)(C:List hs):Prop:=∀c∈C,M6 P G M c
def xN(f:Nat):List hs→Option hs
 |[]=>none
 |c::r=>match Nat.beq c.f f with
  |true=>some c
  |false=>xN f r
def xO(r:aU)(i:Nat):ab:=
 match r with
 | .st c=>.cm (ib c i 0 (e3 c))
 |r=>.bb r i
def hj:Nat→List aU→List ab
 |_,[]=>[]
 |i,r::rs=>xO r i::hj (i+1) rs
def mA(rs:List aU)(p:Nat):Nat→List aU→List bG
 |_,[]=>[]
 |i,_::r=>.sa rs p i::mA rs p (i+1) r
def aU.hC:aU→Bool
 | .st _=>true
 |r=>r.one
def aU.qZ:aU→Bool
 | .int _=>true
 | .bool=>true
 | .str=>true
 | .st c=>(e3 c).all aU.cmp
 |_=>false
def GU(S:aq)(r:aU)(a:ab):Option ab:=
 match r,a with
 | .st c,.cm l=>match gX (e3 c) l with
  |true=>some a
  |false=>none
 | .li c,.aL id=>match c2 S.h id with
  |some (.rw _ d x)=>match decide (c=d)&&x.fl (.li c)with
   |true=>some x
   |false=>none
  |_=>none
 |r,a=>match r.one&&a.fl r with
  |true=>some a
  |false=>none
def pL(S:aq):List aU→List ab→Option (List ab)
 |[],[]=>some []
 |r::rs,a::as=>match GU S r a,pL S rs as with
  |some x,some l=>some (x::l)
  |_,_=>none
 |_,_=>none
def q0:List ab→Bool
 |[]=>true
 | .aL _::_=>false
 |_::r=>q0 r
def hH(c:hs)(as:List ab)(k:Nat):List bG:=
 match c.rs with
 |[_]=>[.ca c.j as]
 |rs=>.ca c.j as::mA rs k 0 rs
def uR(c:hs)(k:Nat):ab:=
 match c.rs with
 |[r]=>xO r k
 |rs=>.tp (hj (k+1) rs)
def Be(S:aq)(xs:List bG)(v:ab):aq:={S with l:=aZ.put .emp 0 v,k:=S.k+xs.length}
def Bf(c:hs)(xs:List ab):List fA:=
 match c.eo with
 |true=>[]
 |false=>[.ca c.j xs]
def GV(C:List hs)(inl:Nat→List ab→aq→ay)(f:Nat)(as:List ab)(S:aq):ay:=
 match xN f C with
 |none=>inl f as S
 |some c=>match pL S c.ps as with
  |none=>inl f as S
  |some xs=>match c.rs.all aU.hC&&(q0 as||c.rs.all aU.qZ)&&(ab.cj S.k xs&&ab.pB S.n (uR c S.k))with
   |true=>emit S.k (hH c xs S.k) (Bf c xs) (.cc .bY (Be S (hH c xs S.k) (uR c S.k)))
   |false=>.bad 51
theorem uS: ∀{rs:List aU} {ds:List aS},ds.map aS.r=rs→dm rs (bQ rs ds)=ds
 |[],[],_=>rfl
 |[],_::_,h=>by cases h
 |[r],ds,h=>by
  obtain⟨d,nr,rfl,aa,af⟩:=kE h
  cases la af
  subst aa;show[⟨d.r,d.as d.r⟩]=[d];rw[wA]
 |r::s::l,ds,h=>by
  obtain⟨d,nr,rfl,aa,af⟩:=kE h;subst aa;show(⟨d.r,d.as d.r⟩:aS)::dm (s::l) (bQ (s::l) nr)=d::nr;rw[wA,uS af]
theorem q1: ∀{rs:List aU} {x:(eQ rs).den},(dm rs x).map aS.r=rs
 |[],_=>rfl
 |[_],_=>rfl
 |r::s::l,x=>by
  show r::(dm (s::l) x.2).map aS.r=_;rw[q1]
section
variable {G:aY} {e:Env} {S:aq}
theorem M7{r:aU}{x:r.den}(h: ∀c,r≠ .st c):(⟨r,x⟩:aS).e5= .au (fz r x):=by
 cases r with
 |st c=>exact absurd rfl (h c)
 |_=>rfl
theorem M8{r:aU}(h:r.one=true): ∀c,r≠ .st c:=fun c hc=>by subst hc;cases h
theorem M9{r:aU}{a:ab}(h:a.fl r=true): ∃y,a.den G e= .au y:=by
 unfold ab.fl at h
 split at h<;>first|exact⟨_,rfl⟩|cases h
theorem Na: ∀{rs:List aU} {l:List ab},gX rs l=true→∃ys:List ba,ab.bF G e l=ys.map .au
 |[],[],_=>⟨[],rfl⟩
 |[],_::_,h=>by cases h
 |_::_,[],h=>by cases h
 |r::rs,x::xs,h=>by
  simp only[gX,Bool.and_eq_true]at h;obtain⟨y,ax⟩:=M9 (G:=G) (e:=e) h.1;obtain⟨ys,k2⟩:=Na (rs:=rs) h.2;exact⟨y::ys,by simp only[ab.bF,ax,k2,List.map_cons]⟩
theorem Nb{σ:bp}: ∀{ys:List ba},gW σ (ys.map .au)=ys.map .au
 |[]=>rfl
 |y::ys=>by simp only[List.map_cons,gW,jM,Nb]
theorem V4{r:aU}{a x:ab}(h:GU S r a=some x):
 Sub (jM (cv G e S.h) (a.den G e)) (aS.e5 ⟨r,x.get e r⟩)∧e1 (jM (cv G e S.h) (a.den G e))=true∧((∀id,a≠ .aL id)→jM (cv G e S.h) (a.den G e)=a.den G e):=by
 unfold GU at h
 split at h
 ·rename_i c l
  split at h
  ·rename_i an
   cases h;obtain⟨ys,ax⟩:=Na (G:=G) (e:=e) an
   have ah:=wG (G:=G) (e:=e) an
   have hd:jM (cv G e S.h) ((ab.cm l).den G e)=(ab.cm l).den G e:=by simp only[ab.den,jM,ax,Nb]
   rw[hd];refine⟨?_,by simp only[ab.den,ax,e1,zd],fun _=>rfl⟩
   simp only[ab.den];exact ah.agg
  ·cases h
 ·rename_i c id
  split at h
  ·rename_i t d y ag
   split at h
   ·rename_i hc
    cases h;simp only[Bool.and_eq_true,decide_eq_true_eq]at hc;obtain⟨rfl,hx⟩:=hc
    have aV:aA (cv G e S.h) id=some (.row false t (cO c) (List.map (cF c) (x.aD e (.li c)))):=by rw[et,ag];rfl
    have hd:jM (cv G e S.h) ((ab.aL id).den G e)= .au (.aL (cO c) (List.map (cF c) (x.aD e (.li c)))):=by simp only[ab.den,jM,aV]
    rw[hd];exact⟨lb.e5 fun _ _ _ h=>.li _ _ _ h,rfl,fun h=>absurd rfl (h id)⟩
   ·cases h
  ·cases h
 ·split at h
  ·rename_i hc
   cases h;simp only[Bool.and_eq_true]at hc;obtain⟨y,ax⟩:=M9 (G:=G) (e:=e) hc.2
   have hd:jM (cv G e S.h) (a.den G e)=a.den G e:=by rw[ax];rfl
   rw[hd];refine⟨?_,by rw[ax];rfl,fun _=>rfl⟩
   rw[M7 (M8 hc.1),zY hc.1];exact r8 hc.2
  ·cases h
theorem uT: ∀{rs:List aU} {as xs:List ab},pL S rs as=some xs→
 fI (gW (cv G e S.h) (ab.bF G e as)) ((fS e rs xs).map aS.e5)∧ep (gW (cv G e S.h) (ab.bF G e as))=true∧(q0 as=true→gW (cv G e S.h) (ab.bF G e as)=ab.bF G e as)∧(fS e rs xs).map aS.r=rs
 |[],[],_,h=>by cases h;exact⟨.nil,rfl,fun _=>rfl,rfl⟩
 |[],_::_,_,h=>by cases h
 |_::_,[],_,h=>by cases h
 |r::rs,a::as,xs,h=>by
  simp only[pL]at h
  split at h
  ·rename_i x l aa af
   cases h;obtain⟨bN,a2,a3⟩:=V4 (G:=G) (e:=e) aa;obtain⟨ez,gB,fE,l9⟩:=uT af;refine⟨.cons bN ez,by simp only[ab.bF,gW,ep,a2,gB,Bool.and_self],fun hn=>?_,by simp only[fS,List.map_cons,l9]⟩
   have:(∀id,a≠ .aL id)∧q0 as=true:=by
    cases a<;>first|(cases hn;done)|exact⟨fun id hid=>(by cases hid),hn⟩
   simp only[ab.bF,gW,a3 this.1,fE this.2]
  ·cases h
end
section
variable {G:aY} {e:Env}
theorem V5(d:aS):e1 d.e5=true:=by
 unfold aS.e5
 split
 ·simp only[e1,zd]
 ·rfl
theorem Bg: ∀l:List aS,ep (l.map aS.e5)=true
 |[]=>rfl
 |d::l=>by simp only[List.map_cons,ep,V5,Bg l,Bool.and_self]
theorem GX{rs:List aU}{x:(eQ rs).den}:e1 (kn rs x)=true:=by
 have h:=Bg (dm rs x)
 unfold kn lZ
 split
 ·rename_i v av
  rw[av]at h;simpa[ep]using h
 ·exact h
theorem Nc: ∀{ds:List aS},(∀d∈ds,d.r.qZ=true∧∀c,d.r≠ .st c)→lL (ds.map fun d=>.au d.au)=true
 |[],_=>rfl
 |d::ds,h=>by
  have aa:=h d (List.mem_cons_self ..)
  have af:=Nc (ds:=ds) fun x hx=>h x (List.mem_cons_of_mem _ hx)
  obtain⟨r,x⟩:=d
  cases r<;>first|(exact absurd rfl (aa.2 _))|(cases aa.1;done)|exact af
theorem Nd{d:aS}(h:d.r.qZ=true):jc d.e5=true:=by
 obtain⟨r,x⟩:=d
 cases r with
 |st c=>
  show jc (.agg ((cF c x).map .au))=true
  have hc:cF c x=(kW c x).map aS.au:=by unfold cF;rfl
  rw[hc,List.map_map];simp only[jc];refine Nc fun d hd=>?_
  have ae:d.r∈e3 c:=by
   have:=Ky c x
   rw[←this];exact List.mem_map_of_mem hd
  have aI:d.r.cmp=true:=List.all_eq_true.1 (show(e3 c).all _=true from h) d.r ae
  cases hd:d.r<;>rw[hd]at aI<;>first|(cases aI;done)|exact⟨rfl,fun c hc=>by cases hc⟩
 |_=>first|rfl|cases h
theorem GY: ∀{l:List aS},(∀d∈l,d.r.qZ=true)→lL (l.map aS.e5)=true
 |[],_=>rfl
 |d::l,h=>by
  simp only[List.map_cons,lL,Nd (h d (List.mem_cons_self ..)),GY (l:=l) fun x hx=>h x (List.mem_cons_of_mem _ hx),Bool.and_self]
theorem V6{rs:List aU}{x:(eQ rs).den}(h:rs.all aU.qZ=true):jc (kn rs x)=true:=by
 have h:=GY (l:=dm rs x) fun d hd=>by
  have ae:d.r∈rs:=by
   have:=q1 (rs:=rs) (x:=x)
   rw[←this];exact List.mem_map_of_mem hd
  exact List.all_eq_true.1 h d.r ae
 unfold kn lZ
 split
 ·rename_i v av
  rw[av]at h;simpa[lL]using h
 ·exact h
end
section
variable {P:Program} {G:aY} {M:List bc} {C:List hs} {inl:Nat→List ab→aq→ay}
theorem Nf{f:Nat}{c:hs}: ∀{C:List hs},xN f C=some c→c∈C∧c.f=f
 |[],h=>by cases h
 |d::r,h=>by
  unfold xN at h
  split at h
  ·rename_i hd;cases h;exact⟨List.mem_cons_self ..,Nat.eq_of_beq_eq_true hd⟩
  ·obtain⟨aa,af⟩:=Nf h;exact⟨List.mem_cons_of_mem _ aa,af⟩
theorem GZ(rs:List aU)(p:Nat): ∀(l:List aU) (i j:Nat),(mA rs p i l)[j]? =if j<l.length then some (.sa rs p (i+j))else none
 |[],i,j=>by simp[mA]
 |_::l,i,0=>by simp[mA]
 |_::l,i,j+1=>by
  simp only[mA,List.getElem?_cons_succ,GZ rs p l (i+1) j,List.length_cons,Nat.add_lt_add_iff_right]
  have:i+1+j=i+(j+1):=by omega
  rw[this]
theorem Ng(rs:List aU)(p:Nat): ∀(l:List aU) (i k:Nat),p<k→gx k (mA rs p i l)=true
 |[],_,_,_=>rfl
 |_::l,i,k,h=>by
  simp only[mA,gx,bG.lt,iS h,Bool.true_and];exact Ng rs p l (i+1) (k+1) (by omega)
theorem Bh{c:hs}{xs:List ab}{k:Nat}(h:ab.cj k xs=true):gx k (hH c xs k)=true:=by
 unfold hH
 split
 ·simp only[gx,bG.lt,h,Bool.and_self]
 ·simp only[gx,bG.lt,h,Bool.true_and]
  exact Ng _ _ _ _ _ (Nat.lt_succ_self k)
theorem G0(rs:List aU)(p:Nat): ∀(l:List aU) (i:Nat),(mA rs p i l).length=l.length
 |[],_=>rfl
 |_::l,i=>by simp[mA,G0 rs p l (i+1)]
theorem G1{e:Env}{r:aU}{i:Nat}{x:r.den}(h:Env.at e i=⟨r,x⟩):(xO r i).den G e=aS.e5 ⟨r,x⟩:=by
 have aI:(Env.at e i).as r=x:=by rw[h,cA]
 cases r with
 |st c=>
  show az.agg (ab.bF G e (ib c i 0 (e3 c)))= .agg ((cF c x).map .au);rw[tH,aI]
 |_=>show az.au (fz _ ((Env.at e i).as _))= .au (fz _ x);rw[aI]
theorem xP{e:Env}: ∀{rs:List aU} {i:Nat} {ds:List aS},ds.map aS.r=rs→(∀j d,ds[j]? =some d→Env.at e (i+j)=d)→ab.bF G e (hj i rs)=ds.map aS.e5
 |[],i,ds,h,_=>by cases la h;rfl
 |r::rs,i,ds,h,hd=>by
  obtain⟨d,nr,rfl,aa,af⟩:=kE h;subst aa
  have aP:=hd 0 d rfl
  simp only[hj,ab.bF,List.map_cons,List.cons.injEq];refine⟨G1 (x:=d.v) aP,xP af fun j V7 ai=>?_⟩
  have:=hd (j+1) V7 (by simpa using ai)
  rw[←this];congr 1;omega
theorem Bi{c:bC}{i k:Nat}(h:i<k): ∀{rs:List aU} {j:Nat},ab.cj k (ib c i j rs)=true
 |[],_=>rfl
 |r::rs,j=>by simp only[ib,ab.cj,ab.lt,iS h,Bi h (rs:=rs),Bool.and_self]
theorem G2{r:aU}{i k:Nat}(h:i<k):(xO r i).lt k=true:=by
 cases r with
 |st c=>exact Bi h
 |_=>exact iS h
theorem xQ: ∀{rs:List aU} {i k:Nat},i+rs.length≤k→ab.cj k (hj i rs)=true
 |[],_,_,_=>rfl
 |r::rs,i,k,h=>by
  simp only[List.length_cons]at h;simp only[hj,ab.cj,G2 (r:=r) (show i<k by omega),xQ (rs:=rs) (show i+1+rs.length≤k by omega),Bool.and_self]
theorem G3{α:Type}{d:α}: ∀{l:List α} {i:Nat} {x:α},l[i]? =some x→en d l i=x
 |[],_,_,h=>by cases h
 |y::l,0,x,h=>by simpa[en]using h
 |y::l,i+1,x,h=>by
  simp only[en];exact G3 (by simpa using h)
theorem V8{c:hs}{xs:List ab}{k:Nat}{e:Env}{y:(eQ c.rs).den}(an:ab.cj k xs=true)(aP:Env.at (cK M e k (hH c xs k)) k=⟨eQ c.rs,y⟩):
 (uR c k).den G (cK M e k (hH c xs k))=kn c.rs y:=by
 have ef:=ij (M:=M) (e:=e) (Bh (c:=c) an)
 obtain⟨f,eL,ps,rs,eo⟩:=c
 show(uR ⟨f,eL,ps,rs,eo⟩ k).den G _=kn rs y
 match rs,y,aP,ef with
 |[],y,aP,ef=>rfl
 |[r],y,aP,ef=>exact G1 aP
 |r::s::l,y,aP,ef=>
  have lJ:(dm (r::s::l) y).map aS.r=r::s::l:=q1
  have o4:kn (r::s::l) y= .tuple ((dm (r::s::l) y).map aS.e5):=by
   unfold kn lZ
   split
   ·rename_i v av
    have:=congrArg List.length lJ
    have af:=congrArg List.length av
    simp only[List.length_map,List.length_cons]at this af;simp only[List.length_nil]at af;omega
   ·rfl
  rw[o4];show az.tuple (ab.bF G _ (hj (k+1) (r::s::l)))=_
  congr 1
  refine xP lJ fun j d ai=>?_
  have hlen:j<(r::s::l).length:=by
   have aa:=(List.getElem?_eq_some_iff.1 ai).1
   have:=congrArg List.length lJ
   rw[List.length_map]at this;omega
  have aa:=ef (j+1) (.sa (r::s::l) k j) (by
   show(bG.ca eL xs::mA (r::s::l) k 0 (r::s::l))[j+1]? =_
   rw[List.getElem?_cons_succ,GZ,if_pos hlen,Nat.zero_add])
  rw[show k+1+j=k+(j+1)by omega,aa]
  simp only[bG.den,aP,cA];exact G3 ai
theorem V9(lq:p9 P G M C)(b5:gC P G M inl):gC P G M (GV C inl):=fun f as S e ad an hf ah=>by
 unfold GV at ah⊢
 cases hc:xN f C with
 |none=>simp only[hc]at ah⊢;exact b5 f as S e ad an hf ah
 |some c=>
  simp only[hc]at ah⊢
  cases hx:pL S c.ps as with
  |none=>simp only[hx]at ah⊢;exact b5 f as S e ad an hf ah
  |some xs=>
   simp only[hx]at ah⊢
   split at ah
   rotate_left
   ·exact ah.elim
   rename_i aj;simp only[Bool.and_eq_true]at aj;obtain⟨⟨Wa,xG⟩,xR,Wb⟩:=aj;obtain⟨hm,xS⟩:=Nf hc;obtain⟨g1,g2,g3,g4⟩:=lq c hm;obtain⟨hn,_⟩:=ll ah
   have sE:=Bh (c:=c) xR
   have bs:bM S.k e (cK M e S.k (hH c xs S.k)):=iN (Nat.le_refl _)
   have bX:c.eo=false→fA.ok M (cK M e S.k (hH c xs S.k)) (.ca c.j xs):=fun o0=>hn _ (by unfold Bf;rw[o0];exact List.mem_singleton.2 rfl)
   obtain⟨bN,a2,a3,a4⟩:=uT (G:=G) (e:=e) hx
   have ef:=ij (M:=M) (e:=e) sE 0 (.ca c.j xs) (by unfold hH;split<;>rfl)
   obtain⟨Nh,nP,YE,YF,Ni⟩:=c;simp only at g1 g2 g3 g4 xS Wa xG xR Wb sE bs bX bN a2 a3 a4 ef hx;subst g1 g2 xS;simp only[Nat.add_zero,bG.den]at ef;simp only[fA.ok]at bX;rw[tT bs xR]at ef
   have gv:=g3 (bQ _ (fS e (en bc.d M nP).ps xs)) (by
    cases Ni with
    |true=>rw[g4 rfl];trivial
    |false=>
     have:=bX rfl
     rw[tT bs xR]at this
     exact this)
   have sB:lZ (en bc.d M nP).ps (bQ (en bc.d M nP).ps (fS e (en bc.d M nP).ps xs))=(fS e (en bc.d M nP).ps xs).map aS.e5:=by
    unfold lZ;rw[uS a4]
   rw[sB]at gv
   have av:=V8 (G:=G) (c:=⟨Nh,nP,(en bc.d M nP).ps,(en bc.d M nP).rs,Ni⟩) xR ef
   have oH:dn P G Nh (ab.bF G e as) (cv G e S.h) S.n fun r bE=>bE=cv G e S.h∧∃_:bp,r=kn (en bc.d M nP).rs ((en bc.d M nP).m (bQ _ (fS e (en bc.d M nP).ps xs))):=by
    cases E2:q0 as with
    |true=>
     rw[a3 E2]at bN a2;exact((gv.arg bN).frame a2 fun r bE ae=>by rw[ae];exact GX).res fun r bE ⟨aa,e2,af⟩=>⟨aa,e2,af⟩
    |false=>
     rw[E2,Bool.false_or]at xG;exact(gv.V3 bN a2 fun r bE ae=>by rw[ae];exact V6 xG).res fun r bE ⟨aa,e2,af⟩=>⟨aa,e2,af⟩
   refine oH.res fun r bE ⟨aa,_,af⟩=>⟨_,_,by rw[kJ];rfl,?_,?_,?_,?_,bs,Nat.le_add_right _ _⟩
   ·rw[af,←av]
    show _=ab.den G _ (aq.at (Be S _ _) 0);unfold Be aq.at
    simp only[aZ.jf,if_true]
   ·rw[aa];exact(wP bs ad.h).symm
   ·refine⟨fun i x hi=>?_,sd (Nat.le_add_right _ _) ad.h,ny (Nat.le_add_right _ _) ad.g⟩
    simp only[Be,aZ.jf]at hi
    split at hi
    ·cases hi
     show(uR _ S.k).lt (S.k+_)=true;unfold uR hH
     split
     ·exact G2 (Nat.lt_succ_self _)
     ·simp only[ab.lt]
      refine xQ ?_
      simp only[List.length_cons,G0];omega
    ·simp[aZ.get]at hi
   ·exact hE bs ad.g hf
end
end Go.aG
namespace Go.aG
open Go
section
variable {P:Program} {G:aY} {f:FuncId} {args:List az} {R:az→bp→Prop}
theorem dn.ret(dW:Prop→az→Prop)(h:dn P G f args [] 0 R){Q:az→Prop}(fk: ∀r bE,R r bE→∃v,Sub (jM bE r) v∧e1 v=true∧Q v):dn P G f args [] 0 fun v _=>Q v:=by
 intro w β ro ek aa af ar aQ bx
 refine Calls.mono (h w β ro ek aa af ar aQ bx) fun e w' ⟨v,r,bE,dB,ro',cy,he,ae,c1,gO,cb⟩=>?_
 obtain⟨u,hu,ak,aH⟩:=fk r bE ae
 have me: ∀b,Own bE dB b→b<w'.heap.size:=fun b ⟨k,p,aj,ak,a1⟩=>(gO.cL k p aj).gI ak a1
 refine⟨v,u,[],dB,r1 ro' bE dB,cy,he,aH,mf (hu _ _ _ _ _ _ (D7 gO c1)) ak,⟨by simp[aA],by simp[aA],fun b _=>iT dB b,fun b ad=>ad.elim (gO.lt b) (me b)⟩,
  ⟨cb.os,cb.tape,cb.output,cb.size,cb.frame,fun b ad=>?_,fun b ad=>.inl (cb.iV b ad),fun b ad=>absurd ad (iT dB b),by simp[aA],by simp[aA],cb.le⟩⟩
 rcases ad with ad|ad
 ·exact cb.h3 b ad
 ·exact .inr (cb.gm b ad)
end
def gY:Nat→List aS→Env
 |_,[]=>.emp
 |i,d::ds=>aZ.put (gY (i+1) ds) i d
theorem G4: ∀{ds:List aS} {i j:Nat} {d:aS},ds[j]? =some d→Env.at (gY i ds) (i+j)=d
 |[],_,_,_,h=>by cases h
 |x::ds,i,0,d,h=>by
  have h:x=d:=by simpa using h
  simp only[gY,Env.jg,Nat.add_zero,if_true,h]
 |x::ds,i,j+1,d,h=>by
  have:=G4 (i:=i+1) (show ds[j]? =some d by simpa using h)
  simp only[gY,Env.jg];rw[if_neg (by omega),←this]
  congr 1
  omega
def sF(rs:List aU)(v:ab):List ab:=
 match rs,v with
 |[_],v=>[v]
 |_,.tp l=>l
 |_,x=>[x]
def G5(rs:List aU)(v:ab):Bool:=
 match rs,v with
 |[_],_=>true
 |_,.tp _=>true
 |_,_=>false
def Bj(rs:List aU)(C:aq):Option (List ab):=
 match G5 rs (C.at 0)with
 |true=>pL C rs (sF rs (C.at 0))
 |false=>none
def xT(rs:List aU)(C:aq):Bool:=(Bj rs C).isSome
def G6(rs:List aU)(C:aq)(e:Env):(eQ rs).den:=
 match Bj rs C with
 |some l=>bQ rs (fS e rs l)
 |none=>(eQ rs).gb
def G7(M:List bc)(t:ay)(rs:List aU)(e:Env):(eQ rs).den:=t.fold M e (fun _ C aw=>G6 rs C aw) (eQ rs).gb
def sG(n:Nat):aq:=⟨.emp,[],0,n,[]⟩
section
variable {P:Program} {G:aY} {M:List bc} {C:List hs} {inl:Nat→List ab→aq→ay}
theorem Wc{rs:List aU}{S:aq}{e:Env}{l:List ab}(h:Bj rs S=some l):Sub (jM (cv G e S.h) ((S.at 0).den G e)) (kn rs (bQ rs (fS e rs l))):=by
 unfold Bj at h
 split at h
 rotate_left
 ·cases h
 rename_i aB
 obtain⟨bN,_,_,a4⟩:=uT (G:=G) (e:=e) h
 have sB:lZ rs (bQ rs (fS e rs l))=(fS e rs l).map aS.e5:=by unfold lZ;rw[uS a4]
 unfold kn
 rw[sB]
 match rs,bN,a4,aB with
 |[r],bN,a4,aB=>
  obtain⟨d,nr,av,aa,af⟩:=kE a4
  cases la af
  rw[av]at bN⊢;simp only[sF,ab.bF,gW,List.map_cons,List.map_nil]at bN⊢
  cases bN with
  |cons h _=>exact h
 |[],bN,a4,aB=>
  cases av:S.at 0 with
  |tp m=>
   rw[av]at bN;rw[la a4];rw[la a4]at bN;exact bN.tuple
  |_=>rw[av]at aB;cases aB
 |r::s::q,bN,a4,aB=>
  cases av:S.at 0 with
  |tp m=>
   rw[av]at bN
   have an:=congrArg List.length a4
   simp only[List.length_map,List.length_cons]at an;generalize fS e (r::s::q) l=ds at bN an⊢
   match ds,an with
   |d::d2::ds,_=>exact bN.tuple
  |_=>rw[av]at aB;cases aB
theorem Nj{t:ay}{p:aq→Bool}(h:t.gh.all p=true){e aw:Env}{S:aq}(ae:run M t e=some (.bY,S,aw)):p S=true:=List.all_eq_true.1 h S (lU ae)
theorem Nk(b5:gC P G M inl){f:Nat}{m:bc}(t:ay)(aB:inl f (hj 0 m.ps) (sG m.ps.length)=t)(he:t.gh.all (xT m.rs)=true)
 (ah: ∀x,mD m.pre x→t.safe M (gY 0 (dm m.ps x)))(hm: ∀x,mD m.pre x→G7 M t m.rs (gY 0 (dm m.ps x))=m.m x):df P G f m:=fun x hx=>by
 subst aB
 have an:m.ps.length=(dm m.ps x).length:=by have:=congrArg List.length (q1 (rs:=m.ps) (x:=x));rw[List.length_map]at this;exact this.symm
 have h:=b5 f (hj 0 m.ps) (sG m.ps.length) (gY 0 (dm m.ps x)) ⟨fun i x hi=>by simp[sG,aZ.get]at hi,rfl,rfl⟩ (xQ (by show 0+_≤m.ps.length;omega)) (fun c hc=>by cases hc) (ah x hx)
 have hd:ab.bF G (gY 0 (dm m.ps x)) (hj 0 m.ps)=lZ m.ps x:=xP q1 fun j d ai=>G4 ai
 rw[hd]at h
 refine(dn.ret (fun _ _=>True) h (Q:=fun v=>v=kn m.rs (m.m x)) fun r bE ae=>?_)
 obtain⟨aN,aw,cD,rfl,rfl,_⟩:=ae
 have iR:=Nj he cD
 obtain⟨l,k5⟩:=Option.isSome_iff_exists.1 iR
 refine⟨_,Wc k5,GX,?_⟩
 have:=hm x hx
 unfold G7 at this
 rw[jk cD]at this
 unfold G6 at this
 rw[k5]at this
 rw[←this]
theorem Wd(b5:gC P G M inl){f:Nat}{m:bc}(t:ay)(aB:inl f (hj 0 m.ps) (sG m.ps.length)=t)(he:(t.clean&&t.gh.all (xT m.rs))=true)
 (hm: ∀x,G7 M t m.rs (gY 0 (dm m.ps x))=m.m x):df P G f m:=by
 simp only[Bool.and_eq_true]at he
 exact Nk b5 t aB he.2 (fun _ _=>pq M he.1) fun x _=>hm x
theorem p9.nil:p9 P G M []:=fun _ h=>by cases h
theorem p9.cons{c:hs}(h:M6 P G M c)(lq:p9 P G M C):p9 P G M (c::C):=fun d hd=>by
 rcases List.mem_cons.1 hd with rfl|hd
 ·exact h
 ·exact lq d hd
end
end Go.aG
namespace Go.aG
open Go
def ay.ju(M:List bc):ay→{X:Type}→Env→(bH→aq→Env→X)→X→X
 | .cc x S,_,e,K,_=>K x S e
 | .lt i x t,_,e,K,d=>t.ju M (aZ.put e i (x.den M e)) K d
 | .eW _ t,_,e,K,d=>t.ju M e K d
 | .it g a b,_,e,K,d=>bif g.aD e .bool then a.ju M e K d else b.ju M e K d
 | .c3 n a ps k,_,e,K,d=>a.ju M e (fun x S aw=>bif x.bu n then k.ju M (fg e (fun r p=>⟨r,(p.cH S).get aw r⟩) ps) K d else K x S aw) d
 | .dJ m xid cQ bI ca a k,X,e,K,d=>Sum.elim (fun r=>r) (fun v=>k.ju M (a7 e ca v) K d)
  (bS (fun i (v:bB ca)=>(a.ju M (a7 (aZ.put e bI ⟨.int .i64,(i:Int)⟩) ca v) (dE m xid ca K) (.b9 v):Step X (bB ca))) 0 (b1 (cQ.den M e)).toNat (bQ _ (c9 e ca)))
 | .eh m xid ca a k,X,e,K,d=>Sum.elim (fun r=>r) (fun v=>k.ju M (a7 e ca v) K d)
  (b3 (fun v=>(a.ju M (a7 e ca v) (dE m xid ca K) (.b9 v):Step X (bB ca))) cX (bQ _ (c9 e ca)))
 | .bad _,_,_,_,d=>d
section
variable {M:List bc}
theorem l0: ∀(t:ay) {X:Type} (e:Env) (K:bH→aq→Env→X) (d:X),t.ju M e K d=t.fold M e K d
 | .cc _ _,_,_,_,_=>rfl
 | .lt i x t,_,e,K,d=>l0 t _ K d
 | .eW _ t,_,e,K,d=>l0 t _ K d
 | .it g a b,_,e,K,d=>by simp only[ay.ju,ay.fold,l0 a,l0 b]
 | .c3 n a ps k,X,e,K,d=>by
  show a.ju M e (fun x S aw=>bif x.bu n then k.ju M (fg e (fun r p=>⟨r,(p.cH S).get aw r⟩) ps) K d else K x S aw) d=(ay.c3 n a ps k).fold M e K d
  rw[l0 a]
  cases ae:run M a e with
  |none=>rw[wL ae,qz ae]
  |some l=>
   obtain⟨x,S,aw⟩:=l;rw[jk ae]
   cases hx:x.bu n with
   |true=>rw[cond_true,oq ae hx,l0 k]
   |false=>rw[cond_false,lP ae hx]
 | .dJ m xid cQ bI ca a k,X,e,K,d=>by
  rw[tP];simp only[ay.ju,l0 a,l0 k]
 | .eh m xid ca a k,X,e,K,d=>by
  simp only[ay.ju,ay.fold,l0 a,l0 k]
 | .bad _,_,_,_,_=>rfl
def ay.wp(M:List bc):ay→Env→(bH→aq→Env→Prop)→Prop
 | .cc x S,e,Q=>Q x S e
 | .lt i x t,e,Q=>t.wp M (aZ.put e i (x.den M e)) Q
 | .eW n t,e,Q=>n.ok M e∧t.wp M e Q
 | .it g a b,e,Q=>(g.aD e .bool=true→a.wp M e Q)∧(g.aD e .bool=false→b.wp M e Q)
 | .c3 n a ps k,e,Q=>a.wp M e fun x S aw=>bif x.bu n then k.wp M (fg e (fun r p=>⟨r,(p.cH S).get aw r⟩) ps) Q else Q x S aw
 | .dJ m xid cQ bI ca a k,e,Q=>∃I:Nat→bB ca→Prop,I 0 (bQ _ (c9 e ca))∧(∀(i:Nat) (v:bB ca),i<(b1 (cQ.den M e)).toNat→I i v→
  a.wp M (a7 (aZ.put e bI ⟨.int .i64,(i:Int)⟩) ca v) fun x S aw=>bif x.bu m then I (i+1) (bQ _ (eX S aw ca))else bif x.cp xid then k.wp M (a7 e ca (bQ _ (eX S aw ca))) Q else Q x S aw)∧
  ∀v,I (b1 (cQ.den M e)).toNat v→k.wp M (a7 e ca v) Q
 | .eh m xid ca a k,e,Q=>∃(I:bB ca→Prop) (ir:bB ca→Nat),I (bQ _ (c9 e ca))∧ir (bQ _ (c9 e ca))<cX∧∀(v:bB ca),I v→
  a.wp M (a7 e ca v) fun x S aw=>bif x.bu m then I (bQ _ (eX S aw ca))∧ir (bQ _ (eX S aw ca))<ir v else bif x.cp xid then k.wp M (a7 e ca (bQ _ (eX S aw ca))) Q else Q x S aw
 | .bad _,_,_=>False
theorem Nl{R A:Type}{b:Nat→A→Step R A}(I:Nat→A→Prop)(sH:R→Prop)(q2:A→Prop)(n:Nat)(h: ∀i v,i<n→I i v→(∀r,b i v= .ret r→sH r)∧(∀bo,b i v= .b9 bo→q2 bo)∧∀bo,b i v= .bP bo→I (i+1) bo)
 (he: ∀v,I n v→q2 v): ∀(m k:Nat) (a:A),k+m=n→I k a→(∀r,bS b k m a= .inl r→sH r)∧∀v,bS b k m a= .inr v→q2 v
 |0,k,a,hn,hi=>by
  have:k=n:=by omega
  subst this;exact⟨fun r ae=>(by cases ae),fun v av=>(by cases av;exact he a hi)⟩
 |m+1,k,a,hn,hi=>by
  obtain⟨aa,af,ar⟩:=h k a (by omega) hi
  simp only[bS]
  cases ad:b k a with
  |ret r=>exact⟨fun dW ae=>(by cases ae;exact aa r ad),fun v av=>(by cases av)⟩
  |b9 v=>exact⟨fun dW ae=>(by cases ae),fun bo av=>(by cases av;exact af v ad)⟩
  |bP v=>exact Nl I sH q2 n h he m (k+1) v (by omega) (ar v ad)
theorem Nn{R A:Type}{b:A→Step R A}(I:A→Prop)(ir:A→Nat)(sH:R→Prop)(q2:A→Prop)(h: ∀v,I v→(∀r,b v= .ret r→sH r)∧(∀bo,b v= .b9 bo→q2 bo)∧∀bo,b v= .bP bo→I bo∧ir bo<ir v):
 ∀(m:Nat) (a:A),ir a<m→I a→je b m a∧(∀r,b3 b m a= .inl r→sH r)∧∀v,b3 b m a= .inr v→q2 v
 |0,a,hm,_=>absurd hm (Nat.not_lt_zero _)
 |m+1,a,hm,hi=>by
  obtain⟨aa,af,ar⟩:=h a hi;simp only[b3,je]
  cases ad:b a with
  |ret r=>exact⟨trivial,fun dW ae=>(by cases ae;exact aa r ad),fun v av=>(by cases av)⟩
  |b9 v=>exact⟨trivial,fun dW ae=>(by cases ae),fun bo av=>(by cases av;exact af v ad)⟩
  |bP v=>
   obtain⟨g1,g2⟩:=ar v ad;exact Nn I ir sH q2 h m v (by omega) g1
def Bk(M:List bc)(t:ay)(e:Env)(Q:bH→aq→Env→Prop):Prop:=∃x S aw,run M t e=some (x,S,aw)∧Q x S aw
theorem No{m xid:Nat}{ca:List gE}{a:ay}{e:Env}{v:bB ca}{J:bB ca→Prop}{B:bB ca→Prop}{Q:bH→aq→Env→Prop}
 (h:Bk M a e fun x S aw=>bif x.bu m then J (bQ _ (eX S aw ca))else bif x.cp xid then B (bQ _ (eX S aw ca))else Q x S aw):
 (∀r,cx M m xid ca a e v= .ret r→∃x S aw,r=some (x,S,aw)∧Q x S aw)∧(∀bo,cx M m xid ca a e v= .b9 bo→B bo)∧∀bo,cx M m xid ca a e v= .bP bo→J bo:=by
 obtain⟨x,S,aw,ae,aH⟩:=h
 unfold cx
 rw[ae]
 simp only
 cases hx:x.bu m with
 |true=>
  rw[hx,cond_true]at aH;rw[mq hx];exact⟨fun r aV=>(by cases aV),fun bo aV=>(by cases aV),fun bo aV=>(by cases aV;exact aH)⟩
 |false=>
  rw[hx,cond_false]at aH
  cases ax:x.cp xid with
  |true=>
   rw[ax,cond_true]at aH;rw[mr hx ax];exact⟨fun r aV=>(by cases aV),fun bo aV=>(by cases aV;exact aH),fun bo aV=>(by cases aV)⟩
  |false=>
   rw[ax,cond_false]at aH;rw[jj hx ax];exact⟨fun r aV=>(by cases aV;exact⟨_,_,_,rfl,aH⟩),fun bo aV=>(by cases aV),fun bo aV=>(by cases aV)⟩
theorem jU: ∀(t:ay) {e:Env} {Q:bH→aq→Env→Prop},t.wp M e Q→t.safe M e∧Bk M t e Q
 | .cc x S,e,Q,h=>⟨trivial,x,S,e,rfl,h⟩
 | .lt i x t,e,Q,h=>jU t (e:=aZ.put e i (x.den M e)) h
 | .eW n t,e,Q,h=>⟨⟨h.1,(jU t h.2).1⟩,(jU t h.2).2⟩
 | .it g a b,e,Q,h=>by
  refine⟨⟨fun ag=>(jU a (h.1 ag)).1,fun ag=>(jU b (h.2 ag)).1⟩,?_⟩
  cases ag:g.aD e .bool with
  |true=>
   obtain⟨x,S,aw,aa,af⟩:=(jU a (h.1 ag)).2;exact⟨x,S,aw,by rw[qP ag];exact aa,af⟩
  |false=>
   obtain⟨x,S,aw,aa,af⟩:=(jU b (h.2 ag)).2;exact⟨x,S,aw,by rw[qP ag];exact aa,af⟩
 | .c3 n a ps k,e,Q,h=>by
  obtain⟨aa,x,aN,aC,ae,ar⟩:=jU a h
  cases hx:x.bu n with
  |true=>
   rw[hx,cond_true]at ar;obtain⟨eN,kc,cZ,aw,hb,tQ⟩:=jU k ar;refine⟨⟨aa,fun _=>?_⟩,kc,cZ,aw,by unfold run;rw[oq ae hx];exact hb,tQ⟩
   have:(fun(r:aU) (p:dN)=>(⟨r,bif a.ie n
    then a.fold M e (fun _ S aw=>(p.cH S).get aw r) r.gb
    else a.fold M e (fun x S aw=>bif x.bu n then(p.cH S).get aw r else r.gb) r.gb⟩:aS))=fun r p=>⟨r,(p.cH aN).get aC r⟩:=by
    funext r p
    simp only[jk ae,hx]
    cases a.ie n<;>rfl
   rw[this];exact eN
  |false=>
   rw[hx,cond_false]at ar;exact⟨⟨aa,fun ai=>by rw[jk ae,hx]at ai;cases ai⟩,x,aN,aC,by unfold run;rw[lP ae hx],ar⟩
 | .dJ m xid cQ bI ca a k,e,Q,h=>by
  obtain⟨I,aP,ad,he⟩:=h
  have k9:=fun(i:Nat) (v:bB ca) hi av=>jU a (ad i v hi av)
  have xU:=fun(i:Nat) (v:bB ca) hi av=>No (v:=v) (J:=I (i+1)) (B:=fun bo=>k.wp M (a7 e ca bo) Q) (Q:=Q) (k9 i v hi av).2
  obtain⟨cY,c0⟩:=Nl I (fun r=>∃x S aw,r=some (x,S,aw)∧Q x S aw) (fun v=>k.wp M (a7 e ca v) Q) (b1 (cQ.den M e)).toNat xU (fun v av=>he v av) (b1 (cQ.den M e)).toNat 0 _ (Nat.zero_add _) aP
  have gQ:(fun(i:Nat) (v:bB ca)=>(a.fold M (a7 (aZ.put e bI ⟨.int .i64,(i:Int)⟩) ca v) (dE m xid ca fun _ _ _=>()) (.b9 v):Step Unit (bB ca)))=fun(i:Nat) v=>hV (fun _=>()) (cx M m xid ca a (a7 (aZ.put e bI ⟨.int .i64,(i:Int)⟩) ca v) v):=by
   funext i v
   exact hW ..
  have G8:=tL (fun _:Option lO=>()) (b:=fun(i:Nat) v=>cx M m xid ca a (a7 (aZ.put e bI ⟨.int .i64,(i:Int)⟩) ca v) v) (c:=fun(i:Nat) v=>hV (fun _=>()) (cx M m xid ca a (a7 (aZ.put e bI ⟨.int .i64,(i:Int)⟩) ca v) v)) (fun _ _=>rfl) (b1 (cQ.den M e)).toNat 0 (bQ _ (c9 e ca))
  refine⟨⟨⟨I,aP,fun i v hi av=>⟨(k9 i v hi av).1,fun bo hn=>(xU i v hi av).2.2 bo ?_⟩⟩,?_⟩,?_⟩
  ·rw[hW]at hn
   exact qA hn
  ·rw[gQ,G8]
   cases an:bS (fun(i:Nat) v=>cx M m xid ca a (a7 (aZ.put e bI ⟨.int .i64,(i:Int)⟩) ca v) v) 0 (b1 (cQ.den M e)).toNat (bQ _ (c9 e ca))with
   |inl r=>trivial
   |inr v=>exact(jU k (c0 v an)).1
  ·unfold Bk
   rw[Ah]
   cases an:bS (fun(i:Nat) v=>cx M m xid ca a (a7 (aZ.put e bI ⟨.int .i64,(i:Int)⟩) ca v) v) 0 (b1 (cQ.den M e)).toNat (bQ _ (c9 e ca))with
   |inl r=>exact cY r an
   |inr v=>exact(jU k (c0 v an)).2
 | .eh m xid ca a k,e,Q,h=>by
  obtain⟨I,ir,aP,hm,ad⟩:=h
  have k9:=fun(v:bB ca) av=>jU a (ad v av)
  have xU:=fun(v:bB ca) av=>No (v:=v) (J:=fun bo=>I bo∧ir bo<ir v) (B:=fun bo=>k.wp M (a7 e ca bo) Q) (Q:=Q) (k9 v av).2
  obtain⟨We,cY,c0⟩:=Nn I ir (fun r=>∃x S aw,r=some (x,S,aw)∧Q x S aw) (fun v=>k.wp M (a7 e ca v) Q) xU cX _ hm aP
  have gQ:(fun(v:bB ca)=>(a.fold M (a7 e ca v) (dE m xid ca fun _ _ _=>()) (.b9 v):Step Unit (bB ca)))=fun v=>hV (fun _=>()) (cx M m xid ca a (a7 e ca v) v):=by
   funext v
   exact hW ..
  have G8:=tM (fun _:Option lO=>()) (b:=fun v=>cx M m xid ca a (a7 e ca v) v) (c:=fun v=>hV (fun _=>()) (cx M m xid ca a (a7 e ca v) v)) (fun _=>rfl) cX (bQ _ (c9 e ca))
  have Wf:=Eo (fun _:Option lO=>()) (b:=fun v=>cx M m xid ca a (a7 e ca v) v) (c:=fun v=>hV (fun _=>()) (cx M m xid ca a (a7 e ca v) v)) (fun _=>rfl) cX (bQ _ (c9 e ca))
  refine⟨⟨⟨I,aP,fun v av=>⟨(k9 v av).1,fun bo hn=>((xU v av).2.2 bo ?_).1⟩⟩,?_,?_⟩,?_⟩
  ·rw[hW]at hn
   exact qA hn
  ·rw[gQ]
   exact Wf.2 We
  ·rw[gQ,G8]
   cases an:b3 (fun v=>cx M m xid ca a (a7 e ca v) v) cX (bQ _ (c9 e ca))with
   |inl r=>trivial
   |inr v=>exact(jU k (c0 v an)).1
  ·unfold Bk
   rw[Ai]
   cases an:b3 (fun v=>cx M m xid ca a (a7 e ca v) v) cX (bQ _ (c9 e ca))with
   |inl r=>exact cY r an
   |inr v=>exact(jU k (c0 v an)).2
 | .bad _,_,_,h=>h.elim
end
def G9(M:List bc)(t:ay)(rs:List aU)(e:Env):(eQ rs).den:=t.ju M e (fun _ C aw=>G6 rs C aw) (eQ rs).gb
section
variable {P:Program} {G:aY} {M:List bc} {inl:Nat→List ab→aq→ay}
theorem mS(b5:gC P G M inl){f:Nat}{m:bc}(t:ay)(aB:inl f (hj 0 m.ps) (sG m.ps.length)=t)(he:(t.clean&&t.gh.all (xT m.rs))=true)
 (hm: ∀x,G9 M t m.rs (gY 0 (dm m.ps x))=m.m x):df P G f m:=
 Wd b5 t aB he fun x=>by rw[←hm x];exact(l0 t _ _ _).symm
theorem Wh(b5:gC P G M inl){f:Nat}{m:bc}(t:ay)(aB:inl f (hj 0 m.ps) (sG m.ps.length)=t)(he:t.gh.all (xT m.rs)=true)
 (ah: ∀x,mD m.pre x→t.wp M (gY 0 (dm m.ps x)) fun _ _ _=>True)(hm: ∀x,G9 M t m.rs (gY 0 (dm m.ps x))=m.m x):df P G f m:=
 Nk b5 t aB he (fun x hx=>(jU t (ah x hx)).1) fun x _=>by rw[←hm x];exact(l0 t _ _ _).symm
end
end Go.aG
namespace Go.aG
open Go
section
variable {P:Program} {G:aY} {f:FuncId} {args:List az} {σ:bp} {n:Nat}
theorem dn.Wi{t:TypeId}{cs q3:List az}{R:az→List az→Prop}(h:dn P G f (.ptr 0 0::args) [(0,.box t cs)] 1 fun r bE=>∃cs',bE=[(0,.box t cs')]∧R r cs')(ak:ep args=true)(ff:ep cs=true)
 (fk: ∀r cs',R r cs'→jc r=true∧lL cs'=true){id:Nat}(hid:aA σ id=some (.box t q3))(fP:fI q3 cs):
 dn P G f (.ptr id 0::args) σ n fun r bE=>∃cs',bE=eG σ id (.box t cs')∧R r cs':=by
 intro w β ro ek aa af ar aQ bx
 have c7:=ar.cL id _ hid
 cases c7 with
 |box _ _ b arr aC a6 ck eT=>
  have Np: ∀k,Own [(0,dS.box t cs)] (fun _=>β id) k→b0 (β id)=some k:=fun k ⟨i,o,ag,_,ad⟩=>ad
  have sz:gJ w ro [(0,.box t cs)] (fun _=>β id) 1:=by
   refine⟨fun i o ag=>?_,fun i vZ o b6 k ag dr _ _ _ _=>?_,fun k aj ao=>ar.fe k aj ⟨id,_,hid,rfl,Np k ao⟩,ar.lt⟩
   ·simp only[aA]at ag
    split at ag
    ·rename_i hi
     subst hi;cases ag;refine .box t cs b arr aC a6 (by rw[ck,fP.at.1]) fun j x ai=>?_
     obtain⟨y,ax,ah⟩:=fP.at.2 j x ai;exact mf (ah _ _ _ _ _ _ (eT j y ax)) (lG ff ai)
    ·cases ag
   ·simp only[aA]at ag dr
    split at ag
    ·split at dr
     ·rename_i bN a2;rw[←bN,←a2]
     ·cases dr
    ·cases ag
  refine Calls.mono (h w (fun _=>β id) ro ek aa (fun i x hx=>?_) sz aQ (fun i o ag=>?_)) fun e w' ⟨v,r,e2,dB,ro',cy,he,⟨cs',DC,ae⟩,c1,gO,cb⟩=>?_
  ·cases i with
   |zero=>
    simp only[List.getElem?_cons_zero,Option.some.injEq]at hx
    subst hx
    have:=af 0 _ rfl
    generalize ek.getD 0 undef=cG at this⊢
    cases this with
    |ptr _ _ _ an kj=>
     refine .ptr 0 0 cG Nat.one_pos fun bn cs' ag=>?_
     exact kj t q3 hid
   |succ i=>exact mf (af (i+1) x (by simpa using hx)) (lG ak (by simpa using hx))
  ·simp only[aA]at ag
   split at ag
   ·rename_i hi;rw[←hi];exact Nat.one_pos
   ·cases ag
  ·subst DC
   obtain⟨Wj,Wk⟩:=fk r cs' ae
   have lu:cP ⟨w,ro,σ,β,n⟩ G ⟨[],σ,n,n⟩ ⟨#[],[]⟩ w β ro:=⟨rfl,rfl,by simp,ar,aQ,⟨rfl,rfl,rfl,Nat.le_refl _,fun _ _ _=>rfl,fun _ h=>.inl h,fun _ h=>h,fun _ h=>.inl h,fun id _ o ag=>⟨by simp[ag],rfl⟩,bx,Nat.le_refl _⟩,Nat.le_refl _⟩
   have Wl:dB 0=β id:=(cb.dj 0 Nat.one_pos (.box t cs') (by simp[aA])).2
   have hw:=lu.write (w':=w') id _ (.box t cs') hid rfl rfl (.inl ⟨t,q3,cs',rfl,rfl⟩) cb.os cb.tape cb.output cb.size (fun k aj bX=>cb.frame k aj fun ao=>bX (Np k ao)) (by
    have Wm:=gO.cL 0 (.box t cs') (by simp[aA])
    cases Wm with
    |box _ _ b' Wn g1 g2 g3 g4=>
     exact .box t cs' b' Wn (by rw[←Wl];exact g1) g2 g3 fun j x ai=>zt (g4 j x ai) (zr Wk ai))
   exact⟨v,r,eG σ id (.box t cs'),β,ro,n,he,⟨cs',rfl,ae⟩,zt c1 Wj,hw.heap,hw.trans⟩
end
def uU(ds:List aS):List az:=
 match ds with
 |⟨.st c,x⟩::_=>(cF c x).map .au
 |_=>[]
def Bl(ds:List aS):az:=
 match ds.tail.map aS.e5 with
 |[v]=>v
 |l=>.tuple l
def lA(P:Program)(G:aY)(f:Nat)(t:TypeId)(m:bc):Prop:=
 ∀x:(eQ m.ps).den,mD m.pre x→dn P G f (.ptr 0 0::(dm m.ps x).tail.map aS.e5) [(0,.box t (uU (dm m.ps x)))] 1 fun v bE=>∃cs',bE=[(0,.box t cs')]∧v=Bl (dm m.rs (m.m x))∧cs'=uU (dm m.rs (m.m x))
structure iU where
 f:Nat
 j:Nat
 t:TypeId
 c:bC
 ps:List aU
 rs:List aU
 eo:Bool
def iU.nQ(b:iU):hs:=⟨b.f,b.j,.st b.c::b.ps,.st b.c::b.rs,b.eo⟩
def Wo(P:Program)(G:aY)(M:List bc)(b:iU):Prop:=
 (en bc.d M b.j).ps= .st b.c::b.ps∧(en bc.d M b.j).rs= .st b.c::b.rs∧lA P G b.f b.t (en bc.d M b.j)∧(b.eo=true→(en bc.d M b.j).pre=none)
def Dk(P:Program)(G:aY)(M:List bc)(C:List iU):Prop:=∀b∈C,Wo P G M b
def Bm(f:Nat):List iU→Option iU
 |[]=>none
 |c::r=>match Nat.beq c.f f with
  |true=>some c
  |false=>Bm f r
theorem Nq{f:Nat}{c:iU}: ∀{C:List iU},Bm f C=some c→c∈C∧c.f=f
 |[],h=>by cases h
 |d::r,h=>by
  unfold Bm at h
  split at h
  ·rename_i hd;cases h;exact⟨List.mem_cons_self ..,Nat.eq_of_beq_eq_true hd⟩
  ·obtain⟨aa,af⟩:=Nq h;exact⟨List.mem_cons_of_mem _ aa,af⟩
def nR(rs:List aU)(k:Nat):Nat:=
 match rs with
 |[_]=>k
 |_=>k+1
def Bn(rs:List aU)(k:Nat):ab:=
 match rs with
 |[r]=>xO r k
 |rs=>.tp (hj k rs)
def Bo(b:iU)(S:aq)(id:Nat)(xs:List ab):aq:=
 ⟨aZ.put .emp 0 (Bn b.rs (nR b.nQ.rs S.k+1)),jO S.h id (.cT b.t (ib b.c (nR b.nQ.rs S.k) 0 (e3 b.c))),S.n,S.k+(hH b.nQ xs S.k).length,S.g⟩
def Nr(b:iU)(S:aq)(t:TypeId)(l rest xs:List ab):Bool:=
 (Nat.beq t b.t&&(gX (e3 b.c) l&&ab.cj S.k l))&&((q0 rest&&ab.cj S.k xs)&&((aU.st b.c).qZ&&(b.rs.all aU.qZ&&b.rs.all aU.hC)))
def Ha(C:List iU)(inl:Nat→List ab→aq→ay)(f:Nat)(as:List ab)(S:aq):ay:=
 match Bm f C,as with
 |some b,.de id 0::rest=>match c2 S.h id,pL S b.ps rest with
  |some (.cT t l),some xs=>match Nr b S t l rest xs with
   |true=>emit S.k (hH b.nQ (.cm l::xs) S.k) (Bf b.nQ (.cm l::xs)) (.cc .bY (Bo b S id (.cm l::xs)))
   |false=>inl f as S
  |_,_=>inl f as S
 |_,_=>inl f as S
section
variable {P:Program} {G:aY} {M:List bc} {C:List iU} {inl:Nat→List ab→aq→ay}
theorem Wp{c:hs}{xs:List ab}{k:Nat}{e:Env}{y:(eQ c.rs).den}(an:ab.cj k xs=true)(aP:Env.at (cK M e k (hH c xs k)) k=⟨eQ c.rs,y⟩):
 ∀(j:Nat) (d:aS),(dm c.rs y)[j]? =some d→Env.at (cK M e k (hH c xs k)) (nR c.rs k+j)=d:=by
 have ef:=ij (M:=M) (e:=e) (Bh (c:=c) an)
 obtain⟨f,eL,ps,rs,eo⟩:=c
 simp only at y aP ef⊢
 match rs,y,aP,ef with
 |[],y,aP,ef=>intro j d ai;cases ai
 |[r],y,aP,ef=>
  intro j d ai
  cases j with
  |zero=>
   have ai:(⟨r,y⟩:aS)=d:=by simpa[dm]using ai
   rw[←ai];exact aP
  |succ j=>simp[dm]at ai
 |r::s::l,y,aP,ef=>
  intro j d ai
  have hlen:j<(r::s::l).length:=by
   have aa:=(List.getElem?_eq_some_iff.1 ai).1
   have:=congrArg List.length (q1 (rs:=r::s::l) (x:=y))
   rw[List.length_map]at this;omega
  have aa:=ef (j+1) (.sa (r::s::l) k j) (by
   show(bG.ca eL xs::mA (r::s::l) k 0 (r::s::l))[j+1]? =_
   rw[List.getElem?_cons_succ,GZ,if_pos hlen,Nat.zero_add])
  show Env.at _ (k+1+j)=d;rw[show k+1+j=k+(j+1)by omega,aa]
  simp only[bG.den,aP,cA];exact G3 ai
theorem Wq{e:Env}{rs:List aU}{k:Nat}{ds:List aS}(ae:ds.map aS.r=rs)(h: ∀j d,ds[j]? =some d→Env.at e (k+j)=d):(Bn rs k).den G e=(match ds.map aS.e5 with|[v]=>v|l=>.tuple l):=by
 match rs,ds,ae,h with
 |[],ds,ae,h=>cases la ae;rfl
 |[r],ds,ae,h=>
  obtain⟨d,nr,rfl,aa,af⟩:=kE ae
  cases la af
  subst aa;exact G1 (x:=d.v) (h 0 d rfl)
 |r::s::l,ds,ae,h=>
  have:=xP (G:=G) (i:=k) ae h
  obtain⟨d,nr,rfl,aa,af⟩:=kE ae;obtain⟨d2,YG,rfl,ar,aQ⟩:=kE af;show az.tuple (ab.bF G e (hj k (r::s::l)))=_;rw[this];rfl
theorem Wr{ds:List aS}{c:bC}{x:fN c}{r:List aS}(h:ds=⟨.st c,x⟩::r)(hc:(aU.st c).qZ=true):lL (uU ds)=true:=by
 subst h
 have:=Nd (d:=⟨.st c,x⟩) hc
 exact this
theorem Ws(lq:Dk P G M C)(b5:gC P G M inl):gC P G M (Ha C inl):=fun f as S e ad an hf ah=>by
 unfold Ha at ah⊢
 split at ah
 rotate_left
 ·exact b5 _ _ S e ad an hf ah
 rename_i b id rest hc
 split at ah
 rotate_left
 ·exact b5 _ _ S e ad an hf ah
 rename_i t l xs ag hx
 split at ah
 rotate_left
 ·exact b5 _ _ S e ad an hf ah
 rename_i aj
 simp only[Nr,Bool.and_eq_true]at aj
 obtain⟨⟨eN,hb,tQ⟩,⟨Bp,Wt⟩,Ns,Nt,Wu⟩:=aj
 have eN:=Nat.eq_of_beq_eq_true eN
 subst eN
 obtain⟨hm,xS⟩:=Nq hc
 obtain⟨g1,g2,g3,g4⟩:=lq b hm
 have Wv:ab.lt S.k (.cm l)=true:=tQ
 have Bq:ab.cj S.k (.cm l::xs)=true:=by simp only[ab.cj,Wv,Wt,Bool.and_self]
 obtain⟨hn,_⟩:=ll ah
 have sE:=Bh (c:=b.nQ) Bq
 have bs:bM S.k e (cK M e S.k (hH b.nQ (.cm l::xs) S.k)):=iN (Nat.le_refl _)
 have bX:b.eo=false→fA.ok M (cK M e S.k (hH b.nQ (.cm l::xs) S.k)) (.ca b.j (.cm l::xs)):=fun o0=>hn _ (by unfold Bf;rw[show b.nQ.eo=b.eo from rfl,o0];exact List.mem_singleton.2 rfl)
 obtain⟨bN,a2,a3,a4⟩:=uT (G:=G) (e:=e) hx
 have ef:=ij (M:=M) (e:=e) sE 0 (.ca b.j (.cm l::xs)) (by unfold hH;split<;>rfl)
 have di:=wG (G:=G) (e:=e) hb
 obtain⟨Br,xV,bt,gS,pM,l1,xW⟩:=b
 simp only[iU.nQ]at g1 g2 g3 g4 xS sE bs bX bN a2 a3 a4 ef hb Ns Nt Wu di hx⊢
 subst xS
 simp only[Nat.add_zero,bG.den]at ef
 simp only[fA.ok]at bX
 clear ah hn
 generalize en bc.d M xV=m at g1 g2 g3 g4 ef bX
 obtain⟨YH,YI,YJ,mB⟩:=m
 simp only at g1 g2 g3 g4 ef bX
 subst g1 g2
 rw[tT bs Bq]at ef
 have sD:(fS e (.st gS::pM) (.cm l::xs)).map aS.r= .st gS::pM:=by simp only[fS,List.map_cons,a4]
 have xX:=uS sD
 have gv:=g3 (bQ _ (fS e (.st gS::pM) (.cm l::xs))) (by
  cases xW with
  |true=>rw[g4 rfl];trivial
  |false=>
   have:=bX rfl
   rw[tT bs Bq]at this
   exact this)
 simp only at gv
 rw[xX]at gv
 generalize ax:mB (bQ (.st gS::pM) (fS e (.st gS::pM) (.cm l::xs)))=y at gv ef
 have Hb:=Wp (M:=M) (c:=⟨Br,xV,.st gS::pM,.st gS::l1,xW⟩) Bq ef
 obtain⟨d0,q4,lJ,o7,hdr⟩:=kE (q1 (rs:=.st gS::l1) (x:=y))
 obtain⟨Ww,dI⟩:=d0
 simp only at o7
 subst o7
 simp only[lJ]at gv Hb
 rw[a3 Bp]at bN a2
 have gv:=gv.arg (.cons (Sub.refl _) bN)
 have hid:aA (cv G e S.h) id=some (.box bt (ab.bF G e l)):=by rw[et,ag];rfl
 have oH:=dn.Wi (R:=fun r cs'=>r=Bl (⟨.st gS,dI⟩::q4)∧cs'=uU (⟨.st gS,dI⟩::q4)) (σ:=cv G e S.h) (n:=S.n) gv a2 (zd _) (fun r cs' ⟨dx,dG⟩=>⟨by
  rw[dx]
  have hsc:lL (q4.map aS.e5)=true:=GY fun d hd=>by
   have:d.r∈l1:=by rw[←hdr];exact List.mem_map_of_mem hd
   exact List.all_eq_true.1 Nt d.r this
  unfold Bl;simp only[List.tail_cons]
  split
  ·rename_i v av
   rw[av]at hsc;simpa[lL]using hsc
  ·exact hsc,by rw[dG];exact Wr rfl Ns⟩) hid di
 have aP:=Hb 0 ⟨.st gS,dI⟩ rfl
 rw[Nat.add_zero]at aP
 have hlen:nR (.st gS::l1) S.k+1+l1.length≤S.k+(hH ⟨Br,xV,.st gS::pM,.st gS::l1,xW⟩ (.cm l::xs) S.k).length:=by
  cases l1 with
  |nil=>simp[nR,hH]
  |cons r q=>simp only[nR,hH,List.length_cons,G0];omega
 have Wx:nR (.st gS::l1) S.k<S.k+(hH ⟨Br,xV,.st gS::pM,.st gS::l1,xW⟩ (.cm l::xs) S.k).length:=by omega
 refine oH.res fun r bE ⟨cs',aa,af,ar⟩=>⟨_,_,by rw[kJ];rfl,?_,?_,?_,?_,bs,Nat.le_add_right _ _⟩
 ·rw[af]
  have:=Wq (G:=G) (k:=nR (.st gS::l1) S.k+1) hdr fun j d ai=>by
   have:=Hb (j+1) d (by simpa using ai)
   rw[←this]
   congr 1
   omega
  show _=ab.den G _ (aq.at (Bo _ S id _) 0);unfold Bo aq.at
  simp only[aZ.jf,if_true];exact this.symm
 ·rw[aa,ar]
  show _=cv G _ (jO S.h id _);rw[sc,wP bs ad.h];simp only[bq.den,iU.nQ];rw[tH,aP,cA];rfl
 ·refine⟨fun i x hi=>?_,AD (o:=.cT bt (ib gS (nR (.st gS::l1) S.k) 0 (e3 gS))) (Bi Wx) (sd (Nat.le_add_right _ _) ad.h),ny (Nat.le_add_right _ _) ad.g⟩
  simp only[Bo,aZ.jf]at hi
  split at hi
  ·cases hi
   show(Bn l1 (nR (.st gS::l1) S.k+1)).lt (S.k+_)=true;unfold Bn
   split
   ·have DH:nR (.st gS::[_]) S.k+1<S.k+(hH ⟨Br,xV,.st gS::pM,.st gS::[_],xW⟩ (.cm l::xs) S.k).length:=hlen
    exact G2 DH
   ·simp only[ab.lt]
    exact xQ hlen
  ·simp[aZ.get]at hi
 ·exact hE bs ad.g hf
end
end Go.aG
