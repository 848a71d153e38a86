/- TD, part Z: regions of drawn order, sound. Conditions: none. -/
import Derived.Test.YtmkpmgfieagphaaGreatDoorKTDy
namespace Go.aL
open Go
def yg(v:ab):Bool:=
 match v.rt with
 |some (.int _)=>true
 |some .bool=>true
 |some .str=>true
 |_=>false
def Nw(P:Program)(S:ao)(t:TypeId)(id:Nat)(i:ab):Option dt:=
 match i.rt,j7 P t,da S.h id with
 |some (.int k),some n,some (.rw _ c y)=>match Nat.beq n (bZ c)with
  |true=>some ⟨[],pt S.g (.iU c) (.kc c k) y i,.gN id i 0⟩
  |false=>none
 |_,_,_=>none
def Nx(P:Program)(S:ao)(t:TypeId)(x i:ab):Option dt:=
 match i.rt,j7 P t,vq x with
 |some (.int k),some n,some c=>match Nat.beq n (bZ c)with
  |true=>some ⟨[.f2 (.kc c k) x i],pt S.g (.iU c) (.kc c k) x i,.ip c S.k 0⟩
  |false=>none
 |_,_,_=>none
def Ny(P:Program)(S:ao)(t:TypeId)(id off:Nat)(i:ab):Option dt:=
 match i.rt,uV P t,vm S (.ee id off)with
 |some (.int _),some (len,n),some _=>match i with
  | .cs (.int _ (.ofNat j))=>match Nat.blt j len,xA (j*n) (.ee id off)with
   |true,some p=>some ⟨[],[],p⟩
   |_,_=>none
  |i=>some ⟨[],xy S.g len i,.gX id off i n⟩
 |_,_,_=>none
def Fz(P:Program)(N:Nat)(S:ao)(t:TypeId)(x:ab)(lo hi:Option Operand):Option dt:=
 match xF N S lo,xF N S hi,x.rt,j7 P t with
 |some l,some h,some (.li c),some n=>match Nat.beq n (bZ c)with
  |true=>some ⟨[.eC c x l h],[.eC c x l h],.aU (.li c) S.k⟩
  |false=>none
 |_,_,_,_=>none
def sb(P:Program)(N:Nat)(S:ao)(o:Oper):Option dt:=
 match o.op with
 | .move x=>some ⟨[],[],S.aZ N x⟩
 | .assign x=>some ⟨[],[],S.aZ N x⟩
 | .nilCheck x=>match tm S (S.aZ N x)with
  |true=>some ⟨[],[],S.aZ N x⟩
  |false=>none
 | .fieldAddr t x f=>match sT P t f,tm S (S.aZ N x)with
  |some k,true=>match xA k (S.aZ N x)with
   |some p=>some ⟨[],[],p⟩
   |none=>none
  |_,_=>none
 | .load t x=>match vm S (S.aZ N x)with
  |some l=>match qe P t l with
   |some v=>some ⟨[],[],v⟩
   |none=>none
  |none=>match qJ P N S o with
   |some r=>match yg r.v with
    |true=>some r
    |false=>none
   |none=>none
 | .indexAddr t x i=>match S.aZ N x with
  | .aO id=>Nw P S t id (S.aZ N i)
  | .ee id off=>Ny P S t id off (S.aZ N i)
  |y=>Nx P S t y (S.aZ N i)
 | .slice t x lo hi none=>match Fz P N S t (S.aZ N x) lo hi with
  |some r=>some r
  |none=>match qJ P N S o with
   |some r=>match yg r.v with
    |true=>some r
    |false=>none
   |none=>none
 |_=>match qJ P N S o with
  |some r=>match yg r.v with
   |true=>some r
   |false=>none
  |none=>none
def nu(o:Oper):Bool:=
 match o.op with
 | .store _ _ _=>true
 | .alloc _=>true
 | .box _ _=>true
 | .buildSlice _ _ _=>true
 | .mapUpdate _ _ _ _=>true
 | .call c=>match c.callee with
  | .builtin .append=>true
  | .builtin .copy=>true
  |_=>false
 |_=>false
mutual
def ab.pure:ab→Bool
 | .aU _ _=>true
 | .fd _ _ _ _=>true
 | .cs _=>true
 | .ip _ _ _=>true
 | .ch l=>ab.e4 l
 | .tp l=>ab.e4 l
 | .fn _ a b=>ab.e4 a&&ab.e4 b
 |_=>false
def ab.e4:List ab→Bool
 |[]=>true
 |x::r=>ab.pure x&&ab.e4 r
end
def Nz(S:ao)(dst:Option Nat)(C:ao):aC:=
 match ab.pure (C.at 0)with
 |true=>.cH .cj ((⟨S.l,S.h,S.n,C.k,C.g⟩:ao).put dst (C.at 0))
 |false=>.bad 74
def sc(P:Program)(N B:Nat)(T:List (Nat × bL))(inl:Nat→List ab→ao→aC)(o:Oper)(S:ao):aC:=
 match nu o with
 |true=>match EZ P N B T S o with
  |some r=>match hy S.k r.xs&&(r.v.lt (S.k+r.xs.length)&&eH (S.k+r.xs.length) r.h)with
   |true=>emit S.k r.xs r.ns (.cH .cj ((r.st S o.dst).e2 S.k r.xs))
   |false=>.bad 31
  |none=>.bad (100+MG o)
 |false=>match qJ P N S o with
  |some r=>match hy S.k r.xs&&r.v.lt (S.k+r.xs.length)with
   |true=>emit S.k r.xs r.ns (.cH .cj ((S.e2 S.k r.xs).put o.dst r.v))
   |false=>.bad 30
  |none=>match AY P N S o with
   |some (f,aG)=>match m5 P f&&ab.e4 aG with
    |true=>(inl f aG ⟨.emp,[],0,S.k,S.g⟩).eJ (Nz S o.dst) none
    |false=>.bad 32
   |none=>.bad (100+MG o)
def qS(P:Program)(N B:Nat)(T:List (Nat × bL))(inl:Nat→List ab→ao→aC)(ops:Array Oper)(o:Oper)(S:ao):aC:=
 match guardOf N ops S o with
 | .yes=>sc P N B T inl o S
 | .no=>match nu o with
  |false=>.cH .cj (S.put o.dst (.tp []))
  |true=>.bad 73
 | .on gs=>match lW S.k gs&& !(nu o)with
  |true=>match qJ P N {S with g:=hz gs S.g} o with
   |some r=>match hy S.k r.xs&&r.v.lt (S.k+r.xs.length)with
    |true=>emit S.k r.xs (r.ns.map (qN gs)) (.cH .cj ((S.e2 S.k r.xs).put o.dst (kh gs r.v)))
    |false=>.bad 35
   |none=>tB (r7 S o.dst) gs (sc P N B T inl o {S with g:=hz gs S.g}) S.g
  |false=>.bad 36
 | .bad=>.bad 37
def tJ(P:Program)(N:Nat)(ops:Array Oper)(o:Oper)(S:ao)(k:ao→aC):aC:=
 match guardOf N ops S o with
 | .yes=>match sb P N S o with
  |some r=>match hy S.k r.xs&&r.v.lt (S.k+r.xs.length)with
   |true=>emit S.k r.xs r.ns (k ((S.e2 S.k r.xs).put o.dst r.v))
   |false=>.bad 30
  |none=>.bad 76
 | .no=>k (S.put o.dst (.tp []))
 | .on gs=>match lW S.k gs with
  |true=>match sb P N {S with g:=hz gs S.g} o with
   |some r=>match hy S.k r.xs&&r.v.lt (S.k+r.xs.length)with
    |true=>emit S.k r.xs (r.ns.map (qN gs)) (k ((S.e2 S.k r.xs).put o.dst (kh gs r.v)))
    |false=>.bad 35
   |none=>.bad 76
  |false=>.bad 36
 | .bad=>.bad 37
def pop(P:Program)(N:Nat)(S:ao)(o:Oper):Bool:=
 match o.op with
 | .move _=>true
 | .assign _=>true
 | .nilCheck _=>true
 | .fieldAddr _ _ _=>true
 | .indexAddr _ _ _=>true
 | .slice t x lo hi none=>(Fz P N S t (S.aZ N x) lo hi).isSome
 |_=>false
def yh(P:Program)(N:Nat)(ops:Array Oper)(S:ao)(o:Oper):Bool:=
 match guardOf N ops S o with
 | .yes=>pop P N S o
 | .no=>true
 | .on gs=>pop P N {S with g:=hz gs S.g} o
 | .bad=>false
def zhm(P:Program)(N:Nat)(ops:Array Oper)(wr m:List Bool)(S:ao)(i:Nat):Bool:=
 match ops[i]? with
 |some o=>(Region.free .any ops m.toArray i&&(!(wr.getD i false)&&(yh P N ops S o||Fy ops wr m i)))&&(match guardOf N ops S o with
  | .yes=>(sb P N S o).isSome
  | .no=>true
  | .on gs=>(sb P N {S with g:=hz gs S.g} o).isSome
  | .bad=>false)
 |none=>false
def UP(P:Program)(N:Nat)(ops:Array Oper)(wr m:List Bool)(S:ao):List Nat→Option Nat
 |[]=>none
 |i::r=>match zhm P N ops wr m S i with
  |true=>some i
  |false=>UP P N ops wr m S r
def FA(N:Nat)(ops:Array Oper)(S:ao)(o:Oper):List (ab × Bool):=
 match guardOf N ops S o with
 | .on gs=>gs
 |_=>[]
def NA:b5→b5→Bool
 | .d1 i f x,.d1 j g y=>Nat.beq i j&&(decide (f=g)&&eI x y)
 | .d2 i f x y,.d2 j g u v=>(Nat.beq i j&&decide (f=g))&&(eI x u&&eI y v)
 | .rg i b,.rg j c=>Nat.beq i j&&eI b c
 | .dU g b,.dU h c=>eI g h&&decide (b=c)
 |_,_=>false
def FB:List b5→List b5→Bool
 |[],[]=>true
 |x::l,y::m=>NA x y&&FB l m
 |_,_=>false
def NB:bG→bG→Bool
 | .dj t l,.dj u m=>Nat.beq t u&&pz l m
 | .rw t c x,.rw u d y=>Nat.beq t u&&(decide (c=d)&&eI x y)
 | .it u x p,.it v y q=>decide (u=v)&&(eI x y&&eI p q)
 |_,_=>false
def FC:List (Nat × bG)→List (Nat × bG)→Bool
 |[],[]=>true
 |(i,x)::l,(j,y)::m=>Nat.beq i j&&(NB x y&&FC l m)
 |_,_=>false
def Bk:ba ab→ba ab→Bool
 | .emp,.emp=>true
 | .n v l r,.n w m s=>(match v,w with
  |some x,some y=>eI x y
  |none,none=>true
  |_,_=>false)&&(Bk l m&&Bk r s)
 |_,_=>false
def NC(S U:ao):Bool:=(Bk S.l U.l&&FC S.h U.h)&&((Nat.beq S.n U.n&&Nat.beq S.k U.k)&&FB S.g U.g)
def ND:bK→bK→Bool
 | .ca j aG,.ca i cC=>Nat.beq j i&&pz aG cC
 | .rT rs p i,.rT qs q j=>decide (rs=qs)&&(Nat.beq p q&&Nat.beq i j)
 | .f1 f x,.f1 g y=>decide (f=g)&&eI x y
 | .f2 f x y,.f2 g u v=>decide (f=g)&&(eI x u&&eI y v)
 | .xo k v m x,.xo bk bh vN iN=>(decide (k=bk)&&decide (v=bh))&&(eI m vN&&eI x iN)
 | .vj k v m x,.vj bk bh vN iN=>(decide (k=bk)&&decide (v=bh))&&(eI m vN&&eI x iN)
 |_,_=>false
def NF:ff→ff→Bool
 | .f2 n f x y,.f2 m g u v=>(Nat.beq n m&&decide (f=g))&&(eI x u&&eI y v)
 | .ca j aG,.ca i cC=>Nat.beq j i&&pz aG cC
 | .nth n x,.nth m y=>Nat.beq n m&&eI x y
 |_,_=>false
def qT:aC→aC→Bool
 | .cH .cj S,.cH .cj U=>NC S U
 | .lt i x t,.lt j y u=>Nat.beq i j&&(ND x y&&qT t u)
 | .eG n t,.eG m u=>NF n m&&qT t u
 |_,_=>false
def Bl:List aC→aC
 |t::r=>match r.all (qT t)with
  |true=>t
  |false=>.bad 71
 |[]=>.bad 71
def qU(P:Program)(N B:Nat)(T:List (Nat × bL))(inl:Nat→List ab→ao→aC)(ops:Array Oper)(wr:List Bool):Nat→List Bool→ao→aC
 |0,m,S=>match Region.ready .any ops m.toArray with
  |[]=>.cH .cj S
  |_=>.bad 70
 |n+1,m,S=>match Region.ready .any ops m.toArray with
  |[]=>.cH .cj S
  |i::rd=>match UP P N ops wr m S (i::rd)with
   |some j=>match ops[j]?,(Region.ready .any ops m.toArray).contains j&&(Region.free .any ops m.toArray j&& !(wr.getD j false))with
    |some o,true=>match yh P N ops S o||Fy ops wr m j with
     |true=>tJ P N ops o S (qU P N B T inl ops wr n (m.set j true))
     |false=>.bad 79
    |_,_=>.bad 77
   |none=>match rd,ops[i]? with
    |[],some o=>match decide (wr.getD i false=nu o)with
     |true=>qL N S o.dst (FA N ops S o) (qS P N B T inl ops o S) (qU P N B T inl ops wr n (m.set i true))
     |false=>.bad 78
    |_,_=>Bl ((i::rd).map fun j=>match ops[j]? with
     |some o=>match decide (wr.getD j false=nu o)with
      |true=>qL N S o.dst (FA N ops S o) (qS P N B T inl ops o S) (qU P N B T inl ops wr n (m.set j true))
      |false=>.bad 78
     |none=>.bad 77)
def NG(P:Program)(N B:Nat)(T:List (Nat × bL))(inl:Nat→List ab→ao→aC)(ops:Array Oper)(S:ao):aC:=
 match P.follows .mixedOrders&&Region.noSelect ops with
 |true=>qU P N B T inl ops (ops.toList.map nu) ops.size (List.replicate ops.size false) S
 |false=>.bad 75
section
variable {P:Program} {G:a8} {N B:Nat} {M:List aR} {T:List (Nat × bL)} {inl:Nat→List ab→ao→aC}
theorem zhn{v:ab}{e:Env}(h:yg v=true): ∃c,v.den G e= .av (.v c):=by
 unfold yg at h
 split at h
 ·rename_i ag;exact⟨_,fY ag⟩
 ·rename_i ag;exact⟨_,fY ag⟩
 ·rename_i ag;exact⟨_,fY ag⟩
 ·cases h
theorem zho{t:TypeId}{n:Nat}(h:mi P t=some n):scalar P t=false:=by
 unfold mi at h
 unfold scalar
 split at h<;>simp_all
theorem jR.sd{ops:Array Oper}{o:Oper}{s:aP}{v:aD}(h:mz P G o s v)(ah:dO ops s o=some true):jR P G ops o s (s.put o.dst v):=by
 intro E a w ⟨β,ro,ag⟩
 have hw:=n2 (ops:=ops) ⟨β,ro,ag⟩ ah
 obtain⟨c,aa,ae⟩:=h E a w β ro ag
 exact⟨c,.inl ⟨hw,fun cK _=>aa cK⟩,β,ro,ag.put _ _ _ ae⟩
theorem UQ{o:Oper}{S:ao}{t:TypeId}{x i:Operand}{r:dt}{e:Env}(an:o.op= .indexAddr t x i)(h:Nx P S t (S.aZ N x) (S.aZ N i)=some r)(hf:S.cu e)(hx: ∀(j:Nat) (x:bK),r.xs[j]? =some x→Env.at e (S.k+j)=x.den M e)(hn: ∀n∈r.ns,n.ok M e):mz P G o (S.den G N B e) (r.v.den G e):=by
 unfold Nx at h
 split at h
 ·rename_i k n c hi lU hc
  split at h
  ·rename_i ad
   cases h
   have ad:=Nat.eq_of_beq_eq_true ad
   rw[ad]at lU
   have hq:aJ G (S.den G N B e) i=_:=(bI hf i).trans (jx hi)
   obtain⟨hd,AI⟩:=Et (G:=G) (e:=e) hc;obtain⟨g1,g2⟩:=xz hf hi hn
   have:=SE c _ k _ an lU hq ((bI hf x).trans hd) g1 g2
   have aM:Env.at e S.k=_:=hx 0 _ rfl
   have aa:=Ta (G:=G) (x:=List.getD ((S.aZ N x).az e (.li c)) (Int.toNat ((S.aZ N i).az e (.int k))) (aA c)) aM
   show mz P G o _ ((ab.ip c S.k 0).den G e);rw[aa];exact this
  ·cases h
 ·cases h
theorem zhp{o:Oper}{s:aP}(t:TypeId)(x i:Operand)(an:o.op= .indexAddr t x i){n:Nat}(aH:j7 P t=some n){k:IntKind}{j:Nat}(hi:aJ G s i= .av (.v (.int k (j:Int)))){p:aD}(ak:mo s.heap n j (aJ G s x)=some p):
 mz P G o s p:=
 fun _ a w β ro ag=>by
  obtain⟨cX,len,cap,hc,af,dB⟩:=RD ag.heap (ag.eval x) ak;obtain⟨e,hu,bN⟩:=zU aH;refine⟨_,fun cK=>?_,dB⟩
  have oO:(0:Int)≤j∧(j:Int)<len:=⟨by omega,by omega⟩
  simp[execOp,an,hc,ag.ef hi,Instr.indexAt,asIntOf,run_underlying hu,af,bN]
theorem UR{o:Oper}{S:ao}{t:TypeId}{x i:Operand}{id:Nat}{r:dt}{e:Env}(an:o.op= .indexAddr t x i)(bd:S.aZ N x= .aO id)(h:Nw P S t id (S.aZ N i)=some r)(hf:S.cu e)(hx: ∀(j:Nat) (x:bK),r.xs[j]? =some x→Env.at e (S.k+j)=x.den M e)(hn: ∀n∈r.ns,n.ok M e):mz P G o (S.den G N B e) (r.v.den G e):=by
 unfold Nw at h
 split at h
 ·rename_i k n bD c y hi lU ah
  split at h
  ·rename_i ad
   cases h
   have ad:=Nat.eq_of_beq_eq_true ad
   have hq:aJ G (S.den G N B e) i=_:=(bI hf i).trans (jx hi)
   obtain⟨g1,g2⟩:=xz hf hi hn;obtain⟨j,af⟩: ∃j:Nat,(S.aZ N i).az e (.int k)=(j:Int):=⟨_,(Int.toNat_of_nonneg g1).symm⟩;rw[af]at hq g2
   have g2:(j:Int)<((List.length (y.az e (.li c)):Nat):Int):=g2
   have:=zhp (P:=P) (o:=o) t x i an lU hq (p:=.cW id j 0) (by
    rw[bI hf,bd];simp only[ab.den,mo,ao.den,ei,ah,Option.map_some,bG.den]
    rw[if_pos ⟨ad.symm,by rw[List.length_map];omega⟩])
   simp only[ab.den,lT hi,af,Int.toNat_natCast];exact this
  ·cases h
 ·cases h
theorem US{o:Oper}{s:aP}(t:TypeId)(x i:Operand)(an:o.op= .indexAddr t x i){len n:Nat}(aH:uV P t=some (len,n)){k:IntKind}{j:Nat}(hi:aJ G s i= .av (.v (.int k (j:Int))))(af:j<len)
 {cs:List aD}(dJ:fp s.heap (aJ G s x)=some cs){p:aD}(ak:iP (j*n) (aJ G s x)=some p):
 mz P G o s p:=
 fun _ a w β ro ag=>by
  obtain⟨cX,hc,dB⟩:=QX ak dJ (ag.eval x);unfold uV at aH
  split at aH
  ·rename_i m e hu
   cases uW:P.info? e with
   |none=>simp[uW]at aH
   |some zdw=>
    simp[uW]at aH;obtain⟨rfl,rfl⟩:=aH;refine⟨_,fun cK=>?_,dB⟩
    simp[execOp,an,hc,ag.ef hi,Instr.indexAt,asIntOf,run_underlying hu,Instr.sureAddr,af,sizeOf,typeInfo,uW]
  ·cases aH
theorem UT{o:Oper}{S:ao}{t:TypeId}{x i:Operand}{id off:Nat}{r:dt}{e:Env}(an:o.op= .indexAddr t x i)(bd:S.aZ N x= .ee id off)(h:Ny P S t id off (S.aZ N i)=some r)(hf:S.cu e)(hn: ∀n∈r.ns,n.ok M e):mz P G o (S.den G N B e) (r.v.den G e):=by
 unfold Ny at h
 split at h
 ·rename_i k len n l hi a1 aq
  have hq:aJ G (S.den G N B e) i=_:=(bI hf i).trans (jx hi)
  have dJ:=AE (G:=G) (N:=N) (B:=B) (e:=e) aq
  have jy:aJ G (S.den G N B e) x=(ab.ee id off).den G e:=by rw[bI hf,bd]
  rw[←jy]at dJ
  split at h
  ·rename_i bk j af
   split at h
   ·rename_i p cM ak
    cases h;refine US t x i an a1 (k:=bk) (j:=j) (by rw[bI hf,af];rfl) (e7 cM) dJ ?_
    have ai:=AF (G:=G) (e:=e) ak
    rw[←ai,jy];rfl
   ·cases h
  ·cases h
   have jr:0≤cm ((S.aZ N i).dyn e)∧cm ((S.aZ N i).dyn e)<(len:Int):=Ef hf hn
   obtain⟨j,af⟩: ∃j:Nat,cm ((S.aZ N i).dyn e)=(j:Int):=⟨_,(Int.toNat_of_nonneg jr.1).symm⟩;rw[←lT hi,af]at hq;refine US t x i an a1 hq (by omega) dJ ?_
   rw[jy];simp only[ab.den,iP,af,Int.toNat_natCast]
 ·cases h
theorem UU{o:Oper}{S:ao}{t:TypeId}{x:Operand}{lo hi:Option Operand}{r:dt}{e:Env}(an:o.op= .slice t x lo hi none)(h:Fz P N S t (S.aZ N x) lo hi=some r)(hf:S.cu e)(hx: ∀(j:Nat) (x:bK),r.xs[j]? =some x→Env.at e (S.k+j)=x.den M e)(hn: ∀n∈r.ns,n.ok M e):mz P G o (S.den G N B e) (r.v.den G e):=by
 unfold Fz at h
 split at h
 ·rename_i l h' c n aq bb ag lU
  split at h
  ·rename_i ad
   cases h;rw[Nat.eq_of_beq_eq_true ad]at lU
   have aM:Env.at e S.k=_:=hx 0 _ rfl
   simp only[ab.den,aM,bK.den,cB];exact SS c _ an lU ((bI hf x).trans (fY ag)) (xH hf aq) (xH hf bb) (hn _ (List.mem_singleton.2 rfl))
  ·cases h
 ·cases h
theorem zhq{ops:Array Oper}{o:Oper}{S:ao}{r:dt}{e:Env}(h:sb P N S o=some r)(hf:S.cu e)(hx: ∀(j:Nat) (x:bK),r.xs[j]? =some x→Env.at e (S.k+j)=x.den M e)(hn: ∀n∈r.ns,n.ok M e)(ah:dO ops (S.den G N B e) o=some true):
 jR P G ops o (S.den G N B e) ((S.den G N B e).put o.dst (r.v.den G e)):=by
 have key:(match qJ P N S o with
  |some r=>match yg r.v with
   |true=>some r
   |false=>none
  |none=>none)=some r→jR P G ops o (S.den G N B e) ((S.den G N B e).put o.dst (r.v.den G e)):=fun h=>by
  split at h
  ·rename_i eQ aw
   split at h
   ·rename_i hc
    cases h
    have dD:=vu (G:=G) (B:=B) (M:=M) aw e hf hx hn
    obtain⟨c,zhr⟩:=zhn (G:=G) (e:=e) hc;rw[zhr]at dD⊢;exact jR.rM dD ah
   ·cases h
  ·cases h
 unfold sb at h
 split at h
 ·rename_i x an
  cases h
  have:ka P G o (S.den G N B e)=some ((S.aZ N x).den G e):=by unfold ka;rw[an,←bI hf]
  exact(hr.val this ah).l
 ·rename_i x an
  cases h
  have:ka P G o (S.den G N B e)=some ((S.aZ N x).den G e):=by unfold ka;rw[an,←bI hf]
  exact(hr.val this ah).l
 ·rename_i x an
  split at h
  ·rename_i ak
   cases h
   have:ka P G o (S.den G N B e)=some ((S.aZ N x).den G e):=by
    unfold ka;rw[an];simp only[bI hf,vo ak]
   exact(hr.val this ah).l
  ·cases h
 ·rename_i t x f an
  split at h
  ·rename_i k aj ak
   split at h
   ·rename_i p ai
    cases h
    have:ka P G o (S.den G N B e)=some (p.den G e):=by
     unfold ka;rw[an];simp only[aj,bI hf,vo ak,AF ai]
    exact(hr.val this ah).l
   ·cases h
  ·cases h
 ·rename_i t x an
  split at h
  ·rename_i l aq
   split at h
   ·rename_i v aw
    cases h
    have hc:=AE (G:=G) (N:=N) (B:=B) (e:=e) aq
    have:DV P G o (S.den G N B e)=some (v.den G e):=by
     unfold DV;rw[an];simp only[bI hf,hc]
     rcases Ue (G:=G) (e:=e) aw with⟨n,g1,g2,g3,g4⟩|⟨g1,g2,eQ,g3⟩
     ·cases l with
      |nil=>simp at g2;omega
      |cons y l=>
       have ai:scalar P t=false:=zho g1
       rw[g4];simp only[ab.bQ,ai,g1];rw[if_pos ⟨by simpa[me]using g2,g3⟩]
     ·subst g3
      simp only[ab.bQ,g2]
    exact jR.load this ah
   ·cases h
  ·exact key h
 ·rename_i t x i an
  split at h
  ·rename_i id bd
   exact jR.sd (UR an bd h hf hx hn) ah
  ·rename_i id off bd
   exact jR.sd (UT an bd h hf hn) ah
  ·exact jR.sd (UQ an h hf hx hn) ah
 ·rename_i t x lo hi an
  split at h
  ·rename_i eQ ai
   cases h;exact jR.sd (UU an ai hf hx hn) ah
  ·exact key h
 ·exact key h
mutual
theorem UW{e:Env}: ∀{x:ab},ab.pure x=true→fF (x.den G e)=true:=fun {x} h=>by
 cases x with
 |ch l=>simp only[ab.den,fF];exact yi (l:=l) h
 |tp l=>simp only[ab.den,fF];exact yi (l:=l) h
 |fn f a b=>
  simp only[ab.pure,Bool.and_eq_true]at h;simp only[ab.den,fF,yi h.1,yi h.2,Bool.and_self]
 |ee k o=>cases h
 |gN k x o=>cases h
 |gX k o x n=>cases h
 |cC k n=>cases h
 |fj g i o=>cases h
 |aO k=>cases h
 |gZ k=>cases h
 |fJ g b x=>cases h
 |lR g o=>cases h
 |top=>cases h
 |_=>rfl
theorem yi{e:Env}: ∀{l:List ab},ab.e4 l=true→e4 (ab.bQ G e l)=true:=fun {l} h=>by
 match l with
 |[]=>rfl
 |x::r=>
  simp only[ab.e4,Bool.and_eq_true]at h;simp only[ab.bQ,e4,UW h.1,yi h.2,Bool.and_self]
end
def tK(G:a8)(N B:Nat)(M:List aR)(t:aC)(e:Env)(aX:Nat):aP→Prop:=fun st=>
 ∃aT aB,run M t e=some (.cj,aT,aB)∧aT.ct∧aT.cu aB∧bX aX e aB∧aX≤aT.k∧st=aT.den G N B aB
theorem UX(bW:fP P G M inl){ops:Array Oper}{o:Oper}{S:ao}{e:Env}(ad:S.ct)(hf:S.cu e)(ai:(sc P N B T inl o S).safe M e)(ah:dO ops (S.den G N B e) o=some true):
 (nu o=true→Nv P G ops o (S.den G N B e) (tK G N B M (sc P N B T inl o S) e S.k))∧(nu o=false→kj P G ops o (S.den G N B e) (tK G N B M (sc P N B T inl o S) e S.k)):=by
 refine⟨fun hw=>?_,fun hw=>?_⟩
 ·unfold sc at ai⊢
  rw[hw]at ai⊢;simp only at ai⊢
  split at ai
  ·rename_i r aI
   split at ai
   ·rename_i hc
    simp only[Bool.and_eq_true]at hc;obtain⟨gV,gv⟩:=mG ai
    have bR:bX S.k e (df M e S.k r.xs):=jT (Nat.le_refl _)
    have dD:=TT (G:=G) (M:=M) aI (df M e S.k r.xs) (ik bR ad.g hf) (jz hc.1) gV
    rw[lv bR ad]at dD;obtain⟨cK,dI⟩:=TZ (M:=M) (o:=o) ad hf hc.1 hc.2.1 hc.2.2;exact fun E a w ag=>⟨n2 ag ah,fun K Q hK=>dD E a w ag K Q fun bc w' dX=>hK _ ⟨(r.st S o.dst).e2 S.k r.xs,_,lV,cK,dI,bR,Nat.le_add_right _ _,rfl⟩ bc w' dX⟩
   ·exact ai.elim
  ·exact ai.elim
 ·unfold sc at ai⊢
  rw[hw]at ai⊢;simp only at ai⊢
  split at ai
  ·rename_i r aw
   split at ai
   ·rename_i hc
    simp only[Bool.and_eq_true]at hc;obtain⟨gV,gv⟩:=mG ai;obtain⟨b6,a2,a3⟩:=r8 (M:=M) (G:=G) (N:=N) (B:=B) ad hf hc.1
    have bR:bX S.k e (df M e S.k r.xs):=jT (Nat.le_refl _)
    have dD:=vu (G:=G) (B:=B) (M:=M) aw (df M e S.k r.xs) (ik bR ad.g hf) (jz hc.1) gV
    rw[lv bR ad]at dD;exact kj.v dD ah ⟨(S.e2 S.k r.xs).put o.dst r.v,_,lV,jd b6 hc.2,je a2,bR,by rw[jf];exact Nat.le_add_right _ _,by rw[fb,a3]⟩
   ·exact ai.elim
  ·split at ai
   ·rename_i f aG vd
    split at ai
    ·rename_i gC
     simp only[Bool.and_eq_true]at gC;obtain⟨gC,NH⟩:=gC;obtain⟨g1,g2,g3⟩:=jg (inl f aG ⟨.emp,[],0,S.k,S.g⟩) none ai;obtain⟨p,q',args,mW,vx,bH⟩:=T1 (G:=G) (B:=B) vd hf ad
     have Hy:(⟨.emp,[],0,S.k,S.g⟩:ao).ct:=⟨fun i x hx=>by simp[ba.get]at hx,rfl,ad.g⟩
     have hp:=bW f _ ⟨.emp,[],0,S.k,S.g⟩ e Hy bH hf g1
     have yj:=yi (G:=G) (e:=e) NH
     rw[mW]at hp yj;refine kj.call vx gC ah yj hp fun r bV ⟨C,ay,aW,dq,c8,gj,iO,kD,jI⟩=>?_
     have ak:=(g3 C ay aW).1
     have kg:ab.pure (C.at 0)=true:=by
      unfold Nz at ak
      split at ak
      ·assumption
      ·exact ak.elim
     refine⟨by rw[dq];exact UW kg,(⟨S.l,S.h,S.n,C.k,C.g⟩:ao).put o.dst (C.at 0),ay,?_,?_,je iO,kD,by rw[jf];exact jI,?_⟩
     ·rw[g2,aW]
      simp only[iB,Nz,kg];rfl
     ·refine jd ⟨fun i x hx=>gE jI (ad.l i x hx),tk jI ad.h,gj.g⟩ ?_
      show(C.at 0).lt C.k=true;unfold ao.at
      cases hD:C.l.get 0 with
      |none=>rfl
      |some y=>exact gj.l 0 y hD
     ·rw[fb,dq]
      have:=lv (G:=G) (N:=N) (B:=B) (S:=S) kD ad
      have ae:(ao.mk S.l S.h S.n C.k C.g).den G N B ay=S.den G N B e:=this
      rw[ae]
    ·exact ai.elim
   ·exact ai.elim
theorem zhs{o:Oper}{S:ao}{e:Env}(ad:S.ct)(hf:S.cu e):tK G N B M (.cH .cj (S.put o.dst (.tp []))) e S.k ((S.den G N B e).put o.dst (.tuple [])):=
 ⟨S.put o.dst (.tp []),e,rfl,jd ad rfl,je hf,bX.refl _ _,by rw[jf];exact Nat.le_refl _,by rw[fb];rfl⟩
theorem kj.mono{ops:Array Oper}{o:Oper}{s:aP}{A UY:aP→Prop}(h:kj P G ops o s A)(dp: ∀t,A t→UY t):kj P G ops o s UY:=fun E a w ag=>by
 rcases h E a w ag with⟨aa,ae⟩|⟨aa,t,ae,au⟩
 ·exact .inl ⟨aa,fun K Q hK=>ae K Q fun t aH=>hK t (dp t aH)⟩
 ·exact .inr ⟨aa,t,dp t ae,au⟩
theorem UZ(bW:fP P G M inl){ops:Array Oper}{o:Oper}{S:ao}{e:Env}(ad:S.ct)(hf:S.cu e)(ai:(qS P N B T inl ops o S).safe M e):
 (nu o=true→Nv P G ops o (S.den G N B e) (tK G N B M (qS P N B T inl ops o S) e S.k))∧(nu o=false→kj P G ops o (S.den G N B e) (tK G N B M (qS P N B T inl ops o S) e S.k)):=by
 have ah:=MM (G:=G) (N:=N) (B:=B) (ops:=ops) (o:=o) hf
 unfold qS at ai⊢
 cases iX:guardOf N ops S o with
 |yes=>
  rw[iX]at ah ai;exact UX bW ad hf ai ah
 |no=>
  rw[iX]at ah ai;simp only at ai⊢
  split at ai
  ·rename_i hw
   exact⟨fun h=>(by rw[hw]at h;cases h),fun _=>.no ah (zhs ad hf)⟩
  ·exact ai.elim
 |bad=>rw[iX]at ai;exact ai.elim
 |on gs=>
  rw[iX]at ah ai;simp only at ai⊢;obtain⟨g1,g2⟩:=ah
  split at ai
  ·rename_i U0
   simp only[Bool.and_eq_true,Bool.not_eq_true']at U0;obtain⟨kN,hw⟩:=U0;refine⟨fun h=>(by rw[hw]at h;cases h),fun _=>?_⟩
   split at ai
   ·rename_i q aw
    split at ai
    ·rename_i hc
     simp only[Bool.and_eq_true]at hc;obtain⟨gV,gv⟩:=mG ai;obtain⟨b6,a2,a3⟩:=r8 (M:=M) (G:=G) (N:=N) (B:=B) ad hf hc.1
     have bR:bX S.k e (df M e S.k q.xs):=jT (Nat.le_refl _)
     have hX:fN (df M e S.k q.xs) gs=fN e gs:=E9 bR kN
     have aj:S.k≤S.k+q.xs.length:=Nat.le_add_right _ _
     have fD:(kh gs q.v).lt (S.k+q.xs.length)=true:=E7 (E8 aj kN) hc.2
     have hN: ∀t,t=(S.den G N B e).put o.dst ((kh gs q.v).den G (df M e S.k q.xs))→tK G N B M (emit S.k q.xs (q.ns.map (qN gs)) (.cH .cj ((S.e2 S.k q.xs).put o.dst (kh gs q.v)))) e S.k t:=fun t aH=>
      ⟨(S.e2 S.k q.xs).put o.dst (kh gs q.v),_,lV,jd b6 fD,je a2,bR,by rw[jf];exact Nat.le_add_right _ _,by rw[fb,a3,aH]⟩
     cases fu:fN e gs with
     |true=>
      have h5:=x2 hf fu
      have ih:=x1 ad kN
      have dD:=vu (G:=G) (B:=B) (M:=M) aw (df M e S.k q.xs) (ik bR ih.g h5) (jz hc.1) fun n hn=>Fc (gV (qN gs n) (List.mem_map.2 ⟨n,hn,rfl⟩)) (hX.trans fu)
      have x4:({S with g:=hz gs S.g}:ao).den G N B (df M e S.k q.xs)=S.den G N B e:=lv (S:={S with g:=hz gs S.g}) bR ih
      rw[x4]at dD;exact kj.v dD (g1 fu) (hN _ (by rw[Fa (hX.trans fu)]))
     |false=>exact kj.no (g2 fu) (hN _ (by rw[Fb (hX.trans fu)]))
    ·exact ai.elim
   ·cases fu:fN e gs with
    |false=>
     obtain⟨h2,c1,dg,gY⟩:=MP (M:=M) (x:=sc P N B T inl o {S with g:=hz gs S.g}) (y:=r7 S o.dst) (l:=S.g) fu kN ad.g hf
     obtain⟨aT,r4,pD,MS,MT,MU⟩:=T8 (G:=G) (N:=N) (B:=B) (dst:=o.dst) ad dg gY;exact kj.no (g2 fu) ⟨aT,e,by rw[c1,r4];rfl,pD,MS,bX.refl _ _,MT,MU.symm⟩
    |true=>
     have h5:=x2 hf fu
     have ih:=x1 ad kN
     obtain⟨f1,f2⟩:=MO (M:=M) (x:=sc P N B T inl o {S with g:=hz gs S.g}) (y:=r7 S o.dst) (l:=S.g) fu
     refine kj.mono ((UX bW (S:={S with g:=hz gs S.g}) ih h5 (f2 ai) (g1 fu)).2 hw) fun t ⟨aT,aB,aa,ae⟩=>⟨aT,aB,?_,ae⟩
     rw[f1];exact aa
  ·exact ai.elim
theorem U1{ops:Array Oper}{o:Oper}{S:ao}{e:Env}{k:ao→aC}(X:aP→aP→Prop)(c:ao→Prop)
 (aq: ∀(S:ao) (r:dt) (e:Env),c S→sb P N S o=some r→S.cu e→(∀(j:Nat) (x:bK),r.xs[j]? =some x→Env.at e (S.k+j)=x.den M e)→(∀n∈r.ns,n.ok M e)→dO ops (S.den G N B e) o=some true→X (S.den G N B e) ((S.den G N B e).put o.dst (r.v.den G e)))
 (aj: ∀s,dO ops s o=some false→X s (s.put o.dst (.tuple [])))(hD:guardOf N ops S o= .yes→c S)(Dy: ∀gs,guardOf N ops S o= .on gs→c {S with g:=hz gs S.g})(ad:S.ct)(hf:S.cu e)(ai:(tJ P N ops o S k).safe M e):
 ∃aT aB,aT.ct∧aT.cu aB∧bX S.k e aB∧S.k≤aT.k∧(k aT).safe M aB∧run M (tJ P N ops o S k) e=run M (k aT) aB∧X (S.den G N B e) (aT.den G N B aB):=by
 have ah:=MM (G:=G) (N:=N) (B:=B) (ops:=ops) (o:=o) hf
 unfold tJ at ai⊢
 cases iX:guardOf N ops S o with
 |bad=>rw[iX]at ai;exact ai.elim
 |no=>
  rw[iX]at ah ai
  have:=aj _ ah
  exact⟨S.put o.dst (.tp []),e,jd ad rfl,je hf,bX.refl _ _,by rw[jf];exact Nat.le_refl _,ai,rfl,by rw[fb];exact this⟩
 |yes=>
  rw[iX]at ah ai;simp only at ai⊢
  split at ai
  ·rename_i q aw
   split at ai
   ·rename_i hc
    simp only[Bool.and_eq_true]at hc;obtain⟨gV,gv⟩:=mG ai;obtain⟨b6,a2,a3⟩:=r8 (M:=M) (G:=G) (N:=N) (B:=B) ad hf hc.1
    have bR:bX S.k e (df M e S.k q.xs):=jT (Nat.le_refl _)
    have hd:=lv (G:=G) (N:=N) (B:=B) bR ad
    have dD:=aq _ _ _ (hD iX) aw (ik bR ad.g hf) (jz hc.1) gV (by rw[hd];exact ah)
    rw[hd]at dD;exact⟨(S.e2 S.k q.xs).put o.dst q.v,_,jd b6 hc.2,je a2,bR,by rw[jf];exact Nat.le_add_right _ _,gv,lV,by rw[fb,a3];exact dD⟩
   ·exact ai.elim
  ·exact ai.elim
 |on gs=>
  rw[iX]at ah ai;simp only at ai⊢;obtain⟨g1,g2⟩:=ah
  split at ai
  ·rename_i kN
   split at ai
   ·rename_i q aw
    split at ai
    ·rename_i hc
     simp only[Bool.and_eq_true]at hc;obtain⟨gV,gv⟩:=mG ai;obtain⟨b6,a2,a3⟩:=r8 (M:=M) (G:=G) (N:=N) (B:=B) ad hf hc.1
     have bR:bX S.k e (df M e S.k q.xs):=jT (Nat.le_refl _)
     have hX:fN (df M e S.k q.xs) gs=fN e gs:=E9 bR kN
     have rm:S.k≤S.k+q.xs.length:=Nat.le_add_right _ _
     have fD:(kh gs q.v).lt (S.k+q.xs.length)=true:=E7 (E8 rm kN) hc.2
     refine⟨(S.e2 S.k q.xs).put o.dst (kh gs q.v),_,jd b6 fD,je a2,bR,by rw[jf];exact Nat.le_add_right _ _,gv,lV,?_⟩
     rw[fb,a3]
     cases fu:fN e gs with
     |true=>
      have h5:=x2 hf fu
      have ih:=x1 ad kN
      have x4:({S with g:=hz gs S.g}:ao).den G N B (df M e S.k q.xs)=S.den G N B e:=lv (S:={S with g:=hz gs S.g}) bR ih
      have dD:=aq _ _ _ (Dy gs iX) aw (ik bR ih.g h5) (jz hc.1) (fun n hn=>Fc (gV (qN gs n) (List.mem_map.2 ⟨n,hn,rfl⟩)) (hX.trans fu)) (by rw[x4];exact g1 fu)
      rw[x4]at dD;rw[Fa (hX.trans fu)];exact dD
     |false=>
      rw[Fb (hX.trans fu)];exact aj _ (g2 fu)
    ·exact ai.elim
   ·exact ai.elim
  ·exact ai.elim
theorem zht{ops:Array Oper}{o:Oper}{S:ao}{e:Env}{k:ao→aC}(ad:S.ct)(hf:S.cu e)(ai:(tJ P N ops o S k).safe M e):
 ∃aT aB,aT.ct∧aT.cu aB∧bX S.k e aB∧S.k≤aT.k∧(k aT).safe M aB∧run M (tJ P N ops o S k) e=run M (k aT) aB∧jR P G ops o (S.den G N B e) (aT.den G N B aB):=
 U1 (jR P G ops o) (fun _=>True) (fun _ _ _ _ aw hf hx hn ah=>zhq aw hf hx hn ah) (fun _ h=>(hr.skip h).l) (fun _=>trivial) (fun _ _=>trivial) ad hf ai
theorem hr.sd{ops:Array Oper}{o:Oper}{s:aP}{v:aD}(h:mz P G o s v)(ah:dO ops s o=some true):hr P G ops o s (s.put o.dst v):=by
 intro E a w ⟨β,ro,ag⟩
 have hw:=n2 (ops:=ops) ⟨β,ro,ag⟩ ah
 obtain⟨c,aa,ae⟩:=h E a w β ro ag
 exact⟨c,.inl ⟨hw,aa⟩,β,ro,ag.put _ _ _ ae⟩
theorem zhu{ops:Array Oper}{o:Oper}{S:ao}{r:dt}{e:Env}(ak:pop P N S o=true)(h:sb P N S o=some r)(hf:S.cu e)(hx: ∀(j:Nat) (x:bK),r.xs[j]? =some x→Env.at e (S.k+j)=x.den M e)(hn: ∀n∈r.ns,n.ok M e)(ah:dO ops (S.den G N B e) o=some true):
 hr P G ops o (S.den G N B e) ((S.den G N B e).put o.dst (r.v.den G e)):=by
 unfold sb at h
 unfold pop at ak
 split at h
 ·rename_i x an
  cases h
  have:ka P G o (S.den G N B e)=some ((S.aZ N x).den G e):=by unfold ka;rw[an,←bI hf]
  exact hr.val this ah
 ·rename_i x an
  cases h
  have:ka P G o (S.den G N B e)=some ((S.aZ N x).den G e):=by unfold ka;rw[an,←bI hf]
  exact hr.val this ah
 ·rename_i x an
  split at h
  ·rename_i aI
   cases h
   have:ka P G o (S.den G N B e)=some ((S.aZ N x).den G e):=by
    unfold ka;rw[an];simp only[bI hf,vo aI]
   exact hr.val this ah
  ·cases h
 ·rename_i t x f an
  split at h
  ·rename_i k aj aI
   split at h
   ·rename_i p ai
    cases h
    have:ka P G o (S.den G N B e)=some (p.den G e):=by
     unfold ka;rw[an];simp only[aj,bI hf,vo aI,AF ai]
    exact hr.val this ah
   ·cases h
  ·cases h
 ·rename_i t x an
  rw[an]at ak;cases ak
 ·rename_i t x i an
  split at h
  ·rename_i id bd
   exact hr.sd (UR an bd h hf hx hn) ah
  ·rename_i id off bd
   exact hr.sd (UT an bd h hf hn) ah
  ·exact hr.sd (UQ an h hf hx hn) ah
 ·rename_i t x lo hi an
  split at h
  ·rename_i eQ ai
   cases h;exact hr.sd (UU an ai hf hx hn) ah
  ·rename_i ai
   rw[an]at ak;simp only[ai,Option.isSome_none]at ak;cases ak
 ·rename_i aa ae au aQ bF cG ea
  split at ak
  ·rename_i x an;exact absurd an (aa x)
  ·rename_i x an;exact absurd an (ae x)
  ·rename_i x an;exact absurd an (au x)
  ·rename_i t x f an;exact absurd an (aQ t x f)
  ·rename_i t x i an;exact absurd an (cG t x i)
  ·rename_i t x lo hi an;exact absurd an (ea t x lo hi)
  ·cases ak
theorem zhv{ops:Array Oper}{o:Oper}{S:ao}{e:Env}{k:ao→aC}(ak:yh P N ops S o=true)(ad:S.ct)(hf:S.cu e)(ai:(tJ P N ops o S k).safe M e):
 ∃aT aB,aT.ct∧aT.cu aB∧bX S.k e aB∧S.k≤aT.k∧(k aT).safe M aB∧run M (tJ P N ops o S k) e=run M (k aT) aB∧hr P G ops o (S.den G N B e) (aT.den G N B aB):=
 U1 (hr P G ops o) (fun S=>pop P N S o=true) (fun _ _ _ hc aw hf hx hn ah=>zhu hc aw hf hx hn ah) (fun _ h=>hr.skip h)
  (fun ah=>by unfold yh at ak;rw[ah]at ak;exact ak) (fun gs ah=>by unfold yh at ak;rw[ah]at ak;exact ak) ad hf ai
theorem zhw{x y:b5}(h:NA x y=true):x=y:=by
 unfold NA at h
 split at h
 ·simp only[Bool.and_eq_true,decide_eq_true_eq]at h;rw[Nat.eq_of_beq_eq_true h.1,h.2.1,e1 h.2.2]
 ·simp only[Bool.and_eq_true,decide_eq_true_eq]at h
  obtain⟨⟨aa,ae⟩,au,aQ⟩:=h
  cases Nat.eq_of_beq_eq_true aa;cases ae;rw[e1 au,e1 aQ]
 ·simp only[Bool.and_eq_true]at h;rw[Nat.eq_of_beq_eq_true h.1,e1 h.2]
 ·simp only[Bool.and_eq_true,decide_eq_true_eq]at h;rw[e1 h.1,h.2]
 ·cases h
theorem U2: ∀{l m:List b5},FB l m=true→l=m
 |[],[],_=>rfl
 |[],_::_,h=>by cases h
 |_::_,[],h=>by cases h
 |x::l,y::m,h=>by
  simp only[FB,Bool.and_eq_true]at h;rw[zhw h.1,U2 h.2]
theorem zhx{x y:bG}(h:NB x y=true):x=y:=by
 unfold NB at h
 split at h
 ·simp only[Bool.and_eq_true]at h;rw[Nat.eq_of_beq_eq_true h.1,r2 h.2]
 ·simp only[Bool.and_eq_true,decide_eq_true_eq]at h;rw[Nat.eq_of_beq_eq_true h.1,h.2.1,e1 h.2.2]
 ·simp only[Bool.and_eq_true,decide_eq_true_eq]at h;rw[h.1,e1 h.2.1,e1 h.2.2]
 ·cases h
theorem U3: ∀{l m:List (Nat × bG)},FC l m=true→l=m
 |[],[],_=>rfl
 |[],_::_,h=>by cases h
 |_::_,[],h=>by cases h
 |(i,x)::l,(j,y)::m,h=>by
  simp only[FC,Bool.and_eq_true]at h;rw[Nat.eq_of_beq_eq_true h.1,zhx h.2.1,U3 h.2.2]
theorem NI: ∀{l m:ba ab},Bk l m=true→l=m
 | .emp,.emp,_=>rfl
 | .emp,.n _ _ _,h=>by cases h
 | .n _ _ _,.emp,h=>by cases h
 | .n v l r,.n w m s,h=>by
  simp only[Bk,Bool.and_eq_true]at h;rw[NI h.2.1,NI h.2.2]
  have aa:=h.1
  cases v<;>cases w<;>first|rfl|(cases aa;done)|(rw[e1 aa])
theorem zhy{S U:ao}(h:NC S U=true):S=U:=by
 obtain⟨b6,a2,a3,a4,a5⟩:=S
 obtain⟨gq,iq,hV,tv,xK⟩:=U
 simp only[NC,Bool.and_eq_true]at h
 obtain⟨⟨aa,ae⟩,⟨au,aQ⟩,bF⟩:=h
 rw[NI aa,U3 ae,Nat.eq_of_beq_eq_true au,Nat.eq_of_beq_eq_true aQ,U2 bF]
theorem zhz{x y:bK}(h:ND x y=true):x=y:=by
 unfold ND at h
 split at h<;>(try simp only[Bool.and_eq_true,decide_eq_true_eq]at h)
 ·rw[Nat.eq_of_beq_eq_true h.1,r2 h.2]
 ·rw[h.1,Nat.eq_of_beq_eq_true h.2.1,Nat.eq_of_beq_eq_true h.2.2]
 ·obtain⟨aa,ae⟩:=h;subst aa;rw[e1 ae]
 ·obtain⟨aa,ae,au⟩:=h;subst aa;rw[e1 ae,e1 au]
 ·obtain⟨⟨aa,ae⟩,au,aQ⟩:=h;subst aa ae;rw[e1 au,e1 aQ]
 ·obtain⟨⟨aa,ae⟩,au,aQ⟩:=h;subst aa ae;rw[e1 au,e1 aQ]
 ·cases h
theorem zhA{x y:ff}(h:NF x y=true):x=y:=by
 unfold NF at h
 split at h<;>(try simp only[Bool.and_eq_true,decide_eq_true_eq]at h)
 ·obtain⟨⟨aa,ae⟩,au,aQ⟩:=h;subst ae;rw[Nat.eq_of_beq_eq_true aa,e1 au,e1 aQ]
 ·rw[Nat.eq_of_beq_eq_true h.1,r2 h.2]
 ·rw[Nat.eq_of_beq_eq_true h.1,e1 h.2]
 ·cases h
theorem zhB: ∀{t u:aC},qT t u=true→t=u:=fun {t}=>by
 induction t with
 |cH x S=>
  intro u h;unfold qT at h
  split at h<;>first|(cases h;done)|skip
  all_goals rename_i heq
  all_goals first|(cases heq;rw[zhy h];done)|cases heq
 |lt i x t aY=>
  intro u h
  cases u with
  |lt j y u=>
   simp only[qT,Bool.and_eq_true]at h;rw[Nat.eq_of_beq_eq_true h.1,zhz h.2.1,aY h.2.2]
  |_=>simp[qT]at h
 |eG n t aY=>
  intro u h
  cases u with
  |eG m u=>
   simp only[qT,Bool.and_eq_true]at h;rw[zhA h.1,aY h.2]
  |_=>simp[qT]at h
 |_=>intro u h;simp[qT]at h
theorem zhC{l:List aC}{e:Env}(h:(Bl l).safe M e): ∃S,Bl l=S∧∀t∈l,t=S:=by
 unfold Bl at h⊢
 split at h
 ·rename_i t r
  split at h
  ·rename_i ai
   refine⟨t,by simp only[ai],fun u hu=>?_⟩
   rcases List.mem_cons.1 hu with rfl|hu
   ·rfl
   ·exact(zhB (List.all_eq_true.1 ai u hu)).symm
  ·exact h.elim
 ·exact h.elim
theorem Bm(bW:fP P G M inl){L:List Oper}{wr:List Bool}(lp:Region.noSelect L.toArray=true){Q:Exit→aP→Prop}: ∀(n:Nat) (m:List Bool) {S:ao} {e:Env},S.ct→S.cu e→(qU P N B T inl L.toArray wr n m S).safe M e→(∀st,jB G N B M (qU P N B T inl L.toArray wr n m S) e S.k .normal st→Q .normal st)→fI P G L Q wr n m (S.den G N B e)
 |0,m,S,e,ad,hf,ai,ew=>by
  unfold qU at ai ew
  split at ai
  ·rename_i ag
   rw[ag]at ew;exact fI.done (ew _ ⟨.cj,S,e,rfl,trivial,cn.refl _,ad,hf,bX.refl _ _,Nat.le_refl _⟩) ag
  ·exact ai.elim
 |n+1,m,S,e,ad,hf,ai,ew=>by
  unfold qU at ai ew
  cases ag:Region.ready .any L.toArray m.toArray with
  |nil=>
   rw[ag]at ew;exact fI.done (ew _ ⟨.cj,S,e,rfl,trivial,cn.refl _,ad,hf,bX.refl _ _,Nat.le_refl _⟩) ag
  |cons i rd=>
   rw[ag]at ai ew;simp only at ai ew
   split at ai
   ·rename_i j lL
    rw[lL]at ew;simp only at ew
    split at ai
    ·rename_i o an hc
     rw[an,hc]at ew;simp only[Bool.and_eq_true,Bool.not_eq_true']at hc;simp only at ew
     split at ai
     ·rename_i yj
      rw[yj]at ew;simp only at ew
      cases U4:yh P N L.toArray S o with
      |true=>
       obtain⟨aT,aB,s1,s2,ky,kz,kA,kB,kX⟩:=zhv (G:=G) (B:=B) U4 ad hf ai;exact fI.zhi j (by simpa using an) kX (Bm bW lp n (m.set j true) s1 s2 kA fun st ak=>ew st (ak.sub kB ky kz)) lp hc.2.1 (by rw[ag];exact hc.1) hc.2.2
      |false=>
       rw[U4,Bool.false_or]at yj;obtain⟨aT,aB,s1,s2,ky,kz,kA,kB,kX⟩:=zht (G:=G) (B:=B) ad hf ai;exact fI.zhh j (by simpa using an) kX (Bm bW lp n (m.set j true) s1 s2 kA fun st ak=>ew st (ak.sub kB ky kz)) lp hc.2.1 (by rw[ag];exact hc.1) yj
     ·exact ai.elim
    ·exact ai.elim
   ·rename_i lL
    rw[lL]at ew;simp only at ew
    split at ai
    ·rename_i o an
     rw[an]at ew;simp only at ew
     split at ai
     ·rename_i qV
      rw[qV]at ew
      have qV:=of_decide_eq_true qV
      simp only at ew;obtain⟨t1,_,t3⟩:=Mv (G:=G) (B:=B) ad hf ai
      have next: ∀t,tK G N B M (qS P N B T inl L.toArray o S) e S.k t→fI P G L Q wr n (m.set i true) t:=fun t ⟨aT,aB,aa,ae,au,aQ,bF,cG⟩=>by
       subst cG;obtain⟨dP,bf,c1,dg,gY,pE,Bn,yk,NJ⟩:=t3 aT aB aa ae au aQ bF
       have:=Bm bW lp n (m.set i true) dg gY yk fun st ak=>ew st (ak.sub NJ pE Bn)
       exact fun E a w ag=>this E a w (c1 E G a w ag)
      obtain⟨ar,b7⟩:=UZ (G:=G) (B:=B) (T:=T) bW ad hf t1
      cases hw:nu o with
      |true=>exact fI.zhj (by simpa using an) ag (qV.trans hw) (ar hw) next
      |false=>exact fI.one (by simpa using an) ag (qV.trans hw) (b7 hw) next
     ·exact ai.elim
    ·rename_i _ rd _ _ gf
     have U5: ∀st,jB G N B M (Bl ((i::rd).map fun j=>match L.toArray[j]? with
      |some o=>match decide (wr.getD j false=nu o)with
       |true=>qL N S o.dst (FA N L.toArray S o) (qS P N B T inl L.toArray o S) (qU P N B T inl L.toArray wr n (m.set j true))
       |false=>.bad 78
      |none=>.bad 77)) e S.k .normal st→Q .normal st:=fun st ak=>ew st (by
      split
      ·rename_i cA lC;exact(gf cA rfl lC).elim
      ·exact ak)
     clear ew;obtain⟨U,sy,ec⟩:=zhC ai;rw[sy]at U5 ai;refine fI.any (by rw[ag];simp) fun j af=>?_
     rw[ag]at af
     have yl:=ec _ (List.mem_map.2 ⟨j,af,rfl⟩)
     split at yl
     ·rename_i o an
      split at yl
      ·rename_i qV
       have qV:=of_decide_eq_true qV
       have eX:(qL N S o.dst (FA N L.toArray S o) (qS P N B T inl L.toArray o S) (qU P N B T inl L.toArray wr n (m.set j true))).safe M e:=by rw[yl];exact ai
       obtain⟨t1,_,t3⟩:=Mv (G:=G) (B:=B) ad hf eX;refine⟨o,by simpa using an,tK G N B M (qS P N B T inl L.toArray o S) e S.k,fun t ⟨aT,aB,aa,ae,au,aQ,bF,cG⟩=>?_,fun E a w dB=>?_⟩
       ·subst cG
        obtain⟨dP,bf,c1,dg,gY,pE,Bn,yk,NJ⟩:=t3 aT aB aa ae au aQ bF
        have:=Bm bW lp n (m.set j true) dg gY yk fun st ak=>U5 st (by rw[←yl];exact ak.sub NJ pE Bn)
        exact fun E a w ag=>this E a w (c1 E G a w ag)
       ·obtain⟨ar,b7⟩:=UZ (G:=G) (B:=B) (T:=T) bW ad hf t1
        cases hw:nu o with
        |true=>
         obtain⟨y1,rY⟩:=ar hw E a w dB;exact .inl ⟨y1,fun K Q hK=>rY K Q fun t aH bc w' dX=>hK t aH bc w' dX (.inl (qV.trans hw))⟩
        |false=>
         rcases b7 hw E a w dB with⟨y1,rY⟩|⟨y1,rY⟩
         ·exact .inl ⟨y1,fun K Q hK=>rY K Q fun t aH bc w' dX aj=>hK t aH bc w' dX (.inr aj)⟩
         ·exact .inr ⟨qV.trans hw,y1,rY⟩
      ·rw[←yl]at ai;exact ai.elim
     ·rw[←yl]at ai;exact ai.elim
theorem zhD(bW:fP P G M inl):M0 P G N B M (NG P N B T inl):=by
 intro id ops S e ad hf ai
 have iY:ops=ops.toList.toArray:=by simp
 rw[iY]at ai⊢
 generalize ops.toList=L at ai⊢
 unfold NG at ai⊢
 split at ai
 ·rename_i hc
  simp only[Bool.and_eq_true]at hc;refine b2.zhl _ (Bm bW hc.2 _ _ ad hf ai fun st ak=>ak) hc.1 (by simp)
 ·exact ai.elim
def jH.all(P:Program)(T:List (Nat × bL)):jH:=⟨fun N B _=>Nq N B,fun N B inl=>NG P N B T inl⟩
theorem Hv:M5 P G M (jH.all P T):=fun _ bW _ _=>⟨zhd,zhD bW⟩
end
end Go.aL
namespace Go.aL
open Go
section
variable {P:Program} {G:a8} {f:FuncId} {args:List aD} {σ:Heap} {n:Nat} {R:aD→Heap→Prop}
theorem dG.arg{rP:List aD}(h:dG P G f args σ n R)(a1:fU rP args):dG P G f rP σ n R:=by
 intro w β ro ed aa ae au aQ bF
 refine h w β ro ed (by rw[aa,a1.at.1]) (fun i x hx=>?_) au aQ bF
 obtain⟨y,ax,ai⟩:=a1.at.2 i x hx
 exact ai _ _ _ _ _ _ (ae i y ax)
theorem dG.res{rq:aD→Heap→Prop}(h:dG P G f args σ n R)(aI: ∀r bV,R r bV→rq r bV):dG P G f args σ n rq:=by
 intro w β ro ed aa ae au aQ bF
 refine Calls.mono (h w β ro ed aa ae au aQ bF) fun e w' ⟨v,dH,eV,dM,ro',cJ,he,cG,mP⟩=>?_
 exact⟨v,dH,eV,dM,ro',cJ,he,aI _ _ cG,mP⟩
theorem lg(β:Nat→Value)(b:Nat): ¬Own ([]:Heap) β b:=fun⟨_,_,ah,_⟩=>by simp[aE]at ah
theorem dG.frame(h:dG P G f args [] 0 R)(ak:e4 args=true)(fQ: ∀r bV,R r bV→fF r=true):dG P G f args σ n fun r bV=>bV=σ∧∃fG,R r fG:=by
 intro w β ro ed aa ae au aQ bF
 refine Calls.mono (h w β ro ed aa (fun i x hx=>nW (ae i x hx) (m4 ak hx)) ⟨by simp[aE],by simp[aE],fun b _=>lg β b,au.lt⟩ aQ (by simp[aE])) fun e w' ⟨v,r,fG,dM,ro',cJ,he,ag,dB,hP,cE⟩=>?_
 have lM: ∀b,b<w.heap.size→w'.heap[b]? =w.heap[b]? :=fun b ad=>cE.frame b ad (lg β b)
 have e3:c3 ⟨w,ro,σ,β,n⟩ G ⟨[],σ,n,n⟩ ⟨#[],[]⟩ w β ro:=⟨rfl,rfl,by simp,au,aQ,⟨rfl,rfl,rfl,Nat.le_refl _,fun _ _ _=>rfl,fun _ h=>.inl h,fun _ h=>h,fun _ h=>.inl h,fun id _ o ah=>⟨by simp[ah],rfl⟩,bF,Nat.le_refl _⟩,Nat.le_refl _⟩
 have cU:=e3.grow (w':=w') (ro':=ro') cE.os cE.tape cE.output cE.size lM cE.j2 (fun b ad=>by
  rcases cE.jl b ad with q|q|q
  ·exact .inl q
  ·exact absurd q (lg β b)
  ·exact .inr ⟨q,hP.lt b ad⟩)
 exact⟨v,r,σ,β,ro',n,he,⟨rfl,fG,ag⟩,nW dB (fQ r fG ag),cU.heap,cU.trans⟩
theorem dG.zhE{rP:List aD}(h:dG P G f args [] 0 R)(a1:fU (h6 σ rP) args)(ak:e4 (h6 σ rP)=true)(fQ: ∀r bV,R r bV→jP r=true):dG P G f rP σ n fun r bV=>bV=σ∧∃fG,R r fG:=by
 have h:=h.arg a1
 intro w β ro ed aa ae au aQ bF
 have nT: ∀b,Own σ β b→b<w.heap.size:=fun b ⟨k,p,aj,ak,bg⟩=>(au.c6 k p aj).hL ak bg
 refine Calls.mono (h w β (u2 ro σ β) ed (by rw[u0];exact aa) (fun i x hx=>?_) ⟨by simp[aE],by simp[aE],fun b _=>lg β b,fun b ad=>ad.elim (au.lt b) (nT b)⟩
  (aQ.keep (fun _ _=>rfl) fun _ h=>.inl h) (by simp[aE])) fun e w' ⟨v,r,fG,dM,ro',cJ,he,ag,dB,hP,cE⟩=>?_
 ·obtain⟨z,aS,rfl⟩:=u1 _ hx
  exact nW (KD au (ae i z aS)) (m4 ak hx)
 have lM: ∀b,b<w.heap.size→w'.heap[b]? =w.heap[b]? :=fun b ad=>cE.frame b ad (lg β b)
 have e3:c3 ⟨w,ro,σ,β,n⟩ G ⟨[],σ,n,n⟩ ⟨#[],[]⟩ w β ro:=⟨rfl,rfl,by simp,au,aQ,⟨rfl,rfl,rfl,Nat.le_refl _,fun _ _ _=>rfl,fun _ h=>.inl h,fun _ h=>h,fun _ h=>.inl h,fun id _ o ah=>⟨by simp[ah],rfl⟩,bF,Nat.le_refl _⟩,Nat.le_refl _⟩
 have cU:=e3.grow (w':=w') (ro':=ro) cE.os cE.tape cE.output cE.size lM (fun _ h=>h) (fun _ h=>.inl h)
 exact⟨v,r,σ,β,ro,n,he,⟨rfl,fG,ag⟩,DJ dB (fQ r fG ag),cU.heap,cU.trans⟩
end
def aF.fo(d:aF):aD:=
 match d with
 |⟨.st c,x⟩=>.agg ((cb c x).map .av)
 |⟨r,x⟩=>.av (fH r x)
def nv(rs:List aV)(x:(fc rs).den):List aD:=(dy rs x).map aF.fo
def kQ(rs:List aV)(x:(fc rs).den):aD:=
 match nv rs x with
 |[v]=>v
 |l=>.tuple l
structure ia where
 f:Nat
 j:Nat
 ps:List aV
 rs:List aV
 eP:Bool
def bJ(P:Program)(G:a8)(f:Nat)(m:aR):Prop:=
 ∀x:(fc m.ps).den,kP m.pre x→dG P G f (nv m.ps x) [] 0 fun v _=>v=kQ m.rs (m.m x)
def U6(P:Program)(G:a8)(M:List aR)(c:ia):Prop:=
 (eU aR.d M c.j).ps=c.ps∧(eU aR.d M c.j).rs=c.rs∧bJ P G c.f (eU aR.d M c.j)∧(c.eP=true→(eU aR.d M c.j).pre=none)
def rp(P:Program)(G:a8)(M:List aR)(C:List ia):Prop:=∀c∈C,U6 P G M c
def Bo(f:Nat):List ia→Option ia
 |[]=>none
 |c::r=>match Nat.beq c.f f with
  |true=>some c
  |false=>Bo f r
def Bp(r:aV)(i:Nat):ab:=
 match r with
 | .st c=>.ch (iT c i 0 (eY c))
 |r=>.aU r i
def hA:Nat→List aV→List ab
 |_,[]=>[]
 |i,r::rs=>Bp r i::hA (i+1) rs
def om(rs:List aV)(p:Nat):Nat→List aV→List bK
 |_,[]=>[]
 |i,_::r=>.rT rs p i::om rs p (i+1) r
def aV.iA:aV→Bool
 | .st _=>true
 |r=>r.one
def aV.tL:aV→Bool
 | .int _=>true
 | .bool=>true
 | .str=>true
 | .st c=>(eY c).all aV.cmp
 |_=>false
def NK(S:ao)(r:aV)(a:ab):Option ab:=
 match r,a with
 | .st c,.ch l=>match ht (eY c) l with
  |true=>some a
  |false=>none
 | .li c,.aO id=>match da S.h id with
  |some (.rw _ d x)=>match decide (c=d)&&x.ez (.li c)with
   |true=>some x
   |false=>none
  |_=>none
 | .mp k v,.gZ id=>match da S.h id with
  |some (.it (.mp bk bh) _ x)=>match(hT bk k&&hT bh v)&&x.ez (.mp k v)with
   |true=>some x
   |false=>none
  |_=>none
 |r,a=>match r.one&&a.ez r with
  |true=>some a
  |false=>none
def se(S:ao):List aV→List ab→Option (List ab)
 |[],[]=>some []
 |r::rs,a::aG=>match NK S r a,se S rs aG with
  |some x,some l=>some (x::l)
  |_,_=>none
 |_,_=>none
def tM:List ab→Bool
 |[]=>true
 | .aO _::_=>false
 | .gZ _::_=>false
 |_::r=>tM r
def iE(c:ia)(aG:List ab)(k:Nat):List bK:=
 match c.rs with
 |[_]=>[.ca c.j aG]
 |rs=>.ca c.j aG::om rs k 0 rs
def ym(c:ia)(k:Nat):ab:=
 match c.rs with
 |[r]=>Bp r k
 |rs=>.tp (hA (k+1) rs)
def FD(S:ao)(xs:List bK)(v:ab):ao:={S with l:=ba.put .emp 0 v,k:=S.k+xs.length}
def FE(c:ia)(xs:List ab):List ff:=
 match c.eP with
 |true=>[]
 |false=>[.ca c.j xs]
def NL(C:List ia)(inl:Nat→List ab→ao→aC)(f:Nat)(aG:List ab)(S:ao):aC:=
 match Bo f C with
 |none=>inl f aG S
 |some c=>match se S c.ps aG with
  |none=>inl f aG S
  |some xs=>match c.rs.all aV.iA&&(tM aG||c.rs.all aV.tL)&&(ab.cL S.k xs&&ab.r6 S.n (ym c S.k))with
   |true=>emit S.k (iE c xs S.k) (FE c xs) (.cH .cj (FD S (iE c xs S.k) (ym c S.k)))
   |false=>inl f aG S
theorem yn: ∀{rs:List aV} {ds:List aF},ds.map aF.r=rs→dy rs (b9 rs ds)=ds
 |[],[],_=>rfl
 |[],_::_,h=>by cases h
 |[r],ds,h=>by
  obtain⟨d,pg,rfl,aa,ae⟩:=lO h
  cases my ae
  subst aa;show[⟨d.r,d.aG d.r⟩]=[d];rw[Ai]
 |r::s::l,ds,h=>by
  obtain⟨d,pg,rfl,aa,ae⟩:=lO h;subst aa;show(⟨d.r,d.aG d.r⟩:aF)::dy (s::l) (b9 (s::l) pg)=d::pg;rw[Ai,yn ae]
theorem tN: ∀{rs:List aV} {x:(fc rs).den},(dy rs x).map aF.r=rs
 |[],_=>rfl
 |[_],_=>rfl
 |r::s::l,x=>by
  show r::(dy (s::l) x.2).map aF.r=_;rw[tN]
section
variable {G:a8} {e:Env} {S:ao}
theorem U7{r:aV}{x:r.den}(h: ∀c,r≠ .st c):(⟨r,x⟩:aF).fo= .av (fH r x):=by
 cases r with
 |st c=>exact absurd rfl (h c)
 |_=>rfl
theorem U8{r:aV}(h:r.one=true): ∀c,r≠ .st c:=fun c hc=>by subst hc;cases h
theorem U9{r:aV}{a:ab}(h:a.ez r=true): ∃y,a.den G e= .av y:=by
 unfold ab.ez at h
 split at h<;>first|exact⟨_,rfl⟩|cases h
theorem Va: ∀{rs:List aV} {l:List ab},ht rs l=true→∃ys:List a6,ab.bQ G e l=ys.map .av
 |[],[],_=>⟨[],rfl⟩
 |[],_::_,h=>by cases h
 |_::_,[],h=>by cases h
 |r::rs,x::xs,h=>by
  simp only[ht,Bool.and_eq_true]at h;obtain⟨y,ax⟩:=U9 (G:=G) (e:=e) h.1;obtain⟨ys,ml⟩:=Va (rs:=rs) h.2;exact⟨y::ys,by simp only[ab.bQ,ax,ml,List.map_cons]⟩
theorem Vb{σ:Heap}: ∀{ys:List a6},h6 σ (ys.map .av)=ys.map .av
 |[]=>rfl
 |y::ys=>by simp only[List.map_cons,h6,jO,Vb]
theorem zhF{r:aV}{a x:ab}(h:NK S r a=some x):
 Sub (jO (cy G e S.h) (a.den G e)) (aF.fo ⟨r,x.get e r⟩)∧fF (jO (cy G e S.h) (a.den G e))=true∧((∀id,a≠ .aO id∧a≠ .gZ id)→jO (cy G e S.h) (a.den G e)=a.den G e):=by
 unfold NK at h
 split at h
 ·rename_i c l
  split at h
  ·rename_i aq
   cases h;obtain⟨ys,ax⟩:=Va (G:=G) (e:=e) aq
   have ai:=Aq (G:=G) (e:=e) aq
   have hd:jO (cy G e S.h) ((ab.ch l).den G e)=(ab.ch l).den G e:=by simp only[ab.den,jO,ax,Vb]
   rw[hd];refine⟨?_,by simp only[ab.den,ax,fF,Ds],fun _=>rfl⟩
   simp only[ab.den];exact ai.agg
  ·cases h
 ·rename_i c id
  split at h
  ·rename_i t d y ah
   split at h
   ·rename_i hc
    cases h;simp only[Bool.and_eq_true,decide_eq_true_eq]at hc;obtain⟨rfl,hx⟩:=hc
    have bb:aE (cy G e S.h) id=some (.row false t (bZ c) (List.map (cb c) (x.az e (.li c)))):=by rw[ei,ah];rfl
    have hd:jO (cy G e S.h) ((ab.aO id).den G e)= .av (.aO (bZ c) (List.map (cb c) (x.az e (.li c)))):=by simp only[ab.den,jO,bb]
    rw[hd];exact⟨lQ.fo fun _ _ _ h=>.li _ _ _ h,rfl,fun h=>absurd rfl (h id).1⟩
   ·cases h
  ·cases h
 ·rename_i k v id
  split at h
  ·rename_i bk bh dr y ah
   split at h
   ·rename_i hc
    cases h;simp only[Bool.and_eq_true]at hc
    cases hs hc.1.1
    cases hs hc.1.2
    have bb:aE (cy G e S.h) id=some (.bM (jQ v.agg (gg (lj k) (iy v) (x.az e (.mp k v))))):=by rw[ei,ah];rfl
    have hd:jO (cy G e S.h) ((ab.gZ id).den G e)= .av (xe v.agg (gg (lj k) (iy v) (x.az e (.mp k v)))):=by simp only[ab.den,jO,bb]<;>rfl
    rw[hd];refine⟨?_,rfl,fun h=>absurd rfl (h id).2⟩
    show Sub _ (.av (fH (.mp k v) (x.az e (.mp k v))));rw[S6];exact Sub.refl _
   ·cases h
  ·cases h
 ·split at h
  ·rename_i hc
   cases h;simp only[Bool.and_eq_true]at hc;obtain⟨y,ax⟩:=U9 (G:=G) (e:=e) hc.2
   have hd:jO (cy G e S.h) (a.den G e)=a.den G e:=by rw[ax];rfl
   rw[hd];refine⟨?_,by rw[ax];rfl,fun _=>rfl⟩
   rw[U7 (U8 hc.1),Er hc.1];exact vg hc.2
  ·cases h
theorem yo: ∀{rs:List aV} {aG xs:List ab},se S rs aG=some xs→
 fU (h6 (cy G e S.h) (ab.bQ G e aG)) ((gD e rs xs).map aF.fo)∧e4 (h6 (cy G e S.h) (ab.bQ G e aG))=true∧(tM aG=true→h6 (cy G e S.h) (ab.bQ G e aG)=ab.bQ G e aG)∧(gD e rs xs).map aF.r=rs
 |[],[],_,h=>by cases h;exact⟨.nil,rfl,fun _=>rfl,rfl⟩
 |[],_::_,_,h=>by cases h
 |_::_,[],_,h=>by cases h
 |r::rs,a::aG,xs,h=>by
  simp only[se]at h
  split at h
  ·rename_i x l aa ae
   cases h;obtain⟨b6,a2,a3⟩:=zhF (G:=G) (e:=e) aa;obtain⟨gq,iq,hV,tv⟩:=yo ae;refine⟨.cons b6 gq,by simp only[ab.bQ,h6,e4,a2,iq,Bool.and_self],fun hn=>?_,by simp only[gD,List.map_cons,tv]⟩
   have:(∀id,a≠ .aO id∧a≠ .gZ id)∧tM aG=true:=by
    cases a<;>first|(cases hn;done)|exact⟨fun id=>⟨fun bd=>(by cases bd),fun bd=>(by cases bd)⟩,hn⟩
   simp only[ab.bQ,h6,a3 this.1,hV this.2]
  ·cases h
end
section
variable {G:a8} {e:Env}
theorem zhG(d:aF):fF d.fo=true:=by
 unfold aF.fo
 split
 ·simp only[fF,Ds]
 ·rfl
theorem FF: ∀l:List aF,e4 (l.map aF.fo)=true
 |[]=>rfl
 |d::l=>by simp only[List.map_cons,e4,zhG,FF l,Bool.and_self]
theorem NM{rs:List aV}{x:(fc rs).den}:fF (kQ rs x)=true:=by
 have h:=FF (dy rs x)
 unfold kQ nv
 split
 ·rename_i v aw
  rw[aw]at h;simpa[e4]using h
 ·exact h
theorem Vc: ∀{ds:List aF},(∀d∈ds,d.r.tL=true∧∀c,d.r≠ .st c)→m9 (ds.map fun d=>.av d.av)=true
 |[],_=>rfl
 |d::ds,h=>by
  have aa:=h d (List.mem_cons_self ..)
  have ae:=Vc (ds:=ds) fun x hx=>h x (List.mem_cons_of_mem _ hx)
  obtain⟨r,x⟩:=d
  cases r<;>first|(exact absurd rfl (aa.2 _))|(cases aa.1;done)|exact ae
theorem Vd{d:aF}(h:d.r.tL=true):jP d.fo=true:=by
 obtain⟨r,x⟩:=d
 cases r with
 |st c=>
  show jP (.agg ((cb c x).map .av))=true
  have hc:cb c x=(k2 c x).map aF.av:=by unfold cb;rfl
  rw[hc,List.map_map];simp only[jP];refine Vc fun d hd=>?_
  have ag:d.r∈eY c:=by
   have:=KI c x
   rw[←this];exact List.mem_map_of_mem hd
  have a1:d.r.cmp=true:=List.all_eq_true.1 (show(eY c).all _=true from h) d.r ag
  cases hd:d.r<;>rw[hd]at a1<;>first|(cases a1;done)|exact⟨rfl,fun c hc=>by cases hc⟩
 |_=>first|rfl|cases h
theorem NN: ∀{l:List aF},(∀d∈l,d.r.tL=true)→m9 (l.map aF.fo)=true
 |[],_=>rfl
 |d::l,h=>by
  simp only[List.map_cons,m9,Vd (h d (List.mem_cons_self ..)),NN (l:=l) fun x hx=>h x (List.mem_cons_of_mem _ hx),Bool.and_self]
theorem zhH{rs:List aV}{x:(fc rs).den}(h:rs.all aV.tL=true):jP (kQ rs x)=true:=by
 have h:=NN (l:=dy rs x) fun d hd=>by
  have ag:d.r∈rs:=by
   have:=tN (rs:=rs) (x:=x)
   rw[←this];exact List.mem_map_of_mem hd
  exact List.all_eq_true.1 h d.r ag
 unfold kQ nv
 split
 ·rename_i v aw
  rw[aw]at h;simpa[m9]using h
 ·exact h
end
section
variable {P:Program} {G:a8} {M:List aR} {C:List ia} {inl:Nat→List ab→ao→aC}
theorem Ve{f:Nat}{c:ia}: ∀{C:List ia},Bo f C=some c→c∈C∧c.f=f
 |[],h=>by cases h
 |d::r,h=>by
  unfold Bo at h
  split at h
  ·rename_i hd;cases h;exact⟨List.mem_cons_self ..,Nat.eq_of_beq_eq_true hd⟩
  ·obtain⟨aa,ae⟩:=Ve h;exact⟨List.mem_cons_of_mem _ aa,ae⟩
theorem NO(rs:List aV)(p:Nat): ∀(l:List aV) (i j:Nat),(om rs p i l)[j]? =if j<l.length then some (.rT rs p (i+j))else none
 |[],i,j=>by simp[om]
 |_::l,i,0=>by simp[om]
 |_::l,i,j+1=>by
  simp only[om,List.getElem?_cons_succ,NO rs p l (i+1) j,List.length_cons,Nat.add_lt_add_iff_right]
  have:i+1+j=i+(j+1):=by omega
  rw[this]
theorem Vf(rs:List aV)(p:Nat): ∀(l:List aV) (i k:Nat),p<k→hy k (om rs p i l)=true
 |[],_,_,_=>rfl
 |_::l,i,k,h=>by
  simp only[om,hy,bK.lt,jS h,Bool.true_and];exact Vf rs p l (i+1) (k+1) (by omega)
theorem FG{c:ia}{xs:List ab}{k:Nat}(h:ab.cL k xs=true):hy k (iE c xs k)=true:=by
 unfold iE
 split
 ·simp only[hy,bK.lt,h,Bool.and_self]
 ·simp only[hy,bK.lt,h,Bool.true_and]
  exact Vf _ _ _ _ _ (Nat.lt_succ_self k)
theorem NP(rs:List aV)(p:Nat): ∀(l:List aV) (i:Nat),(om rs p i l).length=l.length
 |[],_=>rfl
 |_::l,i=>by simp[om,NP rs p l (i+1)]
theorem NQ{e:Env}{r:aV}{i:Nat}{x:r.den}(h:Env.at e i=⟨r,x⟩):(Bp r i).den G e=aF.fo ⟨r,x⟩:=by
 have a1:(Env.at e i).aG r=x:=by rw[h,cB]
 cases r with
 |st c=>
  show aD.agg (ab.bQ G e (iT c i 0 (eY c)))= .agg ((cb c x).map .av);rw[tc,a1]
 |_=>show aD.av (fH _ ((Env.at e i).aG _))= .av (fH _ x);rw[a1]
theorem Bq{e:Env}: ∀{rs:List aV} {i:Nat} {ds:List aF},ds.map aF.r=rs→(∀j d,ds[j]? =some d→Env.at e (i+j)=d)→ab.bQ G e (hA i rs)=ds.map aF.fo
 |[],i,ds,h,_=>by cases my h;rfl
 |r::rs,i,ds,h,hd=>by
  obtain⟨d,pg,rfl,aa,ae⟩:=lO h;subst aa
  have aM:=hd 0 d rfl
  simp only[hA,ab.bQ,List.map_cons,List.cons.injEq];refine⟨NQ (x:=d.v) aM,Bq ae fun j zhI af=>?_⟩
  have:=hd (j+1) zhI (by simpa using af)
  rw[←this];congr 1;omega
theorem FH{c:bL}{i k:Nat}(h:i<k): ∀{rs:List aV} {j:Nat},ab.cL k (iT c i j rs)=true
 |[],_=>rfl
 |r::rs,j=>by simp only[iT,ab.cL,ab.lt,jS h,FH h (rs:=rs),Bool.and_self]
theorem NR{r:aV}{i k:Nat}(h:i<k):(Bp r i).lt k=true:=by
 cases r with
 |st c=>exact FH h
 |_=>exact jS h
theorem Br: ∀{rs:List aV} {i k:Nat},i+rs.length≤k→ab.cL k (hA i rs)=true
 |[],_,_,_=>rfl
 |r::rs,i,k,h=>by
  simp only[List.length_cons]at h;simp only[hA,ab.cL,NR (r:=r) (show i<k by omega),Br (rs:=rs) (show i+1+rs.length≤k by omega),Bool.and_self]
theorem NS{α:Type}{d:α}: ∀{l:List α} {i:Nat} {x:α},l[i]? =some x→eU d l i=x
 |[],_,_,h=>by cases h
 |y::l,0,x,h=>by simpa[eU]using h
 |y::l,i+1,x,h=>by
  simp only[eU];exact NS (by simpa using h)
theorem zhJ{c:ia}{xs:List ab}{k:Nat}{e:Env}{y:(fc c.rs).den}(aq:ab.cL k xs=true)(aM:Env.at (df M e k (iE c xs k)) k=⟨fc c.rs,y⟩):
 (ym c k).den G (df M e k (iE c xs k))=kQ c.rs y:=by
 have eK:=jz (M:=M) (e:=e) (FG (c:=c) aq)
 obtain⟨f,FI,ps,rs,eP⟩:=c
 show(ym ⟨f,FI,ps,rs,eP⟩ k).den G _=kQ rs y
 match rs,y,aM,eK with
 |[],y,aM,eK=>rfl
 |[r],y,aM,eK=>exact NQ aM
 |r::s::l,y,aM,eK=>
  have m6:(dy (r::s::l) y).map aF.r=r::s::l:=tN
  have rD:kQ (r::s::l) y= .tuple ((dy (r::s::l) y).map aF.fo):=by
   unfold kQ nv
   split
   ·rename_i v aw
    have:=congrArg List.length m6
    have ae:=congrArg List.length aw
    simp only[List.length_map,List.length_cons]at this ae;simp only[List.length_nil]at ae;omega
   ·rfl
  rw[rD];show aD.tuple (ab.bQ G _ (hA (k+1) (r::s::l)))=_
  congr 1
  refine Bq m6 fun j d af=>?_
  have hlen:j<(r::s::l).length:=by
   have aa:=(List.getElem?_eq_some_iff.1 af).1
   have:=congrArg List.length m6
   rw[List.length_map]at this;omega
  have aa:=eK (j+1) (.rT (r::s::l) k j) (by
   show(bK.ca FI xs::om (r::s::l) k 0 (r::s::l))[j+1]? =_
   rw[List.getElem?_cons_succ,NO,if_pos hlen,Nat.zero_add])
  rw[show k+1+j=k+(j+1)by omega,aa]
  simp only[bK.den,aM,cB];exact NS af
theorem zhK(q3:rp P G M C)(bW:fP P G M inl):fP P G M (NL C inl):=fun f aG S e ad aq hf ai=>by
 unfold NL at ai⊢
 cases hc:Bo f C with
 |none=>simp only[hc]at ai⊢;exact bW f aG S e ad aq hf ai
 |some c=>
  simp only[hc]at ai⊢
  cases hx:se S c.ps aG with
  |none=>simp only[hx]at ai⊢;exact bW f aG S e ad aq hf ai
  |some xs=>
   simp only[hx]at ai⊢
   split at ai
   rotate_left
   ·exact bW f aG S e ad aq hf ai
   rename_i aj;simp only[Bool.and_eq_true]at aj;obtain⟨⟨oo,mJ⟩,Bs,Ex⟩:=aj;obtain⟨hm,Bt⟩:=Ve hc;obtain⟨g1,g2,g3,g4⟩:=q3 c hm;obtain⟨hn,_⟩:=mG ai
   have vP:=FG (c:=c) Bs
   have bR:bX S.k e (df M e S.k (iE c xs S.k)):=jT (Nat.le_refl _)
   have b4:c.eP=false→ff.ok M (df M e S.k (iE c xs S.k)) (.ca c.j xs):=fun jo=>hn _ (by unfold FE;rw[jo];exact List.mem_singleton.2 rfl)
   obtain⟨b6,a2,a3,a4⟩:=yo (G:=G) (e:=e) hx
   have eK:=jz (M:=M) (e:=e) vP 0 (.ca c.j xs) (by unfold iE;split<;>rfl)
   obtain⟨Vg,pH,zj5,zj6,Vh⟩:=c;simp only at g1 g2 g3 g4 Bt oo mJ Bs Ex vP bR b4 b6 a2 a3 a4 eK hx;subst g1 g2 Bt;simp only[Nat.add_zero,bK.den]at eK;simp only[ff.ok]at b4;rw[xv bR Bs]at eK
   have hp:=g3 (b9 _ (gD e (eU aR.d M pH).ps xs)) (by
    cases Vh with
    |true=>rw[g4 rfl];trivial
    |false=>
     have:=b4 rfl
     rw[xv bR Bs]at this
     exact this)
   have vL:nv (eU aR.d M pH).ps (b9 (eU aR.d M pH).ps (gD e (eU aR.d M pH).ps xs))=(gD e (eU aR.d M pH).ps xs).map aF.fo:=by
    unfold nv;rw[yn a4]
   rw[vL]at hp
   have aw:=zhJ (G:=G) (c:=⟨Vg,pH,(eU aR.d M pH).ps,(eU aR.d M pH).rs,Vh⟩) Bs eK
   have lX:dG P G Vg (ab.bQ G e aG) (cy G e S.h) S.n fun r bV=>bV=cy G e S.h∧∃_:Heap,r=kQ (eU aR.d M pH).rs ((eU aR.d M pH).m (b9 _ (gD e (eU aR.d M pH).ps xs))):=by
    cases AJ:tM aG with
    |true=>
     rw[a3 AJ]at b6 a2;exact((hp.arg b6).frame a2 fun r bV ag=>by rw[ag];exact NM).res fun r bV ⟨aa,fG,ae⟩=>⟨aa,fG,ae⟩
    |false=>
     rw[AJ,Bool.false_or]at mJ;exact(hp.zhE b6 a2 fun r bV ag=>by rw[ag];exact zhH mJ).res fun r bV ⟨aa,fG,ae⟩=>⟨aa,fG,ae⟩
   refine lX.res fun r bV ⟨aa,_,ae⟩=>⟨_,_,by rw[lV];rfl,?_,?_,?_,?_,bR,Nat.le_add_right _ _⟩
   ·rw[ae,←aw]
    show _=ab.den G _ (ao.at (FD S _ _) 0);unfold FD ao.at
    simp only[ba.h0,if_true]
   ·rw[aa];exact(xu bR ad.h).symm
   ·refine⟨fun i x hi=>?_,tk (Nat.le_add_right _ _) ad.h,oa (Nat.le_add_right _ _) ad.g⟩
    simp only[FD,ba.h0]at hi
    split at hi
    ·cases hi
     show(ym _ S.k).lt (S.k+_)=true;unfold ym iE
     split
     ·exact NR (Nat.lt_succ_self _)
     ·simp only[ab.lt]
      refine Br ?_
      simp only[List.length_cons,NP];omega
    ·simp[ba.get]at hi
   ·exact ik bR ad.g hf
end
end Go.aL
namespace Go.aL
open Go
section
variable {P:Program} {G:a8} {f:FuncId} {args:List aD} {R:aD→Heap→Prop}
theorem dG.ret(eQ:Prop→aD→Prop)(h:dG P G f args [] 0 R){Q:aD→Prop}(fQ: ∀r bV,R r bV→∃v,Sub (jO bV r) v∧fF v=true∧Q v):dG P G f args [] 0 fun v _=>Q v:=by
 intro w β ro ed aa ae au aQ bF
 refine Calls.mono (h w β ro ed aa ae au aQ bF) fun e w' ⟨v,r,bV,dM,ro',cJ,he,ag,dB,hP,cE⟩=>?_
 obtain⟨u,hu,ak,aI⟩:=fQ r bV ag
 have nT: ∀b,Own bV dM b→b<w'.heap.size:=fun b ⟨k,p,aj,ak,bg⟩=>(hP.c6 k p aj).hL ak bg
 refine⟨v,u,[],dM,u2 ro' bV dM,cJ,he,aI,nW (hu _ _ _ _ _ _ (KD hP dB)) ak,⟨by simp[aE],by simp[aE],fun b _=>lg dM b,fun b ad=>ad.elim (hP.lt b) (nT b)⟩,
  ⟨cE.os,cE.tape,cE.output,cE.size,cE.frame,fun b ad=>?_,fun b ad=>.inl (cE.j2 b ad),fun b ad=>absurd ad (lg dM b),by simp[aE],by simp[aE],cE.le⟩⟩
 rcases ad with ad|ad
 ·exact cE.jl b ad
 ·exact .inr (cE.hk b ad)
end
def gx:Nat→List aF→Env
 |_,[]=>.emp
 |i,d::ds=>ba.put (gx (i+1) ds) i d
theorem NT: ∀{ds:List aF} {i j:Nat} {d:aF},ds[j]? =some d→Env.at (gx i ds) (i+j)=d
 |[],_,_,_,h=>by cases h
 |x::ds,i,0,d,h=>by
  have h:x=d:=by simpa using h
  simp only[gx,Env.ij,Nat.add_zero,if_true,h]
 |x::ds,i,j+1,d,h=>by
  have:=NT (i:=i+1) (show ds[j]? =some d by simpa using h)
  simp only[gx,Env.ij];rw[if_neg (by omega),←this]
  congr 1
  omega
def vQ(rs:List aV)(v:ab):List ab:=
 match rs,v with
 |[_],v=>[v]
 |_,.tp l=>l
 |_,x=>[x]
def NU(rs:List aV)(v:ab):Bool:=
 match rs,v with
 |[_],_=>true
 |_,.tp _=>true
 |_,_=>false
def FJ(rs:List aV)(C:ao):Option (List ab):=
 match NU rs (C.at 0)with
 |true=>se C rs (vQ rs (C.at 0))
 |false=>none
def uK(rs:List aV)(C:ao):Bool:=(FJ rs C).isSome
def NV(rs:List aV)(C:ao)(e:Env):(fc rs).den:=
 match FJ rs C with
 |some l=>b9 rs (gD e rs l)
 |none=>(fc rs).fz
def NW(M:List aR)(t:aC)(rs:List aV)(e:Env):(fc rs).den:=t.fold M e (fun _ C ay=>NV rs C ay) (fc rs).fz
def qg(n:Nat):ao:=⟨.emp,[],0,n,[]⟩
section
variable {P:Program} {G:a8} {M:List aR} {C:List ia} {inl:Nat→List ab→ao→aC}
theorem zhL{rs:List aV}{S:ao}{e:Env}{l:List ab}(h:FJ rs S=some l):Sub (jO (cy G e S.h) ((S.at 0).den G e)) (kQ rs (b9 rs (gD e rs l))):=by
 unfold FJ at h
 split at h
 rotate_left
 ·cases h
 rename_i aH
 obtain⟨b6,_,_,a4⟩:=yo (G:=G) (e:=e) h
 have vL:nv rs (b9 rs (gD e rs l))=(gD e rs l).map aF.fo:=by unfold nv;rw[yn a4]
 unfold kQ
 rw[vL]
 match rs,b6,a4,aH with
 |[r],b6,a4,aH=>
  obtain⟨d,pg,aw,aa,ae⟩:=lO a4
  cases my ae
  rw[aw]at b6⊢;simp only[vQ,ab.bQ,h6,List.map_cons,List.map_nil]at b6⊢
  cases b6 with
  |cons h _=>exact h
 |[],b6,a4,aH=>
  cases aw:S.at 0 with
  |tp m=>
   rw[aw]at b6;rw[my a4];rw[my a4]at b6;exact b6.tuple
  |_=>rw[aw]at aH;cases aH
 |r::s::q,b6,a4,aH=>
  cases aw:S.at 0 with
  |tp m=>
   rw[aw]at b6
   have aq:=congrArg List.length a4
   simp only[List.length_map,List.length_cons]at aq;generalize gD e (r::s::q) l=ds at b6 aq⊢
   match ds,aq with
   |d::d2::ds,_=>exact b6.tuple
  |_=>rw[aw]at aH;cases aH
theorem Vi{t:aC}{p:ao→Bool}(h:t.gw.all p=true){e ay:Env}{S:ao}(ag:run M t e=some (.cj,S,ay)):p S=true:=List.all_eq_true.1 h S (nq ag)
theorem NY(bW:fP P G M inl){f:Nat}{m:aR}(t:aC)(aH:inl f (hA 0 m.ps) (qg m.ps.length)=t)(he:t.gw.all (uK m.rs)=true)
 (ai: ∀x,kP m.pre x→t.safe M (gx 0 (dy m.ps x)))(hm: ∀x,kP m.pre x→NW M t m.rs (gx 0 (dy m.ps x))=m.m x):bJ P G f m:=fun x hx=>by
 subst aH
 have aq:m.ps.length=(dy m.ps x).length:=by have:=congrArg List.length (tN (rs:=m.ps) (x:=x));rw[List.length_map]at this;exact this.symm
 have h:=bW f (hA 0 m.ps) (qg m.ps.length) (gx 0 (dy m.ps x)) ⟨fun i x hi=>by simp[qg,ba.get]at hi,rfl,rfl⟩ (Br (by show 0+_≤m.ps.length;omega)) (fun c hc=>by cases hc) (ai x hx)
 have hd:ab.bQ G (gx 0 (dy m.ps x)) (hA 0 m.ps)=nv m.ps x:=Bq tN fun j d af=>NT af
 rw[hd]at h
 refine(dG.ret (fun _ _=>True) h (Q:=fun v=>v=kQ m.rs (m.m x)) fun r bV ag=>?_)
 obtain⟨aT,ay,cr,rfl,rfl,_⟩:=ag
 have oe:=Vi he cr
 obtain⟨l,mn⟩:=Option.isSome_iff_exists.1 oe
 refine⟨_,zhL mn,NM,?_⟩
 have:=hm x hx
 unfold NW at this
 rw[kf cr]at this
 unfold NV at this
 rw[mn]at this
 rw[←this]
theorem zhM(bW:fP P G M inl){f:Nat}{m:aR}(t:aC)(aH:inl f (hA 0 m.ps) (qg m.ps.length)=t)(he:(t.clean&&t.gw.all (uK m.rs))=true)
 (hm: ∀x,NW M t m.rs (gx 0 (dy m.ps x))=m.m x):bJ P G f m:=by
 simp only[Bool.and_eq_true]at he
 exact NY bW t aH he.2 (fun _ _=>rX M he.1) fun x _=>hm x
theorem rp.nil:rp P G M []:=fun _ h=>by cases h
theorem rp.cons{c:ia}(h:U6 P G M c)(q3:rp P G M C):rp P G M (c::C):=fun d hd=>by
 rcases List.mem_cons.1 hd with rfl|hd
 ·exact h
 ·exact q3 d hd
end
end Go.aL
namespace Go.aL
open Go
def aC.kk(M:List aR):aC→{X:Type}→Env→(b0→ao→Env→X)→X→X
 | .cH x S,_,e,K,_=>K x S e
 | .lt i x t,_,e,K,d=>t.kk M (ba.put e i (x.den M e)) K d
 | .eG _ t,_,e,K,d=>t.kk M e K d
 | .it g a b,_,e,K,d=>bif g.az e .bool then a.kk M e K d else b.kk M e K d
 | .dC n a ps k,_,e,K,d=>a.kk M e (fun x S ay=>bif x.bT n then k.kk M (fR e (fun r p=>⟨r,(p.de S).get ay r⟩) ps) K d else K x S ay) d
 | .eo m xid dk b1 ca a k,X,e,K,d=>Sum.elim (fun r=>r) (fun v=>k.kk M (bl e ca v) K d)
  (bo (fun i (v:bY ca)=>(a.kk M (bl (ba.put e b1 ⟨.int .i64,(i:Int)⟩) ca v) (eh m xid ca K) (.cO v):Step X (bY ca))) 0 (cm (dk.den M e)).toNat (b9 _ (dE e ca)))
 | .e0 m xid ca a k,X,e,K,d=>Sum.elim (fun r=>r) (fun v=>k.kk M (bl e ca v) K d)
  (c5 (fun v=>(a.kk M (bl e ca v) (eh m xid ca K) (.cO v):Step X (bY ca))) dV (b9 _ (dE e ca)))
 | .bad _,_,_,_,d=>d
section
variable {M:List aR}
theorem mK: ∀(t:aC) {X:Type} (e:Env) (K:b0→ao→Env→X) (d:X),t.kk M e K d=t.fold M e K d
 | .cH _ _,_,_,_,_=>rfl
 | .lt i x t,_,e,K,d=>mK t _ K d
 | .eG _ t,_,e,K,d=>mK t _ K d
 | .it g a b,_,e,K,d=>by simp only[aC.kk,aC.fold,mK a,mK b]
 | .dC n a ps k,X,e,K,d=>by
  show a.kk M e (fun x S ay=>bif x.bT n then k.kk M (fR e (fun r p=>⟨r,(p.de S).get ay r⟩) ps) K d else K x S ay) d=(aC.dC n a ps k).fold M e K d
  rw[mK a]
  cases ag:run M a e with
  |none=>rw[Au ag,th ag]
  |some l=>
   obtain⟨x,S,ay⟩:=l;rw[kf ag]
   cases hx:x.bT n with
   |true=>rw[cond_true,qE ag hx,mK k]
   |false=>rw[cond_false,nh ag hx]
 | .eo m xid dk b1 ca a k,X,e,K,d=>by
  rw[xt];simp only[aC.kk,mK a,mK k]
 | .e0 m xid ca a k,X,e,K,d=>by
  simp only[aC.kk,aC.fold,mK a,mK k]
 | .bad _,_,_,_,_=>rfl
def aC.wp(M:List aR):aC→Env→(b0→ao→Env→Prop)→Prop
 | .cH x S,e,Q=>Q x S e
 | .lt i x t,e,Q=>t.wp M (ba.put e i (x.den M e)) Q
 | .eG n t,e,Q=>n.ok M e∧t.wp M e Q
 | .it g a b,e,Q=>(g.az e .bool=true→a.wp M e Q)∧(g.az e .bool=false→b.wp M e Q)
 | .dC n a ps k,e,Q=>a.wp M e fun x S ay=>bif x.bT n then k.wp M (fR e (fun r p=>⟨r,(p.de S).get ay r⟩) ps) Q else Q x S ay
 | .eo m xid dk b1 ca a k,e,Q=>∃I:Nat→bY ca→Prop,I 0 (b9 _ (dE e ca))∧(∀(i:Nat) (v:bY ca),i<(cm (dk.den M e)).toNat→I i v→
  a.wp M (bl (ba.put e b1 ⟨.int .i64,(i:Int)⟩) ca v) fun x S ay=>bif x.bT m then I (i+1) (b9 _ (fA S ay ca))else bif x.cY xid then k.wp M (bl e ca (b9 _ (fA S ay ca))) Q else Q x S ay)∧
  ∀v,I (cm (dk.den M e)).toNat v→k.wp M (bl e ca v) Q
 | .e0 m xid ca a k,e,Q=>∃(I:bY ca→Prop) (jC:bY ca→Nat),I (b9 _ (dE e ca))∧jC (b9 _ (dE e ca))<dV∧∀(v:bY ca),I v→
  a.wp M (bl e ca v) fun x S ay=>bif x.bT m then I (b9 _ (fA S ay ca))∧jC (b9 _ (fA S ay ca))<jC v else bif x.cY xid then k.wp M (bl e ca (b9 _ (fA S ay ca))) Q else Q x S ay
 | .bad _,_,_=>False
theorem Vj{R A:Type}{b:Nat→A→Step R A}(I:Nat→A→Prop)(vR:R→Prop)(tO:A→Prop)(n:Nat)(h: ∀i v,i<n→I i v→(∀r,b i v= .ret r→vR r)∧(∀bh,b i v= .cO bh→tO bh)∧∀bh,b i v= .br bh→I (i+1) bh)
 (he: ∀v,I n v→tO v): ∀(m k:Nat) (a:A),k+m=n→I k a→(∀r,bo b k m a= .inl r→vR r)∧∀v,bo b k m a= .inr v→tO v
 |0,k,a,hn,hi=>by
  have:k=n:=by omega
  subst this;exact⟨fun r ag=>(by cases ag),fun v aw=>(by cases aw;exact he a hi)⟩
 |m+1,k,a,hn,hi=>by
  obtain⟨aa,ae,au⟩:=h k a (by omega) hi
  simp only[bo]
  cases ad:b k a with
  |ret r=>exact⟨fun eQ ag=>(by cases ag;exact aa r ad),fun v aw=>(by cases aw)⟩
  |cO v=>exact⟨fun eQ ag=>(by cases ag),fun bh aw=>(by cases aw;exact ae v ad)⟩
  |br v=>exact Vj I vR tO n h he m (k+1) v (by omega) (au v ad)
theorem Vk{R A:Type}{b:A→Step R A}(I:A→Prop)(jC:A→Nat)(vR:R→Prop)(tO:A→Prop)(h: ∀v,I v→(∀r,b v= .ret r→vR r)∧(∀bh,b v= .cO bh→tO bh)∧∀bh,b v= .br bh→I bh∧jC bh<jC v):
 ∀(m:Nat) (a:A),jC a<m→I a→kb b m a∧(∀r,c5 b m a= .inl r→vR r)∧∀v,c5 b m a= .inr v→tO v
 |0,a,hm,_=>absurd hm (Nat.not_lt_zero _)
 |m+1,a,hm,hi=>by
  obtain⟨aa,ae,au⟩:=h a hi;simp only[c5,kb]
  cases ad:b a with
  |ret r=>exact⟨trivial,fun eQ ag=>(by cases ag;exact aa r ad),fun v aw=>(by cases aw)⟩
  |cO v=>exact⟨trivial,fun eQ ag=>(by cases ag),fun bh aw=>(by cases aw;exact ae v ad)⟩
  |br v=>
   obtain⟨g1,g2⟩:=au v ad;exact Vk I jC vR tO h m v (by omega) g1
def FK(M:List aR)(t:aC)(e:Env)(Q:b0→ao→Env→Prop):Prop:=∃x S ay,run M t e=some (x,S,ay)∧Q x S ay
theorem Vl{m xid:Nat}{ca:List hE}{a:aC}{e:Env}{v:bY ca}{J:bY ca→Prop}{B:bY ca→Prop}{Q:b0→ao→Env→Prop}
 (h:FK M a e fun x S ay=>bif x.bT m then J (b9 _ (fA S ay ca))else bif x.cY xid then B (b9 _ (fA S ay ca))else Q x S ay):
 (∀r,c4 M m xid ca a e v= .ret r→∃x S ay,r=some (x,S,ay)∧Q x S ay)∧(∀bh,c4 M m xid ca a e v= .cO bh→B bh)∧∀bh,c4 M m xid ca a e v= .br bh→J bh:=by
 obtain⟨x,S,ay,ag,aI⟩:=h
 unfold c4
 rw[ag]
 simp only
 cases hx:x.bT m with
 |true=>
  rw[hx,cond_true]at aI;rw[n7 hx];exact⟨fun r bb=>(by cases bb),fun bh bb=>(by cases bb),fun bh bb=>(by cases bb;exact aI)⟩
 |false=>
  rw[hx,cond_false]at aI
  cases ax:x.cY xid with
  |true=>
   rw[ax,cond_true]at aI;rw[n8 hx ax];exact⟨fun r bb=>(by cases bb),fun bh bb=>(by cases bb;exact aI),fun bh bb=>(by cases bb)⟩
  |false=>
   rw[ax,cond_false]at aI;rw[ke hx ax];exact⟨fun r bb=>(by cases bb;exact⟨_,_,_,rfl,aI⟩),fun bh bb=>(by cases bb),fun bh bb=>(by cases bb)⟩
theorem kl: ∀(t:aC) {e:Env} {Q:b0→ao→Env→Prop},t.wp M e Q→t.safe M e∧FK M t e Q
 | .cH x S,e,Q,h=>⟨trivial,x,S,e,rfl,h⟩
 | .lt i x t,e,Q,h=>kl t (e:=ba.put e i (x.den M e)) h
 | .eG n t,e,Q,h=>⟨⟨h.1,(kl t h.2).1⟩,(kl t h.2).2⟩
 | .it g a b,e,Q,h=>by
  refine⟨⟨fun ah=>(kl a (h.1 ah)).1,fun ah=>(kl b (h.2 ah)).1⟩,?_⟩
  cases ah:g.az e .bool with
  |true=>
   obtain⟨x,S,ay,aa,ae⟩:=(kl a (h.1 ah)).2;exact⟨x,S,ay,by rw[tC ah];exact aa,ae⟩
  |false=>
   obtain⟨x,S,ay,aa,ae⟩:=(kl b (h.2 ah)).2;exact⟨x,S,ay,by rw[tC ah];exact aa,ae⟩
 | .dC n a ps k,e,Q,h=>by
  obtain⟨aa,x,aT,aB,ag,au⟩:=kl a h
  cases hx:x.bT n with
  |true=>
   rw[hx,cond_true]at au;obtain⟨fy,iN,dc,ay,gH,k8⟩:=kl k au;refine⟨⟨aa,fun _=>?_⟩,iN,dc,ay,by unfold run;rw[qE ag hx];exact gH,k8⟩
   have:(fun(r:aV) (p:eA)=>(⟨r,bif a.jw n
    then a.fold M e (fun _ S ay=>(p.de S).get ay r) r.fz
    else a.fold M e (fun x S ay=>bif x.bT n then(p.de S).get ay r else r.fz) r.fz⟩:aF))=fun r p=>⟨r,(p.de aT).get aB r⟩:=by
    funext r p
    simp only[kf ag,hx]
    cases a.jw n<;>rfl
   rw[this];exact fy
  |false=>
   rw[hx,cond_false]at au;exact⟨⟨aa,fun af=>by rw[kf ag,hx]at af;cases af⟩,x,aT,aB,by unfold run;rw[nh ag hx],au⟩
 | .eo m xid dk b1 ca a k,e,Q,h=>by
  obtain⟨I,aM,ad,he⟩:=h
  have qz:=fun(i:Nat) (v:bY ca) hi aw=>kl a (ad i v hi aw)
  have Bu:=fun(i:Nat) (v:bY ca) hi aw=>Vl (v:=v) (J:=I (i+1)) (B:=fun bh=>k.wp M (bl e ca bh) Q) (Q:=Q) (qz i v hi aw).2
  obtain⟨cK,dI⟩:=Vj I (fun r=>∃x S ay,r=some (x,S,ay)∧Q x S ay) (fun v=>k.wp M (bl e ca v) Q) (cm (dk.den M e)).toNat Bu (fun v aw=>he v aw) (cm (dk.den M e)).toNat 0 _ (Nat.zero_add _) aM
  have hR:(fun(i:Nat) (v:bY ca)=>(a.fold M (bl (ba.put e b1 ⟨.int .i64,(i:Int)⟩) ca v) (eh m xid ca fun _ _ _=>()) (.cO v):Step Unit (bY ca)))=fun(i:Nat) v=>h9 (fun _=>()) (c4 M m xid ca a (bl (ba.put e b1 ⟨.int .i64,(i:Int)⟩) ca v) v):=by
   funext i v
   exact iV ..
  have xY:=uh (fun _:Option ng=>()) (b:=fun(i:Nat) v=>c4 M m xid ca a (bl (ba.put e b1 ⟨.int .i64,(i:Int)⟩) ca v) v) (c:=fun(i:Nat) v=>h9 (fun _=>()) (c4 M m xid ca a (bl (ba.put e b1 ⟨.int .i64,(i:Int)⟩) ca v) v)) (fun _ _=>rfl) (cm (dk.den M e)).toNat 0 (b9 _ (dE e ca))
  refine⟨⟨⟨I,aM,fun i v hi aw=>⟨(qz i v hi aw).1,fun bh hn=>(Bu i v hi aw).2.2 bh ?_⟩⟩,?_⟩,?_⟩
  ·rw[iV]at hn
   exact ti hn
  ·rw[hR,xY]
   cases aq:bo (fun(i:Nat) v=>c4 M m xid ca a (bl (ba.put e b1 ⟨.int .i64,(i:Int)⟩) ca v) v) 0 (cm (dk.den M e)).toNat (b9 _ (dE e ca))with
   |inl r=>trivial
   |inr v=>exact(kl k (dI v aq)).1
  ·unfold FK
   rw[EI]
   cases aq:bo (fun(i:Nat) v=>c4 M m xid ca a (bl (ba.put e b1 ⟨.int .i64,(i:Int)⟩) ca v) v) 0 (cm (dk.den M e)).toNat (b9 _ (dE e ca))with
   |inl r=>exact cK r aq
   |inr v=>exact(kl k (dI v aq)).2
 | .e0 m xid ca a k,e,Q,h=>by
  obtain⟨I,jC,aM,hm,ad⟩:=h
  have qz:=fun(v:bY ca) aw=>kl a (ad v aw)
  have Bu:=fun(v:bY ca) aw=>Vl (v:=v) (J:=fun bh=>I bh∧jC bh<jC v) (B:=fun bh=>k.wp M (bl e ca bh) Q) (Q:=Q) (qz v aw).2
  obtain⟨zhN,cK,dI⟩:=Vk I jC (fun r=>∃x S ay,r=some (x,S,ay)∧Q x S ay) (fun v=>k.wp M (bl e ca v) Q) Bu dV _ hm aM
  have hR:(fun(v:bY ca)=>(a.fold M (bl e ca v) (eh m xid ca fun _ _ _=>()) (.cO v):Step Unit (bY ca)))=fun v=>h9 (fun _=>()) (c4 M m xid ca a (bl e ca v) v):=by
   funext v
   exact iV ..
  have xY:=xp (fun _:Option ng=>()) (b:=fun v=>c4 M m xid ca a (bl e ca v) v) (c:=fun v=>h9 (fun _=>()) (c4 M m xid ca a (bl e ca v) v)) (fun _=>rfl) dV (b9 _ (dE e ca))
  have zhO:=K5 (fun _:Option ng=>()) (b:=fun v=>c4 M m xid ca a (bl e ca v) v) (c:=fun v=>h9 (fun _=>()) (c4 M m xid ca a (bl e ca v) v)) (fun _=>rfl) dV (b9 _ (dE e ca))
  refine⟨⟨⟨I,aM,fun v aw=>⟨(qz v aw).1,fun bh hn=>((Bu v aw).2.2 bh ?_).1⟩⟩,?_,?_⟩,?_⟩
  ·rw[iV]at hn
   exact ti hn
  ·rw[hR]
   exact zhO.2 zhN
  ·rw[hR,xY]
   cases aq:c5 (fun v=>c4 M m xid ca a (bl e ca v) v) dV (b9 _ (dE e ca))with
   |inl r=>trivial
   |inr v=>exact(kl k (dI v aq)).1
  ·unfold FK
   rw[EJ]
   cases aq:c5 (fun v=>c4 M m xid ca a (bl e ca v) v) dV (b9 _ (dE e ca))with
   |inl r=>exact cK r aq
   |inr v=>exact(kl k (dI v aq)).2
 | .bad _,_,_,h=>h.elim
end
def wL(M:List aR)(t:aC)(rs:List aV)(e:Env):(fc rs).den:=t.kk M e (fun _ C ay=>NV rs C ay) (fc rs).fz
section
variable {P:Program} {G:a8} {M:List aR} {inl:Nat→List ab→ao→aC}
theorem gy(bW:fP P G M inl){f:Nat}{m:aR}(t:aC)(aH:inl f (hA 0 m.ps) (qg m.ps.length)=t)(he:(t.clean&&t.gw.all (uK m.rs))=true)
 (hm: ∀x,wL M t m.rs (gx 0 (dy m.ps x))=m.m x):bJ P G f m:=
 zhM bW t aH he fun x=>by rw[←hm x];exact(mK t _ _ _).symm
theorem zhP(bW:fP P G M inl){f:Nat}{m:aR}(t:aC)(aH:inl f (hA 0 m.ps) (qg m.ps.length)=t)(he:t.gw.all (uK m.rs)=true)
 (ai: ∀x,kP m.pre x→t.wp M (gx 0 (dy m.ps x)) fun _ _ _=>True)(hm: ∀x,wL M t m.rs (gx 0 (dy m.ps x))=m.m x):bJ P G f m:=
 NY bW t aH he (fun x hx=>(kl t (ai x hx)).1) fun x _=>by rw[←hm x];exact(mK t _ _ _).symm
end
end Go.aL
namespace Go.aL
open Go
section
variable {P:Program} {G:a8} {f:FuncId} {args:List aD} {σ:Heap} {n:Nat}
theorem dG.zhQ{t:TypeId}{cs lz:List aD}{R:aD→List aD→Prop}(h:dG P G f (.ptr 0 0::args) [(0,.box t cs)] 1 fun r bV=>∃cs',bV=[(0,.box t cs')]∧R r cs')(ak:e4 args=true)(dJ:e4 cs=true)
 (fQ: ∀r cs',R r cs'→jP r=true∧m9 cs'=true){id:Nat}(bd:aE σ id=some (.box t lz))(gA:fU lz cs):
 dG P G f (.ptr id 0::args) σ n fun r bV=>∃cs',bV=eN σ id (.box t cs')∧R r cs':=by
 intro w β ro ed aa ae au aQ bF
 have dh:=au.c6 id _ bd
 cases dh with
 |box _ _ b arr aB bf ck ep=>
  have Vm: ∀k,Own [(0,ek.box t cs)] (fun _=>β id) k→b3 (β id)=some k:=fun k ⟨i,o,ah,_,ad⟩=>ad
  have k6:hj w ro [(0,.box t cs)] (fun _=>β id) 1:=by
   refine⟨fun i o ah=>?_,fun i zV o cA k ah dW _ _ _ _=>?_,fun k aj an=>au.fh k aj ⟨id,_,bd,rfl,Vm k an⟩,au.lt⟩
   ·simp only[aE]at ah
    split at ah
    ·rename_i hi
     subst hi;cases ah;refine .box t cs b arr aB bf (by rw[ck,gA.at.1]) fun j x af=>?_
     obtain⟨y,ax,ai⟩:=gA.at.2 j x af;exact nW (ai _ _ _ _ _ _ (ep j y ax)) (m4 dJ af)
    ·cases ah
   ·simp only[aE]at ah dW
    split at ah
    ·split at dW
     ·rename_i b6 a2;rw[←b6,←a2]
     ·cases dW
    ·cases ah
  refine Calls.mono (h w (fun _=>β id) ro ed aa (fun i x hx=>?_) k6 aQ (fun i o ah=>?_)) fun e w' ⟨v,r,fG,dM,ro',cJ,he,⟨cs',Kd,ag⟩,dB,hP,cE⟩=>?_
  ·cases i with
   |zero=>
    simp only[List.getElem?_cons_zero,Option.some.injEq]at hx
    subst hx
    have:=ae 0 _ rfl
    generalize ed.getD 0 undef=bS at this⊢
    cases this with
    |ptr _ _ _ aq kg=>
     refine .ptr 0 0 bS Nat.one_pos fun bD cs' ah=>?_
     exact kg t lz bd
   |succ i=>exact nW (ae (i+1) x (by simpa using hx)) (m4 ak (by simpa using hx))
  ·simp only[aE]at ah
   split at ah
   ·rename_i hi;rw[←hi];exact Nat.one_pos
   ·cases ah
  ·subst Kd
   obtain⟨zhR,zhS⟩:=fQ r cs' ag
   have e3:c3 ⟨w,ro,σ,β,n⟩ G ⟨[],σ,n,n⟩ ⟨#[],[]⟩ w β ro:=⟨rfl,rfl,by simp,au,aQ,⟨rfl,rfl,rfl,Nat.le_refl _,fun _ _ _=>rfl,fun _ h=>.inl h,fun _ h=>h,fun _ h=>.inl h,fun id _ o ah=>⟨by simp[ah],rfl⟩,bF,Nat.le_refl _⟩,Nat.le_refl _⟩
   have zhT:dM 0=β id:=(cE.dL 0 Nat.one_pos (.box t cs') (by simp[aE])).2
   have hw:=e3.write (w':=w') id _ (.box t cs') bd rfl rfl (.inl ⟨t,lz,cs',rfl,rfl⟩) cE.os cE.tape cE.output cE.size (fun k aj b4=>cE.frame k aj fun an=>b4 (Vm k an)) (by
    have zhU:=hP.c6 0 (.box t cs') (by simp[aE])
    cases zhU with
    |box _ _ b' zhV g1 g2 g3 g4=>
     exact .box t cs' b' zhV (by rw[←zhT];exact g1) g2 g3 fun j x af=>DJ (g4 j x af) (DI zhS af))
   exact⟨v,r,eN σ id (.box t cs'),β,ro,n,he,⟨cs',rfl,ag⟩,DJ dB zhR,hw.heap,hw.trans⟩
end
def yp(ds:List aF):List aD:=
 match ds with
 |⟨.st c,x⟩::_=>(cb c x).map .av
 |_=>[]
def FL(ds:List aF):aD:=
 match ds.tail.map aF.fo with
 |[v]=>v
 |l=>.tuple l
def jk(P:Program)(G:a8)(f:Nat)(t:TypeId)(m:aR):Prop:=
 ∀x:(fc m.ps).den,kP m.pre x→dG P G f (.ptr 0 0::(dy m.ps x).tail.map aF.fo) [(0,.box t (yp (dy m.ps x)))] 1 fun v bV=>∃cs',bV=[(0,.box t cs')]∧v=FL (dy m.rs (m.m x))∧cs'=yp (dy m.rs (m.m x))
structure j1 where
 f:Nat
 j:Nat
 t:TypeId
 c:bL
 ps:List aV
 rs:List aV
 eP:Bool
def j1.pI(b:j1):ia:=⟨b.f,b.j,.st b.c::b.ps,.st b.c::b.rs,b.eP⟩
def zhW(P:Program)(G:a8)(M:List aR)(b:j1):Prop:=
 (eU aR.d M b.j).ps= .st b.c::b.ps∧(eU aR.d M b.j).rs= .st b.c::b.rs∧jk P G b.f b.t (eU aR.d M b.j)∧(b.eP=true→(eU aR.d M b.j).pre=none)
def JY(P:Program)(G:a8)(M:List aR)(C:List j1):Prop:=∀b∈C,zhW P G M b
def FM(f:Nat):List j1→Option j1
 |[]=>none
 |c::r=>match Nat.beq c.f f with
  |true=>some c
  |false=>FM f r
theorem Vn{f:Nat}{c:j1}: ∀{C:List j1},FM f C=some c→c∈C∧c.f=f
 |[],h=>by cases h
 |d::r,h=>by
  unfold FM at h
  split at h
  ·rename_i hd;cases h;exact⟨List.mem_cons_self ..,Nat.eq_of_beq_eq_true hd⟩
  ·obtain⟨aa,ae⟩:=Vn h;exact⟨List.mem_cons_of_mem _ aa,ae⟩
def pJ(rs:List aV)(k:Nat):Nat:=
 match rs with
 |[_]=>k
 |_=>k+1
def FN(rs:List aV)(k:Nat):ab:=
 match rs with
 |[r]=>Bp r k
 |rs=>.tp (hA k rs)
def FO(b:j1)(S:ao)(id:Nat)(xs:List ab):ao:=
 ⟨ba.put .emp 0 (FN b.rs (pJ b.pI.rs S.k+1)),jv S.h id (.dj b.t (iT b.c (pJ b.pI.rs S.k) 0 (eY b.c))),S.n,S.k+(iE b.pI xs S.k).length,S.g⟩
def Vo(b:j1)(S:ao)(t:TypeId)(l rest xs:List ab):Bool:=
 (Nat.beq t b.t&&(ht (eY b.c) l&&ab.cL S.k l))&&((tM rest&&ab.cL S.k xs)&&((aV.st b.c).tL&&(b.rs.all aV.tL&&b.rs.all aV.iA)))
def NZ(C:List j1)(inl:Nat→List ab→ao→aC)(f:Nat)(aG:List ab)(S:ao):aC:=
 match FM f C,aG with
 |some b,.ee id 0::rest=>match da S.h id,se S b.ps rest with
  |some (.dj t l),some xs=>match Vo b S t l rest xs with
   |true=>emit S.k (iE b.pI (.ch l::xs) S.k) (FE b.pI (.ch l::xs)) (.cH .cj (FO b S id (.ch l::xs)))
   |false=>inl f aG S
  |_,_=>inl f aG S
 |_,_=>inl f aG S
section
variable {P:Program} {G:a8} {M:List aR} {C:List j1} {inl:Nat→List ab→ao→aC}
theorem zhX{c:ia}{xs:List ab}{k:Nat}{e:Env}{y:(fc c.rs).den}(aq:ab.cL k xs=true)(aM:Env.at (df M e k (iE c xs k)) k=⟨fc c.rs,y⟩):
 ∀(j:Nat) (d:aF),(dy c.rs y)[j]? =some d→Env.at (df M e k (iE c xs k)) (pJ c.rs k+j)=d:=by
 have eK:=jz (M:=M) (e:=e) (FG (c:=c) aq)
 obtain⟨f,FI,ps,rs,eP⟩:=c
 simp only at y aM eK⊢
 match rs,y,aM,eK with
 |[],y,aM,eK=>intro j d af;cases af
 |[r],y,aM,eK=>
  intro j d af
  cases j with
  |zero=>
   have af:(⟨r,y⟩:aF)=d:=by simpa[dy]using af
   rw[←af];exact aM
  |succ j=>simp[dy]at af
 |r::s::l,y,aM,eK=>
  intro j d af
  have hlen:j<(r::s::l).length:=by
   have aa:=(List.getElem?_eq_some_iff.1 af).1
   have:=congrArg List.length (tN (rs:=r::s::l) (x:=y))
   rw[List.length_map]at this;omega
  have aa:=eK (j+1) (.rT (r::s::l) k j) (by
   show(bK.ca FI xs::om (r::s::l) k 0 (r::s::l))[j+1]? =_
   rw[List.getElem?_cons_succ,NO,if_pos hlen,Nat.zero_add])
  show Env.at _ (k+1+j)=d;rw[show k+1+j=k+(j+1)by omega,aa]
  simp only[bK.den,aM,cB];exact NS af
theorem zhY{e:Env}{rs:List aV}{k:Nat}{ds:List aF}(ag:ds.map aF.r=rs)(h: ∀j d,ds[j]? =some d→Env.at e (k+j)=d):(FN rs k).den G e=(match ds.map aF.fo with|[v]=>v|l=>.tuple l):=by
 match rs,ds,ag,h with
 |[],ds,ag,h=>cases my ag;rfl
 |[r],ds,ag,h=>
  obtain⟨d,pg,rfl,aa,ae⟩:=lO ag
  cases my ae
  subst aa;exact NQ (x:=d.v) (h 0 d rfl)
 |r::s::l,ds,ag,h=>
  have:=Bq (G:=G) (i:=k) ag h
  obtain⟨d,pg,rfl,aa,ae⟩:=lO ag;obtain⟨d2,zj7,rfl,au,aQ⟩:=lO ae;show aD.tuple (ab.bQ G e (hA k (r::s::l)))=_;rw[this];rfl
theorem zhZ{ds:List aF}{c:bL}{x:fO c}{r:List aF}(h:ds=⟨.st c,x⟩::r)(hc:(aV.st c).tL=true):m9 (yp ds)=true:=by
 subst h
 have:=Vd (d:=⟨.st c,x⟩) hc
 exact this
theorem zh0(q3:JY P G M C)(bW:fP P G M inl):fP P G M (NZ C inl):=fun f aG S e ad aq hf ai=>by
 unfold NZ at ai⊢
 split at ai
 rotate_left
 ·exact bW _ _ S e ad aq hf ai
 rename_i b id rest hc
 split at ai
 rotate_left
 ·exact bW _ _ S e ad aq hf ai
 rename_i t l xs ah hx
 split at ai
 rotate_left
 ·exact bW _ _ S e ad aq hf ai
 rename_i aj
 simp only[Vo,Bool.and_eq_true]at aj
 obtain⟨⟨fy,gH,k8⟩,⟨sQ,zB⟩,uO,wQ,N0⟩:=aj
 have fy:=Nat.eq_of_beq_eq_true fy
 subst fy
 obtain⟨hm,Bt⟩:=Vn hc
 obtain⟨g1,g2,g3,g4⟩:=q3 b hm
 have zh1:ab.lt S.k (.ch l)=true:=k8
 have FP:ab.cL S.k (.ch l::xs)=true:=by simp only[ab.cL,zh1,zB,Bool.and_self]
 obtain⟨hn,_⟩:=mG ai
 have vP:=FG (c:=b.pI) FP
 have bR:bX S.k e (df M e S.k (iE b.pI (.ch l::xs) S.k)):=jT (Nat.le_refl _)
 have b4:b.eP=false→ff.ok M (df M e S.k (iE b.pI (.ch l::xs) S.k)) (.ca b.j (.ch l::xs)):=fun jo=>hn _ (by unfold FE;rw[show b.pI.eP=b.eP from rfl,jo];exact List.mem_singleton.2 rfl)
 obtain⟨b6,a2,a3,a4⟩:=yo (G:=G) (e:=e) hx
 have eK:=jz (M:=M) (e:=e) vP 0 (.ca b.j (.ch l::xs)) (by unfold iE;split<;>rfl)
 have dD:=Aq (G:=G) (e:=e) gH
 obtain⟨FQ,Bv,bt,hW,sf,nw,Bw⟩:=b
 simp only[j1.pI]at g1 g2 g3 g4 Bt vP bR b4 b6 a2 a3 a4 eK gH uO wQ N0 dD hx⊢
 subst Bt
 simp only[Nat.add_zero,bK.den]at eK
 simp only[ff.ok]at b4
 clear ai hn
 generalize eU aR.d M Bv=m at g1 g2 g3 g4 eK b4
 obtain⟨zj8,zj9,zka,oq⟩:=m
 simp only at g1 g2 g3 g4 eK b4
 subst g1 g2
 rw[xv bR FP]at eK
 have vO:(gD e (.st hW::sf) (.ch l::xs)).map aF.r= .st hW::sf:=by simp only[gD,List.map_cons,a4]
 have Bx:=yn vO
 have hp:=g3 (b9 _ (gD e (.st hW::sf) (.ch l::xs))) (by
  cases Bw with
  |true=>rw[g4 rfl];trivial
  |false=>
   have:=b4 rfl
   rw[xv bR FP]at this
   exact this)
 simp only at hp
 rw[Bx]at hp
 generalize ax:oq (b9 (.st hW::sf) (gD e (.st hW::sf) (.ch l::xs)))=y at hp eK
 have Ez:=zhX (M:=M) (c:=⟨FQ,Bv,.st hW::sf,.st hW::nw,Bw⟩) FP eK
 obtain⟨d0,tP,m6,ox,hdr⟩:=lO (tN (rs:=.st hW::nw) (x:=y))
 obtain⟨zh2,c7⟩:=d0
 simp only at ox
 subst ox
 simp only[m6]at hp Ez
 rw[a3 sQ]at b6 a2
 have hp:=hp.arg (.cons (Sub.refl _) b6)
 have bd:aE (cy G e S.h) id=some (.box bt (ab.bQ G e l)):=by rw[ei,ah];rfl
 have lX:=dG.zhQ (R:=fun r cs'=>r=FL (⟨.st hW,c7⟩::tP)∧cs'=yp (⟨.st hW,c7⟩::tP)) (σ:=cy G e S.h) (n:=S.n) hp a2 (Ds _) (fun r cs' ⟨c1,dg⟩=>⟨by
  rw[c1]
  have hsc:m9 (tP.map aF.fo)=true:=NN fun d hd=>by
   have:d.r∈nw:=by rw[←hdr];exact List.mem_map_of_mem hd
   exact List.all_eq_true.1 wQ d.r this
  unfold FL;simp only[List.tail_cons]
  split
  ·rename_i v aw
   rw[aw]at hsc;simpa[m9]using hsc
  ·exact hsc,by rw[dg];exact zhZ rfl uO⟩) bd dD
 have aM:=Ez 0 ⟨.st hW,c7⟩ rfl
 rw[Nat.add_zero]at aM
 have hlen:pJ (.st hW::nw) S.k+1+nw.length≤S.k+(iE ⟨FQ,Bv,.st hW::sf,.st hW::nw,Bw⟩ (.ch l::xs) S.k).length:=by
  cases nw with
  |nil=>simp[pJ,iE]
  |cons r q=>simp only[pJ,iE,List.length_cons,NP];omega
 have zh3:pJ (.st hW::nw) S.k<S.k+(iE ⟨FQ,Bv,.st hW::sf,.st hW::nw,Bw⟩ (.ch l::xs) S.k).length:=by omega
 refine lX.res fun r bV ⟨cs',aa,ae,au⟩=>⟨_,_,by rw[lV];rfl,?_,?_,?_,?_,bR,Nat.le_add_right _ _⟩
 ·rw[ae]
  have:=zhY (G:=G) (k:=pJ (.st hW::nw) S.k+1) hdr fun j d af=>by
   have:=Ez (j+1) d (by simpa using af)
   rw[←this]
   congr 1
   omega
  show _=ab.den G _ (ao.at (FO _ S id _) 0);unfold FO ao.at
  simp only[ba.h0,if_true];exact this.symm
 ·rw[aa,au]
  show _=cy G _ (jv S.h id _);rw[tj,xu bR ad.h];simp only[bG.den,j1.pI];rw[tc,aM,cB];rfl
 ·refine⟨fun i x hi=>?_,E5 (o:=.dj bt (iT hW (pJ (.st hW::nw) S.k) 0 (eY hW))) (FH zh3) (tk (Nat.le_add_right _ _) ad.h),oa (Nat.le_add_right _ _) ad.g⟩
  simp only[FO,ba.h0]at hi
  split at hi
  ·cases hi
   show(FN nw (pJ (.st hW::nw) S.k+1)).lt (S.k+_)=true;unfold FN
   split
   ·have Kj:pJ (.st hW::[_]) S.k+1<S.k+(iE ⟨FQ,Bv,.st hW::sf,.st hW::[_],Bw⟩ (.ch l::xs) S.k).length:=hlen
    exact NR Kj
   ·simp only[ab.lt]
    exact Br hlen
  ·simp[ba.get]at hi
 ·exact ik bR ad.g hf
end
end Go.aL
