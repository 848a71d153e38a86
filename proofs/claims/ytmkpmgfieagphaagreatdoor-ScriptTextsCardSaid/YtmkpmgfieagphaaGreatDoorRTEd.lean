/- TD, part Z: regions of drawn order, sound. Conditions: none. -/
import Derived.Test.YtmkpmgfieagphaaGreatDoorRTDy
namespace Go.aM
open Go
def xf(v:ab):Bool:=
 match v.rt with
 |some (.int _)=>true
 |some .bool=>true
 |some .str=>true
 |_=>false
def KA(P:Program)(S:ar)(t:TypeId)(id:Nat)(i:ab):Option dQ:=
 match i.rt,jV P t,dq S.h id with
 |some (.int k),some n,some (.rw _ c y)=>match Nat.beq n (c8 c)with
  |true=>some ⟨[],oT S.g (.iC c) (.j3 c k) y i,.gy id i 0⟩
  |false=>none
 |_,_,_=>none
def KB(P:Program)(S:ar)(t:TypeId)(x i:ab):Option dQ:=
 match i.rt,jV P t,uL x with
 |some (.int k),some n,some c=>match Nat.beq n (c8 c)with
  |true=>some ⟨[.f2 (.j3 c k) x i],oT S.g (.iC c) (.j3 c k) x i,.ip c S.k 0⟩
  |false=>none
 |_,_,_=>none
def KC(P:Program)(S:ar)(t:TypeId)(id off:Nat)(i:ab):Option dQ:=
 match i.rt,uh P t,uI S (.dD id off)with
 |some (.int _),some (len,n),some _=>match i with
  | .cs (.int _ (.ofNat j))=>match Nat.blt j len,wH (j*n) (.dD id off)with
   |true,some p=>some ⟨[],[],p⟩
   |_,_=>none
  |i=>some ⟨[],wF S.g len i,.gF id off i n⟩
 |_,_,_=>none
def DQ(P:Program)(N:Nat)(S:ar)(t:TypeId)(x:ab)(lo hi:Option Operand):Option dQ:=
 match wJ N S lo,wJ N S hi,x.rt,jV P t with
 |some l,some h,some (.li c),some n=>match Nat.beq n (c8 c)with
  |true=>some ⟨[.eX c x l h],[.eX c x l h],.bl (.li c) S.k⟩
  |false=>none
 |_,_,_,_=>none
def ru(P:Program)(N:Nat)(S:ar)(o:Oper):Option dQ:=
 match o.op with
 | .move x=>some ⟨[],[],S.a6 N x⟩
 | .assign x=>some ⟨[],[],S.a6 N x⟩
 | .nilCheck x=>match sx S (S.a6 N x)with
  |true=>some ⟨[],[],S.a6 N x⟩
  |false=>none
 | .fieldAddr t x f=>match r5 P t f,sx S (S.a6 N x)with
  |some k,true=>match wH k (S.a6 N x)with
   |some p=>some ⟨[],[],p⟩
   |none=>none
  |_,_=>none
 | .load t x=>match uI S (S.a6 N x)with
  |some l=>match rb P t l with
   |some v=>some ⟨[],[],v⟩
   |none=>none
  |none=>match pR P N S o with
   |some r=>match xf r.v with
    |true=>some r
    |false=>none
   |none=>none
 | .indexAddr t x i=>match S.a6 N x with
  | .aP id=>KA P S t id (S.a6 N i)
  | .dD id off=>KC P S t id off (S.a6 N i)
  |y=>KB P S t y (S.a6 N i)
 | .slice t x lo hi none=>match DQ P N S t (S.a6 N x) lo hi with
  |some r=>some r
  |none=>match pR P N S o with
   |some r=>match xf r.v with
    |true=>some r
    |false=>none
   |none=>none
 |_=>match pR P N S o with
  |some r=>match xf r.v with
   |true=>some r
   |false=>none
  |none=>none
def nv(o:Oper):Bool:=
 match o.op with
 | .store _ _ _=>true
 | .alloc _=>true
 | .box _ _=>true
 | .buildSlice _ _ _=>true
 | .mapUpdate _ _ _ _=>true
 | .call c=>match c.callee with
  | .builtin .append=>true
  | .builtin .copy=>true
  |_=>false
 |_=>false
mutual
def ab.pure:ab→Bool
 | .bl _ _=>true
 | .fd _ _ _ _=>true
 | .cs _=>true
 | .ip _ _ _=>true
 | .cF l=>ab.eP l
 | .tp l=>ab.eP l
 | .fn _ a b=>ab.eP a&&ab.eP b
 |_=>false
def ab.eP:List ab→Bool
 |[]=>true
 |x::r=>ab.pure x&&ab.eP r
end
def KD(S:ar)(dst:Option Nat)(C:ar):aB:=
 match ab.pure (C.at 0)with
 |true=>.cu .b9 ((⟨S.l,S.h,S.n,C.k,C.g⟩:ar).put dst (C.at 0))
 |false=>.bad 74
def rv(P:Program)(N B:Nat)(T:List (Nat × bO))(inl:Nat→List ab→ar→aB)(o:Oper)(S:ar):aB:=
 match nv o with
 |true=>match Dc P N B T S o with
  |some r=>match gU S.k r.xs&&(r.v.lt (S.k+r.xs.length)&&eI (S.k+r.xs.length) r.h)with
   |true=>emit S.k r.xs r.ns (.cu .b9 ((r.st S o.dst).eJ S.k r.xs))
   |false=>.bad 31
  |none=>.bad (100+JQ o)
 |false=>match pR P N S o with
  |some r=>match gU S.k r.xs&&r.v.lt (S.k+r.xs.length)with
   |true=>emit S.k r.xs r.ns (.cu .b9 ((S.eJ S.k r.xs).put o.dst r.v))
   |false=>.bad 30
  |none=>match Df N S o with
   |some (f,as)=>match nb P f&&ab.eP as with
    |true=>(inl f as ⟨.emp,[],0,S.k,S.g⟩).eC (KD S o.dst) none
    |false=>.bad 32
   |none=>.bad (100+JQ o)
def p2(P:Program)(N B:Nat)(T:List (Nat × bO))(inl:Nat→List ab→ar→aB)(ops:Array Oper)(o:Oper)(S:ar):aB:=
 match guardOf N ops S o with
 | .yes=>rv P N B T inl o S
 | .no=>match nv o with
  |false=>.cu .b9 (S.put o.dst (.tp []))
  |true=>.bad 73
 | .on gs=>match lR S.k gs&& !(nv o)with
  |true=>match pR P N {S with g:=gW gs S.g} o with
   |some r=>match gU S.k r.xs&&r.v.lt (S.k+r.xs.length)with
    |true=>emit S.k r.xs (r.ns.map (pV gs)) (.cu .b9 ((S.eJ S.k r.xs).put o.dst (j9 gs r.v)))
    |false=>.bad 35
   |none=>sG (rk S o.dst) gs (rv P N B T inl o {S with g:=gW gs S.g}) S.g
  |false=>.bad 36
 | .bad=>.bad 37
def sP(P:Program)(N:Nat)(ops:Array Oper)(o:Oper)(S:ar)(k:ar→aB):aB:=
 match guardOf N ops S o with
 | .yes=>match ru P N S o with
  |some r=>match gU S.k r.xs&&r.v.lt (S.k+r.xs.length)with
   |true=>emit S.k r.xs r.ns (k ((S.eJ S.k r.xs).put o.dst r.v))
   |false=>.bad 30
  |none=>.bad 76
 | .no=>k (S.put o.dst (.tp []))
 | .on gs=>match lR S.k gs with
  |true=>match ru P N {S with g:=gW gs S.g} o with
   |some r=>match gU S.k r.xs&&r.v.lt (S.k+r.xs.length)with
    |true=>emit S.k r.xs (r.ns.map (pV gs)) (k ((S.eJ S.k r.xs).put o.dst (j9 gs r.v)))
    |false=>.bad 35
   |none=>.bad 76
  |false=>.bad 36
 | .bad=>.bad 37
def pop(P:Program)(N:Nat)(S:ar)(o:Oper):Bool:=
 match o.op with
 | .move _=>true
 | .assign _=>true
 | .nilCheck _=>true
 | .fieldAddr _ _ _=>true
 | .indexAddr _ _ _=>true
 | .slice t x lo hi none=>(DQ P N S t (S.a6 N x) lo hi).isSome
 |_=>false
def xg(P:Program)(N:Nat)(ops:Array Oper)(S:ar)(o:Oper):Bool:=
 match guardOf N ops S o with
 | .yes=>pop P N S o
 | .no=>true
 | .on gs=>pop P N {S with g:=gW gs S.g} o
 | .bad=>false
def zb6(P:Program)(N:Nat)(ops:Array Oper)(wr m:List Bool)(S:ar)(i:Nat):Bool:=
 match ops[i]? with
 |some o=>(Region.free .any ops m.toArray i&&(!(wr.getD i false)&&(xg P N ops S o||DO ops wr m i)))&&(match guardOf N ops S o with
  | .yes=>(ru P N S o).isSome
  | .no=>true
  | .on gs=>(ru P N {S with g:=gW gs S.g} o).isSome
  | .bad=>false)
 |none=>false
def RT(P:Program)(N:Nat)(ops:Array Oper)(wr m:List Bool)(S:ar):List Nat→Option Nat
 |[]=>none
 |i::r=>match zb6 P N ops wr m S i with
  |true=>some i
  |false=>RT P N ops wr m S r
def DR(N:Nat)(ops:Array Oper)(S:ar)(o:Oper):List (ab × Bool):=
 match guardOf N ops S o with
 | .on gs=>gs
 |_=>[]
def KE:bX→bX→Bool
 | .d1 i f x,.d1 j g y=>Nat.beq i j&&(decide (f=g)&&fD x y)
 | .d2 i f x y,.d2 j g u v=>(Nat.beq i j&&decide (f=g))&&(fD x u&&fD y v)
 | .rg i b,.rg j c=>Nat.beq i j&&fD b c
 | .dP g b,.dP h c=>fD g h&&decide (b=c)
 |_,_=>false
def DS:List bX→List bX→Bool
 |[],[]=>true
 |x::l,y::m=>KE x y&&DS l m
 |_,_=>false
def KF:bE→bE→Bool
 | .dc t l,.dc u m=>Nat.beq t u&&sD l m
 | .rw t c x,.rw u d y=>Nat.beq t u&&(decide (c=d)&&fD x y)
 | .it x p,.it y q=>fD x y&&fD p q
 |_,_=>false
def DT:List (Nat × bE)→List (Nat × bE)→Bool
 |[],[]=>true
 |(i,x)::l,(j,y)::m=>Nat.beq i j&&(KF x y&&DT l m)
 |_,_=>false
def Ae:bb ab→bb ab→Bool
 | .emp,.emp=>true
 | .n v l r,.n w m s=>(match v,w with
  |some x,some y=>fD x y
  |none,none=>true
  |_,_=>false)&&(Ae l m&&Ae r s)
 |_,_=>false
def KG(S U:ar):Bool:=(Ae S.l U.l&&DT S.h U.h)&&((Nat.beq S.n U.n&&Nat.beq S.k U.k)&&DS S.g U.g)
def DU(S:ar):List aB→Bool
 |[]=>true
 | .cu .b9 U::r=>KG U S&&DU S r
 |_=>false
def Af:List aB→aB
 | .cu .b9 S::r=>match DU S r with
  |true=>.cu .b9 S
  |false=>.bad 72
 |_=>.bad 71
def p3(P:Program)(N B:Nat)(T:List (Nat × bO))(inl:Nat→List ab→ar→aB)(ops:Array Oper)(wr:List Bool):Nat→List Bool→ar→aB
 |0,m,S=>match Region.ready .any ops m.toArray with
  |[]=>.cu .b9 S
  |_=>.bad 70
 |n+1,m,S=>match Region.ready .any ops m.toArray with
  |[]=>.cu .b9 S
  |i::rd=>match RT P N ops wr m S (i::rd)with
   |some j=>match ops[j]?,(Region.ready .any ops m.toArray).contains j&&(Region.free .any ops m.toArray j&& !(wr.getD j false))with
    |some o,true=>match xg P N ops S o||DO ops wr m j with
     |true=>sP P N ops o S (p3 P N B T inl ops wr n (m.set j true))
     |false=>.bad 79
    |_,_=>.bad 77
   |none=>match rd,ops[i]? with
    |[],some o=>match decide (wr.getD i false=nv o)with
     |true=>pT N S o.dst (DR N ops S o) (p2 P N B T inl ops o S) (p3 P N B T inl ops wr n (m.set i true))
     |false=>.bad 78
    |_,_=>Af ((i::rd).map fun j=>match ops[j]? with
     |some o=>match decide (wr.getD j false=nv o)with
      |true=>pT N S o.dst (DR N ops S o) (p2 P N B T inl ops o S) (p3 P N B T inl ops wr n (m.set j true))
      |false=>.bad 78
     |none=>.bad 77)
def KH(P:Program)(N B:Nat)(T:List (Nat × bO))(inl:Nat→List ab→ar→aB)(ops:Array Oper)(S:ar):aB:=
 match P.follows .mixedOrders&&Region.noSelect ops with
 |true=>p3 P N B T inl ops (ops.toList.map nv) ops.size (List.replicate ops.size false) S
 |false=>.bad 75
section
variable {P:Program} {G:a7} {N B:Nat} {M:List a1} {T:List (Nat × bO)} {inl:Nat→List ab→ar→aB}
theorem zb7{v:ab}{e:Env}(h:xf v=true): ∃c,v.den G e= .au (.v c):=by
 unfold xf at h
 split at h
 ·rename_i af;exact⟨_,gJ af⟩
 ·rename_i af;exact⟨_,gJ af⟩
 ·rename_i af;exact⟨_,gJ af⟩
 ·cases h
theorem zb8{t:TypeId}{n:Nat}(h:l8 P t=some n):scalar P t=false:=by
 unfold l8 at h
 unfold scalar
 split at h<;>simp_all
theorem jw.ry{ops:Array Oper}{o:Oper}{s:aN}{v:aE}(h:ml P G o s v)(ah:dX ops s o=some true):jw P G ops o s (s.put o.dst v):=by
 intro E a w ⟨β,ro,af⟩
 have hw:=nS (ops:=ops) ⟨β,ro,af⟩ ah
 obtain⟨c,aa,ad⟩:=h E a w β ro af
 exact⟨c,.inl ⟨hw,fun cq _=>aa cq⟩,β,ro,af.put _ _ _ ad⟩
theorem RU{o:Oper}{S:ar}{t:TypeId}{x i:Operand}{r:dQ}{e:Env}(an:o.op= .indexAddr t x i)(h:KB P S t (S.a6 N x) (S.a6 N i)=some r)(hf:S.cx e)(hx: ∀(j:Nat) (x:bS),r.xs[j]? =some x→Env.at e (S.k+j)=x.den M e)(hn: ∀n∈r.ns,n.ok M e):ml P G o (S.den G N B e) (r.v.den G e):=by
 unfold KB at h
 split at h
 ·rename_i k n c hi lP hc
  split at h
  ·rename_i ae
   cases h
   have ae:=Nat.eq_of_beq_eq_true ae
   rw[ae]at lP
   have gE:aJ G (S.den G N B e) i=_:=(bJ hf i).trans (jB hi)
   obtain⟨hd,I1⟩:=I0 (G:=G) (e:=e) hc;obtain⟨g1,g2⟩:=wG hf hi hn
   have:=PK c _ k _ an lP gE ((bJ hf x).trans hd) g1 g2
   have aU:Env.at e S.k=_:=hx 0 _ rfl
   have aa:=Qd (G:=G) (x:=List.getD ((S.a6 N x).aH e (.li c)) (Int.toNat ((S.a6 N i).aH e (.int k))) (dJ c)) aU
   show ml P G o _ ((ab.ip c S.k 0).den G e);rw[aa];exact this
  ·cases h
 ·cases h
theorem zb9{o:Oper}{s:aN}(t:TypeId)(x i:Operand)(an:o.op= .indexAddr t x i){n:Nat}(aG:jV P t=some n){k:IntKind}{j:Nat}(hi:aJ G s i= .au (.v (.int k (j:Int)))){p:aE}(ak:nc s.heap n j (aJ G s x)=some p):
 ml P G o s p:=
 fun _ a w β ro af=>by
  obtain⟨cS,len,cap,hc,ai,dp⟩:=OS af.heap (af.eval x) ak;obtain⟨e,hu,bK⟩:=yF aG;refine⟨_,fun cq=>?_,dp⟩
  have ug:(0:Int)≤j∧(j:Int)<len:=⟨by omega,by omega⟩
  simp[execOp,an,hc,af.ep hi,Instr.indexAt,asIntOf,run_underlying hu,ai,bK]
theorem RV{o:Oper}{S:ar}{t:TypeId}{x i:Operand}{id:Nat}{r:dQ}{e:Env}(an:o.op= .indexAddr t x i)(hid:S.a6 N x= .aP id)(h:KA P S t id (S.a6 N i)=some r)(hf:S.cx e)(hx: ∀(j:Nat) (x:bS),r.xs[j]? =some x→Env.at e (S.k+j)=x.den M e)(hn: ∀n∈r.ns,n.ok M e):ml P G o (S.den G N B e) (r.v.den G e):=by
 unfold KA at h
 split at h
 ·rename_i k n bw c y hi lP ah
  split at h
  ·rename_i ae
   cases h
   have ae:=Nat.eq_of_beq_eq_true ae
   have gE:aJ G (S.den G N B e) i=_:=(bJ hf i).trans (jB hi)
   obtain⟨g1,g2⟩:=wG hf hi hn;obtain⟨j,ai⟩: ∃j:Nat,(S.a6 N i).aH e (.int k)=(j:Int):=⟨_,(Int.toNat_of_nonneg g1).symm⟩;rw[ai]at gE g2
   have g2:(j:Int)<((List.length (y.aH e (.li c)):Nat):Int):=g2
   have:=zb9 (P:=P) (o:=o) t x i an lP gE (p:=.cH id j 0) (by
    rw[bJ hf,hid];simp only[ab.den,nc,ar.den,eR,ah,Option.map_some,bE.den]
    rw[if_pos ⟨ae.symm,by rw[List.length_map];omega⟩])
   simp only[ab.den,mo hi,ai,Int.toNat_natCast];exact this
  ·cases h
 ·cases h
theorem RX{o:Oper}{s:aN}(t:TypeId)(x i:Operand)(an:o.op= .indexAddr t x i){len n:Nat}(aG:uh P t=some (len,n)){k:IntKind}{j:Nat}(hi:aJ G s i= .au (.v (.int k (j:Int))))(ai:j<len)
 {cs:List aE}(fA:fj s.heap (aJ G s x)=some cs){p:aE}(ak:iT (j*n) (aJ G s x)=some p):
 ml P G o s p:=
 fun _ a w β ro af=>by
  obtain⟨cS,hc,dp⟩:=Oa ak fA (af.eval x);unfold uh at aG
  split at aG
  ·rename_i m e hu
   cases ui:P.info? e with
   |none=>simp[ui]at aG
   |some Yi=>
    simp[ui]at aG;obtain⟨rfl,rfl⟩:=aG;refine⟨_,fun cq=>?_,dp⟩
    simp[execOp,an,hc,af.ep hi,Instr.indexAt,asIntOf,run_underlying hu,Instr.sureAddr,ai,sizeOf,typeInfo,ui]
  ·cases aG
theorem RY{o:Oper}{S:ar}{t:TypeId}{x i:Operand}{id off:Nat}{r:dQ}{e:Env}(an:o.op= .indexAddr t x i)(hid:S.a6 N x= .dD id off)(h:KC P S t id off (S.a6 N i)=some r)(hf:S.cx e)(hn: ∀n∈r.ns,n.ok M e):ml P G o (S.den G N B e) (r.v.den G e):=by
 unfold KC at h
 split at h
 ·rename_i k len n l hi aI ao
  have gE:aJ G (S.den G N B e) i=_:=(bJ hf i).trans (jB hi)
  have fA:=zl (G:=G) (N:=N) (B:=B) (e:=e) ao
  have sH:aJ G (S.den G N B e) x=(ab.dD id off).den G e:=by rw[bJ hf,hid]
  rw[←sH]at fA
  split at h
  ·rename_i br j ai
   split at h
   ·rename_i p dT ak
    cases h;refine RX t x i an aI (k:=br) (j:=j) (by rw[bJ hf,ai];rfl) (e2 dT) fA ?_
    have ag:=zm (G:=G) (e:=e) ak
    rw[←ag,sH];rfl
   ·cases h
  ·cases h
   have kF:0≤cg ((S.a6 N i).dyn e)∧cg ((S.a6 N i).dyn e)<(len:Int):=CF hf hn
   obtain⟨j,ai⟩: ∃j:Nat,cg ((S.a6 N i).dyn e)=(j:Int):=⟨_,(Int.toNat_of_nonneg kF.1).symm⟩;rw[←mo hi,ai]at gE;refine RX t x i an aI gE (by omega) fA ?_
   rw[sH];simp only[ab.den,iT,ai,Int.toNat_natCast]
 ·cases h
theorem RZ{o:Oper}{S:ar}{t:TypeId}{x:Operand}{lo hi:Option Operand}{r:dQ}{e:Env}(an:o.op= .slice t x lo hi none)(h:DQ P N S t (S.a6 N x) lo hi=some r)(hf:S.cx e)(hx: ∀(j:Nat) (x:bS),r.xs[j]? =some x→Env.at e (S.k+j)=x.den M e)(hn: ∀n∈r.ns,n.ok M e):ml P G o (S.den G N B e) (r.v.den G e):=by
 unfold DQ at h
 split at h
 ·rename_i l h' c n ao aX af lP
  split at h
  ·rename_i ae
   cases h;rw[Nat.eq_of_beq_eq_true ae]at lP
   have aU:Env.at e S.k=_:=hx 0 _ rfl
   simp only[ab.den,aU,bS.den,cT];exact P1 c _ an lP ((bJ hf x).trans (gJ af)) (wL hf ao) (wL hf aX) (hn _ (List.mem_singleton.2 rfl))
  ·cases h
 ·cases h
theorem zca{ops:Array Oper}{o:Oper}{S:ar}{r:dQ}{e:Env}(h:ru P N S o=some r)(hf:S.cx e)(hx: ∀(j:Nat) (x:bS),r.xs[j]? =some x→Env.at e (S.k+j)=x.den M e)(hn: ∀n∈r.ns,n.ok M e)(ah:dX ops (S.den G N B e) o=some true):
 jw P G ops o (S.den G N B e) ((S.den G N B e).put o.dst (r.v.den G e)):=by
 have key:(match pR P N S o with
  |some r=>match xf r.v with
   |true=>some r
   |false=>none
  |none=>none)=some r→jw P G ops o (S.den G N B e) ((S.den G N B e).put o.dst (r.v.den G e)):=fun h=>by
  split at h
  ·rename_i ew av
   split at h
   ·rename_i hc
    cases h
    have dN:=uP (G:=G) (B:=B) (M:=M) av e hf hx hn
    obtain⟨c,zcb⟩:=zb7 (G:=G) (e:=e) hc;rw[zcb]at dN⊢;exact jw.qY dN ah
   ·cases h
  ·cases h
 unfold ru at h
 split at h
 ·rename_i x an
  cases h
  have:jZ P G o (S.den G N B e)=some ((S.a6 N x).den G e):=by unfold jZ;rw[an,←bJ hf]
  exact(gS.val this ah).l
 ·rename_i x an
  cases h
  have:jZ P G o (S.den G N B e)=some ((S.a6 N x).den G e):=by unfold jZ;rw[an,←bJ hf]
  exact(gS.val this ah).l
 ·rename_i x an
  split at h
  ·rename_i ak
   cases h
   have:jZ P G o (S.den G N B e)=some ((S.a6 N x).den G e):=by
    unfold jZ;rw[an];simp only[bJ hf,uK ak]
   exact(gS.val this ah).l
  ·cases h
 ·rename_i t x f an
  split at h
  ·rename_i k aj ak
   split at h
   ·rename_i p ag
    cases h
    have:jZ P G o (S.den G N B e)=some (p.den G e):=by
     unfold jZ;rw[an];simp only[aj,bJ hf,uK ak,zm ag]
    exact(gS.val this ah).l
   ·cases h
  ·cases h
 ·rename_i t x an
  split at h
  ·rename_i l ao
   split at h
   ·rename_i v av
    cases h
    have hc:=zl (G:=G) (N:=N) (B:=B) (e:=e) ao
    have:Cr P G o (S.den G N B e)=some (v.den G e):=by
     unfold Cr;rw[an];simp only[bJ hf,hc]
     rcases Rf (G:=G) (e:=e) av with⟨n,g1,g2,g3,g4⟩|⟨g1,g2,ew,g3⟩
     ·cases l with
      |nil=>simp at g2;omega
      |cons y l=>
       have ag:scalar P t=false:=zb8 g1
       rw[g4];simp only[ab.bR,ag,g1];rw[if_pos ⟨by simpa[nq]using g2,g3⟩]
     ·subst g3
      simp only[ab.bR,g2]
    exact jw.load this ah
   ·cases h
  ·exact key h
 ·rename_i t x i an
  split at h
  ·rename_i id hid
   exact jw.ry (RV an hid h hf hx hn) ah
  ·rename_i id off hid
   exact jw.ry (RY an hid h hf hn) ah
  ·exact jw.ry (RU an h hf hx hn) ah
 ·rename_i t x lo hi an
  split at h
  ·rename_i ew ag
   cases h;exact jw.ry (RZ an ag hf hx hn) ah
  ·exact key h
 ·exact key h
mutual
theorem R0{e:Env}: ∀{x:ab},ab.pure x=true→fl (x.den G e)=true:=fun {x} h=>by
 cases x with
 |cF l=>simp only[ab.den,fl];exact xh (l:=l) h
 |tp l=>simp only[ab.den,fl];exact xh (l:=l) h
 |fn f a b=>
  simp only[ab.pure,Bool.and_eq_true]at h;simp only[ab.den,fl,xh h.1,xh h.2,Bool.and_self]
 |dD k o=>cases h
 |gy k x o=>cases h
 |gF k o x n=>cases h
 |cz k n=>cases h
 |e4 g i o=>cases h
 |aP k=>cases h
 |iX k=>cases h
 |fr g b x=>cases h
 |lM g o=>cases h
 |top=>cases h
 |_=>rfl
theorem xh{e:Env}: ∀{l:List ab},ab.eP l=true→eP (ab.bR G e l)=true:=fun {l} h=>by
 match l with
 |[]=>rfl
 |x::r=>
  simp only[ab.eP,Bool.and_eq_true]at h;simp only[ab.bR,eP,R0 h.1,xh h.2,Bool.and_self]
end
def sQ(G:a7)(N B:Nat)(M:List a1)(t:aB)(e:Env)(aV:Nat):aN→Prop:=fun st=>
 ∃aQ aA,run M t e=some (.b9,aQ,aA)∧aQ.cw∧aQ.cx aA∧bZ aV e aA∧aV≤aQ.k∧st=aQ.den G N B aA
theorem R1(cd:gL P G M inl){ops:Array Oper}{o:Oper}{S:ar}{e:Env}(ae:S.cw)(hf:S.cx e)(ag:(rv P N B T inl o S).safe M e)(ah:dX ops (S.den G N B e) o=some true):
 (nv o=true→Kz P G ops o (S.den G N B e) (sQ G N B M (rv P N B T inl o S) e S.k))∧(nv o=false→ke P G ops o (S.den G N B e) (sQ G N B M (rv P N B T inl o S) e S.k)):=by
 refine⟨fun hw=>?_,fun hw=>?_⟩
 ·unfold rv at ag⊢
  rw[hw]at ag⊢;simp only at ag⊢
  split at ag
  ·rename_i r aL
   split at ag
   ·rename_i hc
    simp only[Bool.and_eq_true]at hc;obtain⟨fE,e0⟩:=mr ag
    have bG:bZ S.k e (c3 M e S.k r.xs):=jD (Nat.le_refl _)
    have dN:=QW (G:=G) (M:=M) aL (c3 M e S.k r.xs) (ig bG ae.g hf) (jd hc.1) fE
    rw[ll bG ae]at dN;obtain⟨cq,cy⟩:=Q2 (M:=M) (o:=o) ae hf hc.1 hc.2.1 hc.2.2;exact fun E a w af=>⟨nS af ah,fun K Q hK=>dN E a w af K Q fun aY w' dW=>hK _ ⟨(r.st S o.dst).eJ S.k r.xs,_,lQ,cq,cy,bG,Nat.le_add_right _ _,rfl⟩ aY w' dW⟩
   ·exact ag.elim
  ·exact ag.elim
 ·unfold rv at ag⊢
  rw[hw]at ag⊢;simp only at ag⊢
  split at ag
  ·rename_i r av
   split at ag
   ·rename_i hc
    simp only[Bool.and_eq_true]at hc;obtain⟨fE,e0⟩:=mr ag;obtain⟨bD,a2,a3⟩:=rm (M:=M) (G:=G) (N:=N) (B:=B) ae hf hc.1
    have bG:bZ S.k e (c3 M e S.k r.xs):=jD (Nat.le_refl _)
    have dN:=uP (G:=G) (B:=B) (M:=M) av (c3 M e S.k r.xs) (ig bG ae.g hf) (jd hc.1) fE
    rw[ll bG ae]at dN;exact ke.v dN ah ⟨(S.eJ S.k r.xs).put o.dst r.v,_,lQ,ka bD hc.2,kb a2,bG,by rw[kc];exact Nat.le_add_right _ _,by rw[fC,a3]⟩
   ·exact ag.elim
  ·split at ag
   ·rename_i f as iA
    split at ag
    ·rename_i gl
     simp only[Bool.and_eq_true]at gl;obtain⟨gl,KI⟩:=gl;obtain⟨g1,g2,g3⟩:=jz (inl f as ⟨.emp,[],0,S.k,S.g⟩) none ag;unfold Df at iA
     split at iA
     ·rename_i c wD
      split at iA
      ·rename_i x hx
       split at iA
       ·rename_i zbe p gB uM
        cases iA;obtain⟨callee,args,ts⟩:=c;simp only at hx;subst hx
        have bB:ab.cD S.k (p++args.toList.map (S.a6 N)++gB)=true:=by
         have fZ:=zf (N:=N) ae x
         rw[uM]at fZ;simp only[ab.lt,Bool.and_eq_true]at fZ;refine zJ (zJ fZ.1 ?_) fZ.2
         generalize args.toList=l
         induction l with
         |nil=>rfl
         |cons y r aR=>simp only[List.map_cons,ab.cD,zf ae y,aR,Bool.and_self]
        have o0:ab.bR G e (p++args.toList.map (S.a6 N)++gB)=ab.bR G e p++args.toList.map (aJ G (S.den G N B e))++ab.bR G e gB:=by
         rw[eG,eG,eG,List.map_append,List.map_append,List.map_map]
         congr 2
         exact List.map_congr_left fun y _=>(bJ hf y).symm
        have zcc:(⟨.emp,[],0,S.k,S.g⟩:ar).cw:=⟨fun i x hx=>by simp[bb.get]at hx,rfl,ae.g⟩
        have gR:=cd f _ ⟨.emp,[],0,S.k,S.g⟩ e zcc bB hf g1
        have xi:=xh (G:=G) (e:=e) KI
        rw[o0]at gR xi;refine ke.call wD (by rw[bJ hf,uM];rfl) gl ah xi gR fun r bQ ⟨C,ax,aw,ey,gT,lp,rn,pY,n2⟩=>?_
        have ak:=(g3 C ax aw).1
        have ln:ab.pure (C.at 0)=true:=by
         unfold KD at ak
         split at ak
         ·assumption
         ·exact ak.elim
        refine⟨by rw[ey];exact R0 ln,(⟨S.l,S.h,S.n,C.k,C.g⟩:ar).put o.dst (C.at 0),ax,?_,?_,kb rn,pY,by rw[kc];exact n2,?_⟩
        ·rw[g2,aw]
         simp only[ie,KD,ln];rfl
        ·refine ka ⟨fun i x hx=>gp n2 (ae.l i x hx),uH n2 ae.h,lp.g⟩ ?_
         show(C.at 0).lt C.k=true;unfold ar.at
         cases h4:C.l.get 0 with
         |none=>rfl
         |some y=>exact lp.l 0 y h4
        ·rw[fC,ey]
         have:=ll (G:=G) (N:=N) (B:=B) (S:=S) pY ae
         have ad:(ar.mk S.l S.h S.n C.k C.g).den G N B ax=S.den G N B e:=this
         rw[ad]
       ·cases iA
      ·cases iA
     ·cases iA
    ·exact ag.elim
   ·exact ag.elim
theorem zcd{o:Oper}{S:ar}{e:Env}(ae:S.cw)(hf:S.cx e):sQ G N B M (.cu .b9 (S.put o.dst (.tp []))) e S.k ((S.den G N B e).put o.dst (.tuple [])):=
 ⟨S.put o.dst (.tp []),e,rfl,ka ae rfl,kb hf,bZ.refl _ _,by rw[kc];exact Nat.le_refl _,by rw[fC];rfl⟩
theorem ke.mono{ops:Array Oper}{o:Oper}{s:aN}{A A':aN→Prop}(h:ke P G ops o s A)(cX: ∀t,A t→A' t):ke P G ops o s A':=fun E a w af=>by
 rcases h E a w af with⟨aa,ad⟩|⟨aa,t,ad,aq⟩
 ·exact .inl ⟨aa,fun K Q hK=>ad K Q fun t aG=>hK t (cX t aG)⟩
 ·exact .inr ⟨aa,t,cX t ad,aq⟩
theorem R2(cd:gL P G M inl){ops:Array Oper}{o:Oper}{S:ar}{e:Env}(ae:S.cw)(hf:S.cx e)(ag:(p2 P N B T inl ops o S).safe M e):
 (nv o=true→Kz P G ops o (S.den G N B e) (sQ G N B M (p2 P N B T inl ops o S) e S.k))∧(nv o=false→ke P G ops o (S.den G N B e) (sQ G N B M (p2 P N B T inl ops o S) e S.k)):=by
 have ah:=JU (G:=G) (N:=N) (B:=B) (ops:=ops) (o:=o) hf
 unfold p2 at ag⊢
 cases jh:guardOf N ops S o with
 |yes=>
  rw[jh]at ah ag;exact R1 cd ae hf ag ah
 |no=>
  rw[jh]at ah ag;simp only at ag⊢
  split at ag
  ·rename_i hw
   exact⟨fun h=>(by rw[hw]at h;cases h),fun _=>.no ah (zcd ae hf)⟩
  ·exact ag.elim
 |bad=>rw[jh]at ag;exact ag.elim
 |on gs=>
  rw[jh]at ah ag;simp only at ag⊢;obtain⟨g1,g2⟩:=ah
  split at ag
  ·rename_i R3
   simp only[Bool.and_eq_true,Bool.not_eq_true']at R3;obtain⟨kM,hw⟩:=R3;refine⟨fun h=>(by rw[hw]at h;cases h),fun _=>?_⟩
   split at ag
   ·rename_i q av
    split at ag
    ·rename_i hc
     simp only[Bool.and_eq_true]at hc;obtain⟨fE,e0⟩:=mr ag;obtain⟨bD,a2,a3⟩:=rm (M:=M) (G:=G) (N:=N) (B:=B) ae hf hc.1
     have bG:bZ S.k e (c3 M e S.k q.xs):=jD (Nat.le_refl _)
     have hY:fx (c3 M e S.k q.xs) gs=fx e gs:=Dp bG kM
     have aj:S.k≤S.k+q.xs.length:=Nat.le_add_right _ _
     have oW:(j9 gs q.v).lt (S.k+q.xs.length)=true:=Dm (Dn aj kM) hc.2
     have hs: ∀t,t=(S.den G N B e).put o.dst ((j9 gs q.v).den G (c3 M e S.k q.xs))→sQ G N B M (emit S.k q.xs (q.ns.map (pV gs)) (.cu .b9 ((S.eJ S.k q.xs).put o.dst (j9 gs q.v)))) e S.k t:=fun t aG=>
      ⟨(S.eJ S.k q.xs).put o.dst (j9 gs q.v),_,lQ,ka bD oW,kb a2,bG,by rw[kc];exact Nat.le_add_right _ _,by rw[fC,a3,aG]⟩
     cases fb:fx e gs with
     |true=>
      have jX:=w2 hf fb
      have iz:=w1 ae kM
      have dN:=uP (G:=G) (B:=B) (M:=M) av (c3 M e S.k q.xs) (ig bG iz.g jX) (jd hc.1) fun n hn=>Ds (fE (pV gs n) (List.mem_map.2 ⟨n,hn,rfl⟩)) (hY.trans fb)
      have w3:({S with g:=gW gs S.g}:ar).den G N B (c3 M e S.k q.xs)=S.den G N B e:=ll (S:={S with g:=gW gs S.g}) bG iz
      rw[w3]at dN;exact ke.v dN (g1 fb) (hs _ (by rw[Dq (hY.trans fb)]))
     |false=>exact ke.no (g2 fb) (hs _ (by rw[Dr (hY.trans fb)]))
    ·exact ag.elim
   ·cases fb:fx e gs with
    |false=>
     obtain⟨eW,dk,dy,ky⟩:=JW (M:=M) (x:=rv P N B T inl o {S with g:=gW gs S.g}) (y:=rk S o.dst) (l:=S.g) fb kM ae.g hf
     obtain⟨aQ,cQ,dE,JY,JZ,va⟩:=Ra (G:=G) (N:=N) (B:=B) (dst:=o.dst) ae dy ky;exact ke.no (g2 fb) ⟨aQ,e,by rw[dk,cQ];rfl,dE,JY,bZ.refl _ _,JZ,va.symm⟩
    |true=>
     have jX:=w2 hf fb
     have iz:=w1 ae kM
     obtain⟨f1,f2⟩:=JV (M:=M) (x:=rv P N B T inl o {S with g:=gW gs S.g}) (y:=rk S o.dst) (l:=S.g) fb
     refine ke.mono ((R1 cd (S:={S with g:=gW gs S.g}) iz jX (f2 ag) (g1 fb)).2 hw) fun t ⟨aQ,aA,aa,ad⟩=>⟨aQ,aA,?_,ad⟩
     rw[f1];exact aa
  ·exact ag.elim
theorem R4{ops:Array Oper}{o:Oper}{S:ar}{e:Env}{k:ar→aB}(X:aN→aN→Prop)(c:ar→Prop)
 (ao: ∀(S:ar) (r:dQ) (e:Env),c S→ru P N S o=some r→S.cx e→(∀(j:Nat) (x:bS),r.xs[j]? =some x→Env.at e (S.k+j)=x.den M e)→(∀n∈r.ns,n.ok M e)→dX ops (S.den G N B e) o=some true→X (S.den G N B e) ((S.den G N B e).put o.dst (r.v.den G e)))
 (aj: ∀s,dX ops s o=some false→X s (s.put o.dst (.tuple [])))(h4:guardOf N ops S o= .yes→c S)(B8: ∀gs,guardOf N ops S o= .on gs→c {S with g:=gW gs S.g})(ae:S.cw)(hf:S.cx e)(ag:(sP P N ops o S k).safe M e):
 ∃aQ aA,aQ.cw∧aQ.cx aA∧bZ S.k e aA∧S.k≤aQ.k∧(k aQ).safe M aA∧run M (sP P N ops o S k) e=run M (k aQ) aA∧X (S.den G N B e) (aQ.den G N B aA):=by
 have ah:=JU (G:=G) (N:=N) (B:=B) (ops:=ops) (o:=o) hf
 unfold sP at ag⊢
 cases jh:guardOf N ops S o with
 |bad=>rw[jh]at ag;exact ag.elim
 |no=>
  rw[jh]at ah ag
  have:=aj _ ah
  exact⟨S.put o.dst (.tp []),e,ka ae rfl,kb hf,bZ.refl _ _,by rw[kc];exact Nat.le_refl _,ag,rfl,by rw[fC];exact this⟩
 |yes=>
  rw[jh]at ah ag;simp only at ag⊢
  split at ag
  ·rename_i q av
   split at ag
   ·rename_i hc
    simp only[Bool.and_eq_true]at hc;obtain⟨fE,e0⟩:=mr ag;obtain⟨bD,a2,a3⟩:=rm (M:=M) (G:=G) (N:=N) (B:=B) ae hf hc.1
    have bG:bZ S.k e (c3 M e S.k q.xs):=jD (Nat.le_refl _)
    have hd:=ll (G:=G) (N:=N) (B:=B) bG ae
    have dN:=ao _ _ _ (h4 jh) av (ig bG ae.g hf) (jd hc.1) fE (by rw[hd];exact ah)
    rw[hd]at dN;exact⟨(S.eJ S.k q.xs).put o.dst q.v,_,ka bD hc.2,kb a2,bG,by rw[kc];exact Nat.le_add_right _ _,e0,lQ,by rw[fC,a3];exact dN⟩
   ·exact ag.elim
  ·exact ag.elim
 |on gs=>
  rw[jh]at ah ag;simp only at ag⊢;obtain⟨g1,g2⟩:=ah
  split at ag
  ·rename_i kM
   split at ag
   ·rename_i q av
    split at ag
    ·rename_i hc
     simp only[Bool.and_eq_true]at hc;obtain⟨fE,e0⟩:=mr ag;obtain⟨bD,a2,a3⟩:=rm (M:=M) (G:=G) (N:=N) (B:=B) ae hf hc.1
     have bG:bZ S.k e (c3 M e S.k q.xs):=jD (Nat.le_refl _)
     have hY:fx (c3 M e S.k q.xs) gs=fx e gs:=Dp bG kM
     have Dk:S.k≤S.k+q.xs.length:=Nat.le_add_right _ _
     have oW:(j9 gs q.v).lt (S.k+q.xs.length)=true:=Dm (Dn Dk kM) hc.2
     refine⟨(S.eJ S.k q.xs).put o.dst (j9 gs q.v),_,ka bD oW,kb a2,bG,by rw[kc];exact Nat.le_add_right _ _,e0,lQ,?_⟩
     rw[fC,a3]
     cases fb:fx e gs with
     |true=>
      have jX:=w2 hf fb
      have iz:=w1 ae kM
      have w3:({S with g:=gW gs S.g}:ar).den G N B (c3 M e S.k q.xs)=S.den G N B e:=ll (S:={S with g:=gW gs S.g}) bG iz
      have dN:=ao _ _ _ (B8 gs jh) av (ig bG iz.g jX) (jd hc.1) (fun n hn=>Ds (fE (pV gs n) (List.mem_map.2 ⟨n,hn,rfl⟩)) (hY.trans fb)) (by rw[w3];exact g1 fb)
      rw[w3]at dN;rw[Dq (hY.trans fb)];exact dN
     |false=>
      rw[Dr (hY.trans fb)];exact aj _ (g2 fb)
    ·exact ag.elim
   ·exact ag.elim
  ·exact ag.elim
theorem zce{ops:Array Oper}{o:Oper}{S:ar}{e:Env}{k:ar→aB}(ae:S.cw)(hf:S.cx e)(ag:(sP P N ops o S k).safe M e):
 ∃aQ aA,aQ.cw∧aQ.cx aA∧bZ S.k e aA∧S.k≤aQ.k∧(k aQ).safe M aA∧run M (sP P N ops o S k) e=run M (k aQ) aA∧jw P G ops o (S.den G N B e) (aQ.den G N B aA):=
 R4 (jw P G ops o) (fun _=>True) (fun _ _ _ _ av hf hx hn ah=>zca av hf hx hn ah) (fun _ h=>(gS.skip h).l) (fun _=>trivial) (fun _ _=>trivial) ae hf ag
theorem gS.ry{ops:Array Oper}{o:Oper}{s:aN}{v:aE}(h:ml P G o s v)(ah:dX ops s o=some true):gS P G ops o s (s.put o.dst v):=by
 intro E a w ⟨β,ro,af⟩
 have hw:=nS (ops:=ops) ⟨β,ro,af⟩ ah
 obtain⟨c,aa,ad⟩:=h E a w β ro af
 exact⟨c,.inl ⟨hw,aa⟩,β,ro,af.put _ _ _ ad⟩
theorem zcf{ops:Array Oper}{o:Oper}{S:ar}{r:dQ}{e:Env}(ak:pop P N S o=true)(h:ru P N S o=some r)(hf:S.cx e)(hx: ∀(j:Nat) (x:bS),r.xs[j]? =some x→Env.at e (S.k+j)=x.den M e)(hn: ∀n∈r.ns,n.ok M e)(ah:dX ops (S.den G N B e) o=some true):
 gS P G ops o (S.den G N B e) ((S.den G N B e).put o.dst (r.v.den G e)):=by
 unfold ru at h
 unfold pop at ak
 split at h
 ·rename_i x an
  cases h
  have:jZ P G o (S.den G N B e)=some ((S.a6 N x).den G e):=by unfold jZ;rw[an,←bJ hf]
  exact gS.val this ah
 ·rename_i x an
  cases h
  have:jZ P G o (S.den G N B e)=some ((S.a6 N x).den G e):=by unfold jZ;rw[an,←bJ hf]
  exact gS.val this ah
 ·rename_i x an
  split at h
  ·rename_i aL
   cases h
   have:jZ P G o (S.den G N B e)=some ((S.a6 N x).den G e):=by
    unfold jZ;rw[an];simp only[bJ hf,uK aL]
   exact gS.val this ah
  ·cases h
 ·rename_i t x f an
  split at h
  ·rename_i k aj aL
   split at h
   ·rename_i p ag
    cases h
    have:jZ P G o (S.den G N B e)=some (p.den G e):=by
     unfold jZ;rw[an];simp only[aj,bJ hf,uK aL,zm ag]
    exact gS.val this ah
   ·cases h
  ·cases h
 ·rename_i t x an
  rw[an]at ak;cases ak
 ·rename_i t x i an
  split at h
  ·rename_i id hid
   exact gS.ry (RV an hid h hf hx hn) ah
  ·rename_i id off hid
   exact gS.ry (RY an hid h hf hn) ah
  ·exact gS.ry (RU an h hf hx hn) ah
 ·rename_i t x lo hi an
  split at h
  ·rename_i ew ag
   cases h;exact gS.ry (RZ an ag hf hx hn) ah
  ·rename_i ag
   rw[an]at ak;simp only[ag,Option.isSome_none]at ak;cases ak
 ·rename_i aa ad aq aS bC cC dB
  split at ak
  ·rename_i x an;exact absurd an (aa x)
  ·rename_i x an;exact absurd an (ad x)
  ·rename_i x an;exact absurd an (aq x)
  ·rename_i t x f an;exact absurd an (aS t x f)
  ·rename_i t x i an;exact absurd an (cC t x i)
  ·rename_i t x lo hi an;exact absurd an (dB t x lo hi)
  ·cases ak
theorem zcg{ops:Array Oper}{o:Oper}{S:ar}{e:Env}{k:ar→aB}(ak:xg P N ops S o=true)(ae:S.cw)(hf:S.cx e)(ag:(sP P N ops o S k).safe M e):
 ∃aQ aA,aQ.cw∧aQ.cx aA∧bZ S.k e aA∧S.k≤aQ.k∧(k aQ).safe M aA∧run M (sP P N ops o S k) e=run M (k aQ) aA∧gS P G ops o (S.den G N B e) (aQ.den G N B aA):=
 R4 (gS P G ops o) (fun S=>pop P N S o=true) (fun _ _ _ hc av hf hx hn ah=>zcf hc av hf hx hn ah) (fun _ h=>gS.skip h)
  (fun ah=>by unfold xg at ak;rw[ah]at ak;exact ak) (fun gs ah=>by unfold xg at ak;rw[ah]at ak;exact ak) ae hf ag
theorem zch{x y:bX}(h:KE x y=true):x=y:=by
 unfold KE at h
 split at h
 ·simp only[Bool.and_eq_true,decide_eq_true_eq]at h;rw[Nat.eq_of_beq_eq_true h.1,h.2.1,fR h.2.2]
 ·simp only[Bool.and_eq_true,decide_eq_true_eq]at h
  obtain⟨⟨aa,ad⟩,aq,aS⟩:=h
  cases Nat.eq_of_beq_eq_true aa;cases ad;rw[fR aq,fR aS]
 ·simp only[Bool.and_eq_true]at h;rw[Nat.eq_of_beq_eq_true h.1,fR h.2]
 ·simp only[Bool.and_eq_true,decide_eq_true_eq]at h;rw[fR h.1,h.2]
 ·cases h
theorem R5: ∀{l m:List bX},DS l m=true→l=m
 |[],[],_=>rfl
 |[],_::_,h=>by cases h
 |_::_,[],h=>by cases h
 |x::l,y::m,h=>by
  simp only[DS,Bool.and_eq_true]at h;rw[zch h.1,R5 h.2]
theorem zci{x y:bE}(h:KF x y=true):x=y:=by
 unfold KF at h
 split at h
 ·simp only[Bool.and_eq_true]at h;rw[Nat.eq_of_beq_eq_true h.1,wR h.2]
 ·simp only[Bool.and_eq_true,decide_eq_true_eq]at h;rw[Nat.eq_of_beq_eq_true h.1,h.2.1,fR h.2.2]
 ·simp only[Bool.and_eq_true]at h;rw[fR h.1,fR h.2]
 ·cases h
theorem R6: ∀{l m:List (Nat × bE)},DT l m=true→l=m
 |[],[],_=>rfl
 |[],_::_,h=>by cases h
 |_::_,[],h=>by cases h
 |(i,x)::l,(j,y)::m,h=>by
  simp only[DT,Bool.and_eq_true]at h;rw[Nat.eq_of_beq_eq_true h.1,zci h.2.1,R6 h.2.2]
theorem KJ: ∀{l m:bb ab},Ae l m=true→l=m
 | .emp,.emp,_=>rfl
 | .emp,.n _ _ _,h=>by cases h
 | .n _ _ _,.emp,h=>by cases h
 | .n v l r,.n w m s,h=>by
  simp only[Ae,Bool.and_eq_true]at h;rw[KJ h.2.1,KJ h.2.2]
  have aa:=h.1
  cases v<;>cases w<;>first|rfl|(cases aa;done)|(rw[fR aa])
theorem zcj{S U:ar}(h:KG S U=true):S=U:=by
 obtain⟨bD,a2,a3,a4,a5⟩:=S
 obtain⟨eT,gK,gf,qq,wO⟩:=U
 simp only[KG,Bool.and_eq_true]at h
 obtain⟨⟨aa,ad⟩,⟨aq,aS⟩,bC⟩:=h
 rw[KJ aa,R6 ad,Nat.eq_of_beq_eq_true aq,Nat.eq_of_beq_eq_true aS,R5 bC]
theorem R7{S:ar}: ∀{l:List aB},DU S l=true→∀t∈l,t= .cu .b9 S
 |[],_,_,aG=>by cases aG
 |u::r,h,t,aG=>by
  unfold DU at h
  split at h
  ·rename_i heq;cases heq
  ·rename_i U ew heq
   cases heq;simp only[Bool.and_eq_true]at h
   rcases List.mem_cons.1 aG with rfl|aG
   ·rw[zcj h.1]
   ·exact R7 h.2 t aG
  ·cases h
theorem zck{l:List aB}{e:Env}(h:(Af l).safe M e): ∃S,Af l= .cu .b9 S∧∀t∈l,t= .cu .b9 S:=by
 unfold Af at h⊢
 split at h
 ·rename_i S r
  split at h
  ·rename_i ag
   refine⟨S,by simp only[ag],fun t aG=>?_⟩
   rcases List.mem_cons.1 aG with rfl|aG
   ·rfl
   ·exact R7 ag t aG
  ·exact h.elim
 ·exact h.elim
theorem Ag(cd:gL P G M inl){L:List Oper}{wr:List Bool}(lf:Region.noSelect L.toArray=true){Q:Exit→aN→Prop}: ∀(n:Nat) (m:List Bool) {S:ar} {e:Env},S.cw→S.cx e→(p3 P N B T inl L.toArray wr n m S).safe M e→(∀st,jg G N B M (p3 P N B T inl L.toArray wr n m S) e S.k .normal st→Q .normal st)→fp P G L Q wr n m (S.den G N B e)
 |0,m,S,e,ae,hf,ag,ei=>by
  unfold p3 at ag ei
  split at ag
  ·rename_i af
   rw[af]at ei;exact fp.done (ei _ ⟨.b9,S,e,rfl,trivial,cO.refl _,ae,hf,bZ.refl _ _,Nat.le_refl _⟩) af
  ·exact ag.elim
 |n+1,m,S,e,ae,hf,ag,ei=>by
  unfold p3 at ag ei
  cases af:Region.ready .any L.toArray m.toArray with
  |nil=>
   rw[af]at ei;exact fp.done (ei _ ⟨.b9,S,e,rfl,trivial,cO.refl _,ae,hf,bZ.refl _ _,Nat.le_refl _⟩) af
  |cons i rd=>
   rw[af]at ag ei;simp only at ag ei
   split at ag
   ·rename_i j jv
    rw[jv]at ei;simp only at ei
    split at ag
    ·rename_i o an hc
     rw[an,hc]at ei;simp only[Bool.and_eq_true,Bool.not_eq_true']at hc;simp only at ei
     split at ag
     ·rename_i xi
      rw[xi]at ei;simp only at ei
      cases R8:xg P N L.toArray S o with
      |true=>
       obtain⟨aQ,aA,s1,s2,hh,ko,kp,kq,kV⟩:=zcg (G:=G) (B:=B) R8 ae hf ag;exact fp.zb2 j (by simpa using an) kV (Ag cd lf n (m.set j true) s1 s2 kp fun st ak=>ei st (ak.sub kq hh ko)) lf hc.2.1 (by rw[af];exact hc.1) hc.2.2
      |false=>
       rw[R8,Bool.false_or]at xi;obtain⟨aQ,aA,s1,s2,hh,ko,kp,kq,kV⟩:=zce (G:=G) (B:=B) ae hf ag;exact fp.zb1 j (by simpa using an) kV (Ag cd lf n (m.set j true) s1 s2 kp fun st ak=>ei st (ak.sub kq hh ko)) lf hc.2.1 (by rw[af];exact hc.1) xi
     ·exact ag.elim
    ·exact ag.elim
   ·rename_i jv
    rw[jv]at ei;simp only at ei
    split at ag
    ·rename_i o an
     rw[an]at ei;simp only at ei
     split at ag
     ·rename_i p4
      rw[p4]at ei
      have p4:=of_decide_eq_true p4
      simp only at ei;obtain⟨t1,_,t3⟩:=JK (G:=G) (B:=B) ae hf ag
      have next: ∀t,sQ G N B M (p2 P N B T inl L.toArray o S) e S.k t→fp P G L Q wr n (m.set i true) t:=fun t ⟨aQ,aA,aa,ad,aq,aS,bC,cC⟩=>by
       subst cC;obtain⟨dS,aW,dk,dy,ky,qD,KK,KL,KM⟩:=t3 aQ aA aa ad aq aS bC
       have:=Ag cd lf n (m.set i true) dy ky KL fun st ak=>ei st (ak.sub KM qD KK)
       exact fun E a w af=>this E a w (dk E G a w af)
      obtain⟨b2,kz⟩:=R2 (G:=G) (B:=B) (T:=T) cd ae hf t1
      cases hw:nv o with
      |true=>exact fp.zb3 (by simpa using an) af (p4.trans hw) (b2 hw) next
      |false=>exact fp.one (by simpa using an) af (p4.trans hw) (kz hw) next
     ·exact ag.elim
    ·rename_i _ rd _ _ hr
     have R9: ∀st,jg G N B M (Af ((i::rd).map fun j=>match L.toArray[j]? with
      |some o=>match decide (wr.getD j false=nv o)with
       |true=>pT N S o.dst (DR N L.toArray S o) (p2 P N B T inl L.toArray o S) (p3 P N B T inl L.toArray wr n (m.set j true))
       |false=>.bad 78
      |none=>.bad 77)) e S.k .normal st→Q .normal st:=fun st ak=>ei st (by
      split
      ·rename_i cm lx;exact(hr cm rfl lx).elim
      ·exact ak)
     clear ei;obtain⟨U,rJ,dU⟩:=zck ag;rw[rJ]at R9 ag;refine fp.any (by rw[af];simp) fun j ai=>?_
     rw[af]at ai
     have xj:=dU _ (List.mem_map.2 ⟨j,ai,rfl⟩)
     split at xj
     ·rename_i o an
      split at xj
      ·rename_i p4
       have p4:=of_decide_eq_true p4
       have e8:(pT N S o.dst (DR N L.toArray S o) (p2 P N B T inl L.toArray o S) (p3 P N B T inl L.toArray wr n (m.set j true))).safe M e:=by rw[xj];trivial
       obtain⟨t1,_,t3⟩:=JK (G:=G) (B:=B) ae hf e8;refine⟨o,by simpa using an,sQ G N B M (p2 P N B T inl L.toArray o S) e S.k,fun t ⟨aQ,aA,aa,ad,aq,aS,bC,cC⟩=>?_,fun E a w dp=>?_⟩
       ·subst cC
        obtain⟨dS,aW,dk,dy,ky,qD,KK,KL,KM⟩:=t3 aQ aA aa ad aq aS bC
        have:=Ag cd lf n (m.set j true) dy ky KL fun st ak=>R9 st (by rw[←xj];exact ak.sub KM qD KK)
        exact fun E a w af=>this E a w (dk E G a w af)
       ·obtain⟨b2,kz⟩:=R2 (G:=G) (B:=B) (T:=T) cd ae hf t1
        cases hw:nv o with
        |true=>
         obtain⟨y1,ra⟩:=b2 hw E a w dp;exact .inl ⟨y1,fun K Q hK=>ra K Q fun t aG aY w' dW=>hK t aG aY w' dW (.inl (p4.trans hw))⟩
        |false=>
         rcases kz hw E a w dp with⟨y1,ra⟩|⟨y1,ra⟩
         ·exact .inl ⟨y1,fun K Q hK=>ra K Q fun t aG aY w' dW aj=>hK t aG aY w' dW (.inr aj)⟩
         ·exact .inr ⟨p4.trans hw,y1,ra⟩
      ·cases xj
     ·cases xj
theorem zcl(cd:gL P G M inl):J5 P G N B M (KH P N B T inl):=by
 intro id ops S e ae hf ag
 have lY:ops=ops.toList.toArray:=by simp
 rw[lY]at ag⊢
 generalize ops.toList=L at ag⊢
 unfold KH at ag⊢
 split at ag
 ·rename_i hc
  simp only[Bool.and_eq_true]at hc;refine bY.zb5 _ (Ag cd hc.2 _ _ ae hf ag fun st ak=>ak) hc.1 (by simp)
 ·exact ag.elim
def oo.all(P:Program)(T:List (Nat × bO)):oo:=⟨fun N B _=>Kv N B,fun N B inl=>KH P N B T inl⟩
theorem N0:J9 P G M (oo.all P T):=fun _ cd _ _=>⟨zbX,zcl cd⟩
end
end Go.aM
namespace Go.aM
open Go
section
variable {P:Program} {G:a7} {f:FuncId} {args:List aE} {σ:bA} {n:Nat} {R:aE→bA→Prop}
theorem dO.arg{q2:List aE}(h:dO P G f args σ n R)(aI:fX q2 args):dO P G f q2 σ n R:=by
 intro w β ro eM aa ad aq aS bC
 refine h w β ro eM (by rw[aa,aI.at.1]) (fun i x hx=>?_) aq aS bC
 obtain⟨y,az,ag⟩:=aI.at.2 i x hx
 exact ag _ _ _ _ _ _ (ad i y az)
theorem dO.res{r4:aE→bA→Prop}(h:dO P G f args σ n R)(aL: ∀r bQ,R r bQ→r4 r bQ):dO P G f args σ n r4:=by
 intro w β ro eM aa ad aq aS bC
 refine Calls.mono (h w β ro eM aa ad aq aS bC) fun e w' ⟨v,hO,ff,dV,ro',cR,he,cC,mC⟩=>?_
 exact⟨v,hO,ff,dV,ro',cR,he,aL _ _ cC,mC⟩
theorem jN(β:Nat→Value)(b:Nat): ¬Own ([]:bA) β b:=fun⟨_,_,ah,_⟩=>by simp[aF]at ah
theorem dO.frame(h:dO P G f args [] 0 R)(ak:eP args=true)(gG: ∀r bQ,R r bQ→fl r=true):dO P G f args σ n fun r bQ=>bQ=σ∧∃fm,R r fm:=by
 intro w β ro eM aa ad aq aS bC
 refine Calls.mono (h w β ro eM aa (fun i x hx=>nP (ad i x hx) (na ak hx)) ⟨by simp[aF],by simp[aF],fun b _=>jN β b,aq.lt⟩ aS (by simp[aF])) fun e w' ⟨v,r,fm,dV,ro',cR,he,af,dp,ht,ct⟩=>?_
 have lH: ∀b,b<w.heap.size→w'.heap[b]? =w.heap[b]? :=fun b ae=>ct.frame b ae (jN β b)
 have gd:c9 ⟨w,ro,σ,β,n⟩ G ⟨[],σ,n,n⟩ ⟨#[],[]⟩ w β ro:=⟨rfl,rfl,by simp,aq,aS,⟨rfl,rfl,rfl,Nat.le_refl _,fun _ _ _=>rfl,fun _ h=>.inl h,fun _ h=>h,fun _ h=>.inl h,fun id _ o ah=>⟨by simp[ah],rfl⟩,bC,Nat.le_refl _⟩,Nat.le_refl _⟩
 have c2:=gd.grow (w':=w') (ro':=ro') ct.os ct.tape ct.output ct.size lH ct.jR (fun b ae=>by
  rcases ct.iR b ae with q|q|q
  ·exact .inl q
  ·exact absurd q (jN β b)
  ·exact .inr ⟨q,ht.lt b ae⟩)
 exact⟨v,r,σ,β,ro',n,he,⟨rfl,fm,af⟩,nP dp (gG r fm af),c2.heap,c2.trans⟩
theorem dO.zcm{q2:List aE}(h:dO P G f args [] 0 R)(aI:fX (hI σ q2) args)(ak:eP (hI σ q2)=true)(gG: ∀r bQ,R r bQ→jY r=true):dO P G f q2 σ n fun r bQ=>bQ=σ∧∃fm,R r fm:=by
 have h:=h.arg aI
 intro w β ro eM aa ad aq aS bC
 have nN: ∀b,Own σ β b→b<w.heap.size:=fun b ⟨k,p,aj,ak,bc⟩=>(aq.c7 k p aj).hl ak bc
 refine Calls.mono (h w β (uv ro σ β) eM (by rw[ur];exact aa) (fun i x hx=>?_) ⟨by simp[aF],by simp[aF],fun b _=>jN β b,fun b ae=>ae.elim (aq.lt b) (nN b)⟩
  (aS.keep (fun _ _=>rfl) fun _ h=>.inl h) (by simp[aF])) fun e w' ⟨v,r,fm,dV,ro',cR,he,af,dp,ht,ct⟩=>?_
 ·obtain⟨z,bu,rfl⟩:=uu _ hx
  exact nP (H3 aq (ad i z bu)) (na ak hx)
 have lH: ∀b,b<w.heap.size→w'.heap[b]? =w.heap[b]? :=fun b ae=>ct.frame b ae (jN β b)
 have gd:c9 ⟨w,ro,σ,β,n⟩ G ⟨[],σ,n,n⟩ ⟨#[],[]⟩ w β ro:=⟨rfl,rfl,by simp,aq,aS,⟨rfl,rfl,rfl,Nat.le_refl _,fun _ _ _=>rfl,fun _ h=>.inl h,fun _ h=>h,fun _ h=>.inl h,fun id _ o ah=>⟨by simp[ah],rfl⟩,bC,Nat.le_refl _⟩,Nat.le_refl _⟩
 have c2:=gd.grow (w':=w') (ro':=ro) ct.os ct.tape ct.output ct.size lH (fun _ h=>h) (fun _ h=>.inl h)
 exact⟨v,r,σ,β,ro,n,he,⟨rfl,fm,af⟩,Cg dp (gG r fm af),c2.heap,c2.trans⟩
end
def aD.fq(d:aD):aE:=
 match d with
 |⟨.st c,x⟩=>.agg ((cZ c x).map .au)
 |⟨r,x⟩=>.au (fQ r x)
def nw(rs:List aZ)(x:(e9 rs).den):List aE:=(dn rs x).map aD.fq
def lq(rs:List aZ)(x:(e9 rs).den):aE:=
 match nw rs x with
 |[v]=>v
 |l=>.tuple l
structure hU where
 f:Nat
 j:Nat
 ps:List aZ
 rs:List aZ
 eO:Bool
def ck(P:Program)(G:a7)(f:Nat)(m:a1):Prop:=
 ∀x:(e9 m.ps).den,my m.pre x→dO P G f (nw m.ps x) [] 0 fun v _=>v=lq m.rs (m.m x)
def Sa(P:Program)(G:a7)(M:List a1)(c:hU):Prop:=
 (eN a1.d M c.j).ps=c.ps∧(eN a1.d M c.j).rs=c.rs∧ck P G c.f (eN a1.d M c.j)∧(c.eO=true→(eN a1.d M c.j).pre=none)
def pw(P:Program)(G:a7)(M:List a1)(C:List hU):Prop:=∀c∈C,Sa P G M c
def Ah(f:Nat):List hU→Option hU
 |[]=>none
 |c::r=>match Nat.beq c.f f with
  |true=>some c
  |false=>Ah f r
def Ai(r:aZ)(i:Nat):ab:=
 match r with
 | .st c=>.cF (iY c i 0 (fo c))
 |r=>.bl r i
def hk:Nat→List aZ→List ab
 |_,[]=>[]
 |i,r::rs=>Ai r i::hk (i+1) rs
def n4(rs:List aZ)(p:Nat):Nat→List aZ→List bS
 |_,[]=>[]
 |i,_::r=>.uE rs p i::n4 rs p (i+1) r
def aZ.ic:aZ→Bool
 | .st _=>true
 |r=>r.one
def aZ.sR:aZ→Bool
 | .int _=>true
 | .bool=>true
 | .str=>true
 | .st c=>(fo c).all aZ.cmp
 |_=>false
def KN(S:ar)(r:aZ)(a:ab):Option ab:=
 match r,a with
 | .st c,.cF l=>match hJ (fo c) l with
  |true=>some a
  |false=>none
 | .li c,.aP id=>match dq S.h id with
  |some (.rw _ d x)=>match decide (c=d)&&x.fF (.li c)with
   |true=>some x
   |false=>none
  |_=>none
 |r,a=>match r.one&&a.fF r with
  |true=>some a
  |false=>none
def rz(S:ar):List aZ→List ab→Option (List ab)
 |[],[]=>some []
 |r::rs,a::as=>match KN S r a,rz S rs as with
  |some x,some l=>some (x::l)
  |_,_=>none
 |_,_=>none
def sS:List ab→Bool
 |[]=>true
 | .aP _::_=>false
 |_::r=>sS r
def ij(c:hU)(as:List ab)(k:Nat):List bS:=
 match c.rs with
 |[_]=>[.ca c.j as]
 |rs=>.ca c.j as::n4 rs k 0 rs
def xk(c:hU)(k:Nat):ab:=
 match c.rs with
 |[r]=>Ai r k
 |rs=>.tp (hk (k+1) rs)
def DV(S:ar)(xs:List bS)(v:ab):ar:={S with l:=bb.put .emp 0 v,k:=S.k+xs.length}
def DW(c:hU)(xs:List ab):List fK:=
 match c.eO with
 |true=>[]
 |false=>[.ca c.j xs]
def KO(C:List hU)(inl:Nat→List ab→ar→aB)(f:Nat)(as:List ab)(S:ar):aB:=
 match Ah f C with
 |none=>inl f as S
 |some c=>match rz S c.ps as with
  |none=>inl f as S
  |some xs=>match c.rs.all aZ.ic&&(sS as||c.rs.all aZ.sR)&&(ab.cD S.k xs&&ab.rj S.n (xk c S.k))with
   |true=>emit S.k (ij c xs S.k) (DW c xs) (.cu .b9 (DV S (ij c xs S.k) (xk c S.k)))
   |false=>.bad 51
theorem xl: ∀{rs:List aZ} {ds:List aD},ds.map aD.r=rs→dn rs (b3 rs ds)=ds
 |[],[],_=>rfl
 |[],_::_,h=>by cases h
 |[r],ds,h=>by
  obtain⟨d,oK,rfl,aa,ad⟩:=lL h
  cases mi ad
  subst aa;show[⟨d.r,d.as d.r⟩]=[d];rw[yZ]
 |r::s::l,ds,h=>by
  obtain⟨d,oK,rfl,aa,ad⟩:=lL h;subst aa;show(⟨d.r,d.as d.r⟩:aD)::dn (s::l) (b3 (s::l) oK)=d::oK;rw[yZ,xl ad]
theorem sT: ∀{rs:List aZ} {x:(e9 rs).den},(dn rs x).map aD.r=rs
 |[],_=>rfl
 |[_],_=>rfl
 |r::s::l,x=>by
  show r::(dn (s::l) x.2).map aD.r=_;rw[sT]
section
variable {G:a7} {e:Env} {S:ar}
theorem Sb{r:aZ}{x:r.den}(h: ∀c,r≠ .st c):(⟨r,x⟩:aD).fq= .au (fQ r x):=by
 cases r with
 |st c=>exact absurd rfl (h c)
 |_=>rfl
theorem Sc{r:aZ}(h:r.one=true): ∀c,r≠ .st c:=fun c hc=>by subst hc;cases h
theorem Sd{r:aZ}{a:ab}(h:a.fF r=true): ∃y,a.den G e= .au y:=by
 unfold ab.fF at h
 split at h<;>first|exact⟨_,rfl⟩|cases h
theorem Se: ∀{rs:List aZ} {l:List ab},hJ rs l=true→∃ys:List bh,ab.bR G e l=ys.map .au
 |[],[],_=>⟨[],rfl⟩
 |[],_::_,h=>by cases h
 |_::_,[],h=>by cases h
 |r::rs,x::xs,h=>by
  simp only[hJ,Bool.and_eq_true]at h;obtain⟨y,az⟩:=Sd (G:=G) (e:=e) h.1;obtain⟨ys,ma⟩:=Se (rs:=rs) h.2;exact⟨y::ys,by simp only[ab.bR,az,ma,List.map_cons]⟩
theorem Sf{σ:bA}: ∀{ys:List bh},hI σ (ys.map .au)=ys.map .au
 |[]=>rfl
 |y::ys=>by simp only[List.map_cons,hI,kG,Sf]
theorem zcn{r:aZ}{a x:ab}(h:KN S r a=some x):
 Sub (kG (cM G e S.h) (a.den G e)) (aD.fq ⟨r,x.get e r⟩)∧fl (kG (cM G e S.h) (a.den G e))=true∧((∀id,a≠ .aP id)→kG (cM G e S.h) (a.den G e)=a.den G e):=by
 unfold KN at h
 split at h
 ·rename_i c l
  split at h
  ·rename_i ao
   cases h;obtain⟨ys,az⟩:=Se (G:=G) (e:=e) ao
   have ag:=y6 (G:=G) (e:=e) ao
   have hd:kG (cM G e S.h) ((ab.cF l).den G e)=(ab.cF l).den G e:=by simp only[ab.den,kG,az,Sf]
   rw[hd];refine⟨?_,by simp only[ab.den,az,fl,B1],fun _=>rfl⟩
   simp only[ab.den];exact ag.agg
  ·cases h
 ·rename_i c id
  split at h
  ·rename_i t d y ah
   split at h
   ·rename_i hc
    cases h;simp only[Bool.and_eq_true,decide_eq_true_eq]at hc;obtain⟨rfl,hx⟩:=hc
    have aX:aF (cM G e S.h) id=some (.row false t (c8 c) (List.map (cZ c) (x.aH e (.li c)))):=by rw[eR,ah];rfl
    have hd:kG (cM G e S.h) ((ab.aP id).den G e)= .au (.aP (c8 c) (List.map (cZ c) (x.aH e (.li c)))):=by simp only[ab.den,kG,aX]
    rw[hd];exact⟨mj.fq fun _ _ _ h=>.li _ _ _ h,rfl,fun h=>absurd rfl (h id)⟩
   ·cases h
  ·cases h
 ·split at h
  ·rename_i hc
   cases h;simp only[Bool.and_eq_true]at hc;obtain⟨y,az⟩:=Sd (G:=G) (e:=e) hc.2
   have hd:kG (cM G e S.h) (a.den G e)=a.den G e:=by rw[az];rfl
   rw[hd];refine⟨?_,by rw[az];rfl,fun _=>rfl⟩
   rw[Sb (Sc hc.1),CL hc.1];exact uC hc.2
  ·cases h
theorem xm: ∀{rs:List aZ} {as xs:List ab},rz S rs as=some xs→
 fX (hI (cM G e S.h) (ab.bR G e as)) ((gm e rs xs).map aD.fq)∧eP (hI (cM G e S.h) (ab.bR G e as))=true∧(sS as=true→hI (cM G e S.h) (ab.bR G e as)=ab.bR G e as)∧(gm e rs xs).map aD.r=rs
 |[],[],_,h=>by cases h;exact⟨.nil,rfl,fun _=>rfl,rfl⟩
 |[],_::_,_,h=>by cases h
 |_::_,[],_,h=>by cases h
 |r::rs,a::as,xs,h=>by
  simp only[rz]at h
  split at h
  ·rename_i x l aa ad
   cases h;obtain⟨bD,a2,a3⟩:=zcn (G:=G) (e:=e) aa;obtain⟨eT,gK,gf,qq⟩:=xm ad;refine⟨.cons bD eT,by simp only[ab.bR,hI,eP,a2,gK,Bool.and_self],fun hn=>?_,by simp only[gm,List.map_cons,qq]⟩
   have:(∀id,a≠ .aP id)∧sS as=true:=by
    cases a<;>first|(cases hn;done)|exact⟨fun id hid=>(by cases hid),hn⟩
   simp only[ab.bR,hI,a3 this.1,gf this.2]
  ·cases h
end
section
variable {G:a7} {e:Env}
theorem zco(d:aD):fl d.fq=true:=by
 unfold aD.fq
 split
 ·simp only[fl,B1]
 ·rfl
theorem DX: ∀l:List aD,eP (l.map aD.fq)=true
 |[]=>rfl
 |d::l=>by simp only[List.map_cons,eP,zco,DX l,Bool.and_self]
theorem KP{rs:List aZ}{x:(e9 rs).den}:fl (lq rs x)=true:=by
 have h:=DX (dn rs x)
 unfold lq nw
 split
 ·rename_i v av
  rw[av]at h;simpa[eP]using h
 ·exact h
theorem Sg: ∀{ds:List aD},(∀d∈ds,d.r.sR=true∧∀c,d.r≠ .st c)→ng (ds.map fun d=>.au d.au)=true
 |[],_=>rfl
 |d::ds,h=>by
  have aa:=h d (List.mem_cons_self ..)
  have ad:=Sg (ds:=ds) fun x hx=>h x (List.mem_cons_of_mem _ hx)
  obtain⟨r,x⟩:=d
  cases r<;>first|(exact absurd rfl (aa.2 _))|(cases aa.1;done)|exact ad
theorem Sh{d:aD}(h:d.r.sR=true):jY d.fq=true:=by
 obtain⟨r,x⟩:=d
 cases r with
 |st c=>
  show jY (.agg ((cZ c x).map .au))=true
  have hc:cZ c x=(l3 c x).map aD.au:=by unfold cZ;rfl
  rw[hc,List.map_map];simp only[jY];refine Sg fun d hd=>?_
  have af:d.r∈fo c:=by
   have:=PC c x
   rw[←this];exact List.mem_map_of_mem hd
  have aI:d.r.cmp=true:=List.all_eq_true.1 (show(fo c).all _=true from h) d.r af
  cases hd:d.r<;>rw[hd]at aI<;>first|(cases aI;done)|exact⟨rfl,fun c hc=>by cases hc⟩
 |_=>first|rfl|cases h
theorem KQ: ∀{l:List aD},(∀d∈l,d.r.sR=true)→ng (l.map aD.fq)=true
 |[],_=>rfl
 |d::l,h=>by
  simp only[List.map_cons,ng,Sh (h d (List.mem_cons_self ..)),KQ (l:=l) fun x hx=>h x (List.mem_cons_of_mem _ hx),Bool.and_self]
theorem zcp{rs:List aZ}{x:(e9 rs).den}(h:rs.all aZ.sR=true):jY (lq rs x)=true:=by
 have h:=KQ (l:=dn rs x) fun d hd=>by
  have af:d.r∈rs:=by
   have:=sT (rs:=rs) (x:=x)
   rw[←this];exact List.mem_map_of_mem hd
  exact List.all_eq_true.1 h d.r af
 unfold lq nw
 split
 ·rename_i v av
  rw[av]at h;simpa[ng]using h
 ·exact h
end
section
variable {P:Program} {G:a7} {M:List a1} {C:List hU} {inl:Nat→List ab→ar→aB}
theorem Si{f:Nat}{c:hU}: ∀{C:List hU},Ah f C=some c→c∈C∧c.f=f
 |[],h=>by cases h
 |d::r,h=>by
  unfold Ah at h
  split at h
  ·rename_i hd;cases h;exact⟨List.mem_cons_self ..,Nat.eq_of_beq_eq_true hd⟩
  ·obtain⟨aa,ad⟩:=Si h;exact⟨List.mem_cons_of_mem _ aa,ad⟩
theorem KR(rs:List aZ)(p:Nat): ∀(l:List aZ) (i j:Nat),(n4 rs p i l)[j]? =if j<l.length then some (.uE rs p (i+j))else none
 |[],i,j=>by simp[n4]
 |_::l,i,0=>by simp[n4]
 |_::l,i,j+1=>by
  simp only[n4,List.getElem?_cons_succ,KR rs p l (i+1) j,List.length_cons,Nat.add_lt_add_iff_right]
  have:i+1+j=i+(j+1):=by omega
  rw[this]
theorem Sj(rs:List aZ)(p:Nat): ∀(l:List aZ) (i k:Nat),p<k→gU k (n4 rs p i l)=true
 |[],_,_,_=>rfl
 |_::l,i,k,h=>by
  simp only[n4,gU,bS.lt,jM h,Bool.true_and];exact Sj rs p l (i+1) (k+1) (by omega)
theorem DY{c:hU}{xs:List ab}{k:Nat}(h:ab.cD k xs=true):gU k (ij c xs k)=true:=by
 unfold ij
 split
 ·simp only[gU,bS.lt,h,Bool.and_self]
 ·simp only[gU,bS.lt,h,Bool.true_and]
  exact Sj _ _ _ _ _ (Nat.lt_succ_self k)
theorem KS(rs:List aZ)(p:Nat): ∀(l:List aZ) (i:Nat),(n4 rs p i l).length=l.length
 |[],_=>rfl
 |_::l,i=>by simp[n4,KS rs p l (i+1)]
theorem KT{e:Env}{r:aZ}{i:Nat}{x:r.den}(h:Env.at e i=⟨r,x⟩):(Ai r i).den G e=aD.fq ⟨r,x⟩:=by
 have aI:(Env.at e i).as r=x:=by rw[h,cT]
 cases r with
 |st c=>
  show aE.agg (ab.bR G e (iY c i 0 (fo c)))= .agg ((cZ c x).map .au);rw[wk,aI]
 |_=>show aE.au (fQ _ ((Env.at e i).as _))= .au (fQ _ x);rw[aI]
theorem Aj{e:Env}: ∀{rs:List aZ} {i:Nat} {ds:List aD},ds.map aD.r=rs→(∀j d,ds[j]? =some d→Env.at e (i+j)=d)→ab.bR G e (hk i rs)=ds.map aD.fq
 |[],i,ds,h,_=>by cases mi h;rfl
 |r::rs,i,ds,h,hd=>by
  obtain⟨d,oK,rfl,aa,ad⟩:=lL h;subst aa
  have aU:=hd 0 d rfl
  simp only[hk,ab.bR,List.map_cons,List.cons.injEq];refine⟨KT (x:=d.v) aU,Aj ad fun j zcq ai=>?_⟩
  have:=hd (j+1) zcq (by simpa using ai)
  rw[←this];congr 1;omega
theorem DZ{c:bO}{i k:Nat}(h:i<k): ∀{rs:List aZ} {j:Nat},ab.cD k (iY c i j rs)=true
 |[],_=>rfl
 |r::rs,j=>by simp only[iY,ab.cD,ab.lt,jM h,DZ h (rs:=rs),Bool.and_self]
theorem KU{r:aZ}{i k:Nat}(h:i<k):(Ai r i).lt k=true:=by
 cases r with
 |st c=>exact DZ h
 |_=>exact jM h
theorem Ak: ∀{rs:List aZ} {i k:Nat},i+rs.length≤k→ab.cD k (hk i rs)=true
 |[],_,_,_=>rfl
 |r::rs,i,k,h=>by
  simp only[List.length_cons]at h;simp only[hk,ab.cD,KU (r:=r) (show i<k by omega),Ak (rs:=rs) (show i+1+rs.length≤k by omega),Bool.and_self]
theorem KV{α:Type}{d:α}: ∀{l:List α} {i:Nat} {x:α},l[i]? =some x→eN d l i=x
 |[],_,_,h=>by cases h
 |y::l,0,x,h=>by simpa[eN]using h
 |y::l,i+1,x,h=>by
  simp only[eN];exact KV (by simpa using h)
theorem zcr{c:hU}{xs:List ab}{k:Nat}{e:Env}{y:(e9 c.rs).den}(ao:ab.cD k xs=true)(aU:Env.at (c3 M e k (ij c xs k)) k=⟨e9 c.rs,y⟩):
 (xk c k).den G (c3 M e k (ij c xs k))=lq c.rs y:=by
 have eF:=jd (M:=M) (e:=e) (DY (c:=c) ao)
 obtain⟨f,dG,ps,rs,eO⟩:=c
 show(xk ⟨f,dG,ps,rs,eO⟩ k).den G _=lq rs y
 match rs,y,aU,eF with
 |[],y,aU,eF=>rfl
 |[r],y,aU,eF=>exact KT aU
 |r::s::l,y,aU,eF=>
  have nd:(dn (r::s::l) y).map aD.r=r::s::l:=sT
  have qQ:lq (r::s::l) y= .tuple ((dn (r::s::l) y).map aD.fq):=by
   unfold lq nw
   split
   ·rename_i v av
    have:=congrArg List.length nd
    have ad:=congrArg List.length av
    simp only[List.length_map,List.length_cons]at this ad;simp only[List.length_nil]at ad;omega
   ·rfl
  rw[qQ];show aE.tuple (ab.bR G _ (hk (k+1) (r::s::l)))=_
  congr 1
  refine Aj nd fun j d ai=>?_
  have hlen:j<(r::s::l).length:=by
   have aa:=(List.getElem?_eq_some_iff.1 ai).1
   have:=congrArg List.length nd
   rw[List.length_map]at this;omega
  have aa:=eF (j+1) (.uE (r::s::l) k j) (by
   show(bS.ca dG xs::n4 (r::s::l) k 0 (r::s::l))[j+1]? =_
   rw[List.getElem?_cons_succ,KR,if_pos hlen,Nat.zero_add])
  rw[show k+1+j=k+(j+1)by omega,aa]
  simp only[bS.den,aU,cT];exact KV ai
theorem zcs(mE:pw P G M C)(cd:gL P G M inl):gL P G M (KO C inl):=fun f as S e ae ao hf ag=>by
 unfold KO at ag⊢
 cases hc:Ah f C with
 |none=>simp only[hc]at ag⊢;exact cd f as S e ae ao hf ag
 |some c=>
  simp only[hc]at ag⊢
  cases hx:rz S c.ps as with
  |none=>simp only[hx]at ag⊢;exact cd f as S e ae ao hf ag
  |some xs=>
   simp only[hx]at ag⊢
   split at ag
   rotate_left
   ·exact ag.elim
   rename_i aj;simp only[Bool.and_eq_true]at aj;obtain⟨⟨zct,tQ⟩,Al,zcu⟩:=aj;obtain⟨hm,Am⟩:=Si hc;obtain⟨g1,g2,g3,g4⟩:=mE c hm;obtain⟨hn,_⟩:=mr ag
   have u4:=DY (c:=c) Al
   have bG:bZ S.k e (c3 M e S.k (ij c xs S.k)):=jD (Nat.le_refl _)
   have cb:c.eO=false→fK.ok M (c3 M e S.k (ij c xs S.k)) (.ca c.j xs):=fun qM=>hn _ (by unfold DW;rw[qM];exact List.mem_singleton.2 rfl)
   obtain⟨bD,a2,a3,a4⟩:=xm (G:=G) (e:=e) hx
   have eF:=jd (M:=M) (e:=e) u4 0 (.ca c.j xs) (by unfold ij;split<;>rfl)
   obtain⟨Sk,o3,zdU,zdV,Sl⟩:=c;simp only at g1 g2 g3 g4 Am zct tQ Al zcu u4 bG cb bD a2 a3 a4 eF hx;subst g1 g2 Am;simp only[Nat.add_zero,bS.den]at eF;simp only[fK.ok]at cb;rw[wB bG Al]at eF
   have gR:=g3 (b3 _ (gm e (eN a1.d M o3).ps xs)) (by
    cases Sl with
    |true=>rw[g4 rfl];trivial
    |false=>
     have:=cb rfl
     rw[wB bG Al]at this
     exact this)
   have u1:nw (eN a1.d M o3).ps (b3 (eN a1.d M o3).ps (gm e (eN a1.d M o3).ps xs))=(gm e (eN a1.d M o3).ps xs).map aD.fq:=by
    unfold nw;rw[xl a4]
   rw[u1]at gR
   have av:=zcr (G:=G) (c:=⟨Sk,o3,(eN a1.d M o3).ps,(eN a1.d M o3).rs,Sl⟩) Al eF
   have p1:dO P G Sk (ab.bR G e as) (cM G e S.h) S.n fun r bQ=>bQ=cM G e S.h∧∃_:bA,r=lq (eN a1.d M o3).rs ((eN a1.d M o3).m (b3 _ (gm e (eN a1.d M o3).ps xs))):=by
    cases I3:sS as with
    |true=>
     rw[a3 I3]at bD a2;exact((gR.arg bD).frame a2 fun r bQ af=>by rw[af];exact KP).res fun r bQ ⟨aa,fm,ad⟩=>⟨aa,fm,ad⟩
    |false=>
     rw[I3,Bool.false_or]at tQ;exact(gR.zcm bD a2 fun r bQ af=>by rw[af];exact zcp tQ).res fun r bQ ⟨aa,fm,ad⟩=>⟨aa,fm,ad⟩
   refine p1.res fun r bQ ⟨aa,_,ad⟩=>⟨_,_,by rw[lQ];rfl,?_,?_,?_,?_,bG,Nat.le_add_right _ _⟩
   ·rw[ad,←av]
    show _=ab.den G _ (ar.at (DV S _ _) 0);unfold DV ar.at
    simp only[bb.j1,if_true]
   ·rw[aa];exact(ze bG ae.h).symm
   ·refine⟨fun i x hi=>?_,uH (Nat.le_add_right _ _) ae.h,oQ (Nat.le_add_right _ _) ae.g⟩
    simp only[DV,bb.j1]at hi
    split at hi
    ·cases hi
     show(xk _ S.k).lt (S.k+_)=true;unfold xk ij
     split
     ·exact KU (Nat.lt_succ_self _)
     ·simp only[ab.lt]
      refine Ak ?_
      simp only[List.length_cons,KS];omega
    ·simp[bb.get]at hi
   ·exact ig bG ae.g hf
end
end Go.aM
namespace Go.aM
open Go
section
variable {P:Program} {G:a7} {f:FuncId} {args:List aE} {R:aE→bA→Prop}
theorem dO.ret(ew:Prop→aE→Prop)(h:dO P G f args [] 0 R){Q:aE→Prop}(gG: ∀r bQ,R r bQ→∃v,Sub (kG bQ r) v∧fl v=true∧Q v):dO P G f args [] 0 fun v _=>Q v:=by
 intro w β ro eM aa ad aq aS bC
 refine Calls.mono (h w β ro eM aa ad aq aS bC) fun e w' ⟨v,r,bQ,dV,ro',cR,he,af,dp,ht,ct⟩=>?_
 obtain⟨u,hu,ak,aL⟩:=gG r bQ af
 have nN: ∀b,Own bQ dV b→b<w'.heap.size:=fun b ⟨k,p,aj,ak,bc⟩=>(ht.c7 k p aj).hl ak bc
 refine⟨v,u,[],dV,uv ro' bQ dV,cR,he,aL,nP (hu _ _ _ _ _ _ (H3 ht dp)) ak,⟨by simp[aF],by simp[aF],fun b _=>jN dV b,fun b ae=>ae.elim (ht.lt b) (nN b)⟩,
  ⟨ct.os,ct.tape,ct.output,ct.size,ct.frame,fun b ae=>?_,fun b ae=>.inl (ct.jR b ae),fun b ae=>absurd ae (jN dV b),by simp[aF],by simp[aF],ct.le⟩⟩
 rcases ae with ae|ae
 ·exact ct.iR b ae
 ·exact .inr (ct.gN b ae)
end
def gg:Nat→List aD→Env
 |_,[]=>.emp
 |i,d::ds=>bb.put (gg (i+1) ds) i d
theorem KW: ∀{ds:List aD} {i j:Nat} {d:aD},ds[j]? =some d→Env.at (gg i ds) (i+j)=d
 |[],_,_,_,h=>by cases h
 |x::ds,i,0,d,h=>by
  have h:x=d:=by simpa using h
  simp only[gg,Env.j2,Nat.add_zero,if_true,h]
 |x::ds,i,j+1,d,h=>by
  have:=KW (i:=i+1) (show ds[j]? =some d by simpa using h)
  simp only[gg,Env.j2];rw[if_neg (by omega),←this]
  congr 1
  omega
def u5(rs:List aZ)(v:ab):List ab:=
 match rs,v with
 |[_],v=>[v]
 |_,.tp l=>l
 |_,x=>[x]
def KX(rs:List aZ)(v:ab):Bool:=
 match rs,v with
 |[_],_=>true
 |_,.tp _=>true
 |_,_=>false
def D0(rs:List aZ)(C:ar):Option (List ab):=
 match KX rs (C.at 0)with
 |true=>rz C rs (u5 rs (C.at 0))
 |false=>none
def xn(rs:List aZ)(C:ar):Bool:=(D0 rs C).isSome
def KY(rs:List aZ)(C:ar)(e:Env):(e9 rs).den:=
 match D0 rs C with
 |some l=>b3 rs (gm e rs l)
 |none=>(e9 rs).gH
def KZ(M:List a1)(t:aB)(rs:List aZ)(e:Env):(e9 rs).den:=t.fold M e (fun _ C ax=>KY rs C ax) (e9 rs).gH
def qG(n:Nat):ar:=⟨.emp,[],0,n,[]⟩
section
variable {P:Program} {G:a7} {M:List a1} {C:List hU} {inl:Nat→List ab→ar→aB}
theorem zcv{rs:List aZ}{S:ar}{e:Env}{l:List ab}(h:D0 rs S=some l):Sub (kG (cM G e S.h) ((S.at 0).den G e)) (lq rs (b3 rs (gm e rs l))):=by
 unfold D0 at h
 split at h
 rotate_left
 ·cases h
 rename_i aG
 obtain⟨bD,_,_,a4⟩:=xm (G:=G) (e:=e) h
 have u1:nw rs (b3 rs (gm e rs l))=(gm e rs l).map aD.fq:=by unfold nw;rw[xl a4]
 unfold lq
 rw[u1]
 match rs,bD,a4,aG with
 |[r],bD,a4,aG=>
  obtain⟨d,oK,av,aa,ad⟩:=lL a4
  cases mi ad
  rw[av]at bD⊢;simp only[u5,ab.bR,hI,List.map_cons,List.map_nil]at bD⊢
  cases bD with
  |cons h _=>exact h
 |[],bD,a4,aG=>
  cases av:S.at 0 with
  |tp m=>
   rw[av]at bD;rw[mi a4];rw[mi a4]at bD;exact bD.tuple
  |_=>rw[av]at aG;cases aG
 |r::s::q,bD,a4,aG=>
  cases av:S.at 0 with
  |tp m=>
   rw[av]at bD
   have ao:=congrArg List.length a4
   simp only[List.length_map,List.length_cons]at ao;generalize gm e (r::s::q) l=ds at bD ao⊢
   match ds,ao with
   |d::d2::ds,_=>exact bD.tuple
  |_=>rw[av]at aG;cases aG
theorem Sm{t:aB}{p:ar→Bool}(h:t.gz.all p=true){e ax:Env}{S:ar}(af:run M t e=some (.b9,S,ax)):p S=true:=List.all_eq_true.1 h S (nr af)
theorem K0(cd:gL P G M inl){f:Nat}{m:a1}(t:aB)(aG:inl f (hk 0 m.ps) (qG m.ps.length)=t)(he:t.gz.all (xn m.rs)=true)
 (ag: ∀x,my m.pre x→t.safe M (gg 0 (dn m.ps x)))(hm: ∀x,my m.pre x→KZ M t m.rs (gg 0 (dn m.ps x))=m.m x):ck P G f m:=fun x hx=>by
 subst aG
 have ao:m.ps.length=(dn m.ps x).length:=by have:=congrArg List.length (sT (rs:=m.ps) (x:=x));rw[List.length_map]at this;exact this.symm
 have h:=cd f (hk 0 m.ps) (qG m.ps.length) (gg 0 (dn m.ps x)) ⟨fun i x hi=>by simp[qG,bb.get]at hi,rfl,rfl⟩ (Ak (by show 0+_≤m.ps.length;omega)) (fun c hc=>by cases hc) (ag x hx)
 have hd:ab.bR G (gg 0 (dn m.ps x)) (hk 0 m.ps)=nw m.ps x:=Aj sT fun j d ai=>KW ai
 rw[hd]at h
 refine(dO.ret (fun _ _=>True) h (Q:=fun v=>v=lq m.rs (m.m x)) fun r bQ af=>?_)
 obtain⟨aQ,ax,cU,rfl,rfl,_⟩:=af
 have kX:=Sm he cU
 obtain⟨l,me⟩:=Option.isSome_iff_exists.1 kX
 refine⟨_,zcv me,KP,?_⟩
 have:=hm x hx
 unfold KZ at this
 rw[j6 cU]at this
 unfold KY at this
 rw[me]at this
 rw[←this]
theorem zcw(cd:gL P G M inl){f:Nat}{m:a1}(t:aB)(aG:inl f (hk 0 m.ps) (qG m.ps.length)=t)(he:(t.clean&&t.gz.all (xn m.rs))=true)
 (hm: ∀x,KZ M t m.rs (gg 0 (dn m.ps x))=m.m x):ck P G f m:=by
 simp only[Bool.and_eq_true]at he
 exact K0 cd t aG he.2 (fun _ _=>q8 M he.1) fun x _=>hm x
theorem pw.nil:pw P G M []:=fun _ h=>by cases h
theorem pw.cons{c:hU}(h:Sa P G M c)(mE:pw P G M C):pw P G M (c::C):=fun d hd=>by
 rcases List.mem_cons.1 hd with rfl|hd
 ·exact h
 ·exact mE d hd
end
end Go.aM
namespace Go.aM
open Go
def aB.kf(M:List a1):aB→{X:Type}→Env→(bT→ar→Env→X)→X→X
 | .cu x S,_,e,K,_=>K x S e
 | .lt i x t,_,e,K,d=>t.kf M (bb.put e i (x.den M e)) K d
 | .eL _ t,_,e,K,d=>t.kf M e K d
 | .it g a b,_,e,K,d=>bif g.aH e .bool then a.kf M e K d else b.kf M e K d
 | .dr n a ps k,_,e,K,d=>a.kf M e (fun x S ax=>bif x.bH n then k.kf M (fB e (fun r p=>⟨r,(p.c1 S).get ax r⟩) ps) K d else K x S ax) d
 | .ec m xid da bU ca a k,X,e,K,d=>Sum.elim (fun r=>r) (fun v=>k.kf M (bd e ca v) K d)
  (bL (fun i (v:bM ca)=>(a.kf M (bd (bb.put e bU ⟨.int .i64,(i:Int)⟩) ca v) (dY m xid ca K) (.b8 v):Step X (bM ca))) 0 (cg (da.den M e)).toNat (b3 _ (dw e ca)))
 | .eH m xid ca a k,X,e,K,d=>Sum.elim (fun r=>r) (fun v=>k.kf M (bd e ca v) K d)
  (b4 (fun v=>(a.kf M (bd e ca v) (dY m xid ca K) (.b8 v):Step X (bM ca))) cn (b3 _ (dw e ca)))
 | .bad _,_,_,_,d=>d
section
variable {M:List a1}
theorem mw: ∀(t:aB) {X:Type} (e:Env) (K:bT→ar→Env→X) (d:X),t.kf M e K d=t.fold M e K d
 | .cu _ _,_,_,_,_=>rfl
 | .lt i x t,_,e,K,d=>mw t _ K d
 | .eL _ t,_,e,K,d=>mw t _ K d
 | .it g a b,_,e,K,d=>by simp only[aB.kf,aB.fold,mw a,mw b]
 | .dr n a ps k,X,e,K,d=>by
  show a.kf M e (fun x S ax=>bif x.bH n then k.kf M (fB e (fun r p=>⟨r,(p.c1 S).get ax r⟩) ps) K d else K x S ax) d=(aB.dr n a ps k).fold M e K d
  rw[mw a]
  cases af:run M a e with
  |none=>rw[za af,su af]
  |some l=>
   obtain⟨x,S,ax⟩:=l;rw[j6 af]
   cases hx:x.bH n with
   |true=>rw[cond_true,pM af hx,mw k]
   |false=>rw[cond_false,nj af hx]
 | .ec m xid da bU ca a k,X,e,K,d=>by
  rw[wy];simp only[aB.kf,mw a,mw k]
 | .eH m xid ca a k,X,e,K,d=>by
  simp only[aB.kf,aB.fold,mw a,mw k]
 | .bad _,_,_,_,_=>rfl
def aB.wp(M:List a1):aB→Env→(bT→ar→Env→Prop)→Prop
 | .cu x S,e,Q=>Q x S e
 | .lt i x t,e,Q=>t.wp M (bb.put e i (x.den M e)) Q
 | .eL n t,e,Q=>n.ok M e∧t.wp M e Q
 | .it g a b,e,Q=>(g.aH e .bool=true→a.wp M e Q)∧(g.aH e .bool=false→b.wp M e Q)
 | .dr n a ps k,e,Q=>a.wp M e fun x S ax=>bif x.bH n then k.wp M (fB e (fun r p=>⟨r,(p.c1 S).get ax r⟩) ps) Q else Q x S ax
 | .ec m xid da bU ca a k,e,Q=>∃I:Nat→bM ca→Prop,I 0 (b3 _ (dw e ca))∧(∀(i:Nat) (v:bM ca),i<(cg (da.den M e)).toNat→I i v→
  a.wp M (bd (bb.put e bU ⟨.int .i64,(i:Int)⟩) ca v) fun x S ax=>bif x.bH m then I (i+1) (b3 _ (fh S ax ca))else bif x.cI xid then k.wp M (bd e ca (b3 _ (fh S ax ca))) Q else Q x S ax)∧
  ∀v,I (cg (da.den M e)).toNat v→k.wp M (bd e ca v) Q
 | .eH m xid ca a k,e,Q=>∃(I:bM ca→Prop) (ji:bM ca→Nat),I (b3 _ (dw e ca))∧ji (b3 _ (dw e ca))<cn∧∀(v:bM ca),I v→
  a.wp M (bd e ca v) fun x S ax=>bif x.bH m then I (b3 _ (fh S ax ca))∧ji (b3 _ (fh S ax ca))<ji v else bif x.cI xid then k.wp M (bd e ca (b3 _ (fh S ax ca))) Q else Q x S ax
 | .bad _,_,_=>False
theorem Sn{R A:Type}{b:Nat→A→Step R A}(I:Nat→A→Prop)(u6:R→Prop)(sU:A→Prop)(n:Nat)(h: ∀i v,i<n→I i v→(∀r,b i v= .ret r→u6 r)∧(∀bx,b i v= .b8 bx→sU bx)∧∀bx,b i v= .bn bx→I (i+1) bx)
 (he: ∀v,I n v→sU v): ∀(m k:Nat) (a:A),k+m=n→I k a→(∀r,bL b k m a= .inl r→u6 r)∧∀v,bL b k m a= .inr v→sU v
 |0,k,a,hn,hi=>by
  have:k=n:=by omega
  subst this;exact⟨fun r af=>(by cases af),fun v av=>(by cases av;exact he a hi)⟩
 |m+1,k,a,hn,hi=>by
  obtain⟨aa,ad,aq⟩:=h k a (by omega) hi
  simp only[bL]
  cases ae:b k a with
  |ret r=>exact⟨fun ew af=>(by cases af;exact aa r ae),fun v av=>(by cases av)⟩
  |b8 v=>exact⟨fun ew af=>(by cases af),fun bx av=>(by cases av;exact ad v ae)⟩
  |bn v=>exact Sn I u6 sU n h he m (k+1) v (by omega) (aq v ae)
theorem So{R A:Type}{b:A→Step R A}(I:A→Prop)(ji:A→Nat)(u6:R→Prop)(sU:A→Prop)(h: ∀v,I v→(∀r,b v= .ret r→u6 r)∧(∀bx,b v= .b8 bx→sU bx)∧∀bx,b v= .bn bx→I bx∧ji bx<ji v):
 ∀(m:Nat) (a:A),ji a<m→I a→j0 b m a∧(∀r,b4 b m a= .inl r→u6 r)∧∀v,b4 b m a= .inr v→sU v
 |0,a,hm,_=>absurd hm (Nat.not_lt_zero _)
 |m+1,a,hm,hi=>by
  obtain⟨aa,ad,aq⟩:=h a hi;simp only[b4,j0]
  cases ae:b a with
  |ret r=>exact⟨trivial,fun ew af=>(by cases af;exact aa r ae),fun v av=>(by cases av)⟩
  |b8 v=>exact⟨trivial,fun ew af=>(by cases af),fun bx av=>(by cases av;exact ad v ae)⟩
  |bn v=>
   obtain⟨g1,g2⟩:=aq v ae;exact So I ji u6 sU h m v (by omega) g1
def D1(M:List a1)(t:aB)(e:Env)(Q:bT→ar→Env→Prop):Prop:=∃x S ax,run M t e=some (x,S,ax)∧Q x S ax
theorem Sp{m xid:Nat}{ca:List hb}{a:aB}{e:Env}{v:bM ca}{J:bM ca→Prop}{B:bM ca→Prop}{Q:bT→ar→Env→Prop}
 (h:D1 M a e fun x S ax=>bif x.bH m then J (b3 _ (fh S ax ca))else bif x.cI xid then B (b3 _ (fh S ax ca))else Q x S ax):
 (∀r,cP M m xid ca a e v= .ret r→∃x S ax,r=some (x,S,ax)∧Q x S ax)∧(∀bx,cP M m xid ca a e v= .b8 bx→B bx)∧∀bx,cP M m xid ca a e v= .bn bx→J bx:=by
 obtain⟨x,S,ax,af,aL⟩:=h
 unfold cP
 rw[af]
 simp only
 cases hx:x.bH m with
 |true=>
  rw[hx,cond_true]at aL;rw[nX hx];exact⟨fun r aX=>(by cases aX),fun bx aX=>(by cases aX),fun bx aX=>(by cases aX;exact aL)⟩
 |false=>
  rw[hx,cond_false]at aL
  cases az:x.cI xid with
  |true=>
   rw[az,cond_true]at aL;rw[nY hx az];exact⟨fun r aX=>(by cases aX),fun bx aX=>(by cases aX;exact aL),fun bx aX=>(by cases aX)⟩
  |false=>
   rw[az,cond_false]at aL;rw[j5 hx az];exact⟨fun r aX=>(by cases aX;exact⟨_,_,_,rfl,aL⟩),fun bx aX=>(by cases aX),fun bx aX=>(by cases aX)⟩
theorem kg: ∀(t:aB) {e:Env} {Q:bT→ar→Env→Prop},t.wp M e Q→t.safe M e∧D1 M t e Q
 | .cu x S,e,Q,h=>⟨trivial,x,S,e,rfl,h⟩
 | .lt i x t,e,Q,h=>kg t (e:=bb.put e i (x.den M e)) h
 | .eL n t,e,Q,h=>⟨⟨h.1,(kg t h.2).1⟩,(kg t h.2).2⟩
 | .it g a b,e,Q,h=>by
  refine⟨⟨fun ah=>(kg a (h.1 ah)).1,fun ah=>(kg b (h.2 ah)).1⟩,?_⟩
  cases ah:g.aH e .bool with
  |true=>
   obtain⟨x,S,ax,aa,ad⟩:=(kg a (h.1 ah)).2;exact⟨x,S,ax,by rw[sI ah];exact aa,ad⟩
  |false=>
   obtain⟨x,S,ax,aa,ad⟩:=(kg b (h.2 ah)).2;exact⟨x,S,ax,by rw[sI ah];exact aa,ad⟩
 | .dr n a ps k,e,Q,h=>by
  obtain⟨aa,x,aQ,aA,af,aq⟩:=kg a h
  cases hx:x.bH n with
  |true=>
   rw[hx,cond_true]at aq;obtain⟨fJ,lb,dm,ax,ix,wz⟩:=kg k aq;refine⟨⟨aa,fun _=>?_⟩,lb,dm,ax,by unfold run;rw[pM af hx];exact ix,wz⟩
   have:(fun(r:aZ) (p:eg)=>(⟨r,bif a.ja n
    then a.fold M e (fun _ S ax=>(p.c1 S).get ax r) r.gH
    else a.fold M e (fun x S ax=>bif x.bH n then(p.c1 S).get ax r else r.gH) r.gH⟩:aD))=fun r p=>⟨r,(p.c1 aQ).get aA r⟩:=by
    funext r p
    simp only[j6 af,hx]
    cases a.ja n<;>rfl
   rw[this];exact fJ
  |false=>
   rw[hx,cond_false]at aq;exact⟨⟨aa,fun ai=>by rw[j6 af,hx]at ai;cases ai⟩,x,aQ,aA,by unfold run;rw[nj af hx],aq⟩
 | .ec m xid da bU ca a k,e,Q,h=>by
  obtain⟨I,aU,ae,he⟩:=h
  have pH:=fun(i:Nat) (v:bM ca) hi av=>kg a (ae i v hi av)
  have An:=fun(i:Nat) (v:bM ca) hi av=>Sp (v:=v) (J:=I (i+1)) (B:=fun bx=>k.wp M (bd e ca bx) Q) (Q:=Q) (pH i v hi av).2
  obtain⟨cq,cy⟩:=Sn I (fun r=>∃x S ax,r=some (x,S,ax)∧Q x S ax) (fun v=>k.wp M (bd e ca v) Q) (cg (da.den M e)).toNat An (fun v av=>he v av) (cg (da.den M e)).toNat 0 _ (Nat.zero_add _) aU
  have hy:(fun(i:Nat) (v:bM ca)=>(a.fold M (bd (bb.put e bU ⟨.int .i64,(i:Int)⟩) ca v) (dY m xid ca fun _ _ _=>()) (.b8 v):Step Unit (bM ca)))=fun(i:Nat) v=>hN (fun _=>()) (cP M m xid ca a (bd (bb.put e bU ⟨.int .i64,(i:Int)⟩) ca v) v):=by
   funext i v
   exact iD ..
  have K1:=te (fun _:Option ni=>()) (b:=fun(i:Nat) v=>cP M m xid ca a (bd (bb.put e bU ⟨.int .i64,(i:Int)⟩) ca v) v) (c:=fun(i:Nat) v=>hN (fun _=>()) (cP M m xid ca a (bd (bb.put e bU ⟨.int .i64,(i:Int)⟩) ca v) v)) (fun _ _=>rfl) (cg (da.den M e)).toNat 0 (b3 _ (dw e ca))
  refine⟨⟨⟨I,aU,fun i v hi av=>⟨(pH i v hi av).1,fun bx hn=>(An i v hi av).2.2 bx ?_⟩⟩,?_⟩,?_⟩
  ·rw[iD]at hn
   exact sv hn
  ·rw[hy,K1]
   cases ao:bL (fun(i:Nat) v=>cP M m xid ca a (bd (bb.put e bU ⟨.int .i64,(i:Int)⟩) ca v) v) 0 (cg (da.den M e)).toNat (b3 _ (dw e ca))with
   |inl r=>trivial
   |inr v=>exact(kg k (cy v ao)).1
  ·unfold D1
   rw[CX]
   cases ao:bL (fun(i:Nat) v=>cP M m xid ca a (bd (bb.put e bU ⟨.int .i64,(i:Int)⟩) ca v) v) 0 (cg (da.den M e)).toNat (b3 _ (dw e ca))with
   |inl r=>exact cq r ao
   |inr v=>exact(kg k (cy v ao)).2
 | .eH m xid ca a k,e,Q,h=>by
  obtain⟨I,ji,aU,hm,ae⟩:=h
  have pH:=fun(v:bM ca) av=>kg a (ae v av)
  have An:=fun(v:bM ca) av=>Sp (v:=v) (J:=fun bx=>I bx∧ji bx<ji v) (B:=fun bx=>k.wp M (bd e ca bx) Q) (Q:=Q) (pH v av).2
  obtain⟨zcx,cq,cy⟩:=So I ji (fun r=>∃x S ax,r=some (x,S,ax)∧Q x S ax) (fun v=>k.wp M (bd e ca v) Q) An cn _ hm aU
  have hy:(fun(v:bM ca)=>(a.fold M (bd e ca v) (dY m xid ca fun _ _ _=>()) (.b8 v):Step Unit (bM ca)))=fun v=>hN (fun _=>()) (cP M m xid ca a (bd e ca v) v):=by
   funext v
   exact iD ..
  have K1:=wu (fun _:Option ni=>()) (b:=fun v=>cP M m xid ca a (bd e ca v) v) (c:=fun v=>hN (fun _=>()) (cP M m xid ca a (bd e ca v) v)) (fun _=>rfl) cn (b3 _ (dw e ca))
  have zcy:=Ip (fun _:Option ni=>()) (b:=fun v=>cP M m xid ca a (bd e ca v) v) (c:=fun v=>hN (fun _=>()) (cP M m xid ca a (bd e ca v) v)) (fun _=>rfl) cn (b3 _ (dw e ca))
  refine⟨⟨⟨I,aU,fun v av=>⟨(pH v av).1,fun bx hn=>((An v av).2.2 bx ?_).1⟩⟩,?_,?_⟩,?_⟩
  ·rw[iD]at hn
   exact sv hn
  ·rw[hy]
   exact zcy.2 zcx
  ·rw[hy,K1]
   cases ao:b4 (fun v=>cP M m xid ca a (bd e ca v) v) cn (b3 _ (dw e ca))with
   |inl r=>trivial
   |inr v=>exact(kg k (cy v ao)).1
  ·unfold D1
   rw[CY]
   cases ao:b4 (fun v=>cP M m xid ca a (bd e ca v) v) cn (b3 _ (dw e ca))with
   |inl r=>exact cq r ao
   |inr v=>exact(kg k (cy v ao)).2
 | .bad _,_,_,h=>h.elim
end
def vH(M:List a1)(t:aB)(rs:List aZ)(e:Env):(e9 rs).den:=t.kf M e (fun _ C ax=>KY rs C ax) (e9 rs).gH
section
variable {P:Program} {G:a7} {M:List a1} {inl:Nat→List ab→ar→aB}
theorem k4(cd:gL P G M inl){f:Nat}{m:a1}(t:aB)(aG:inl f (hk 0 m.ps) (qG m.ps.length)=t)(he:(t.clean&&t.gz.all (xn m.rs))=true)
 (hm: ∀x,vH M t m.rs (gg 0 (dn m.ps x))=m.m x):ck P G f m:=
 zcw cd t aG he fun x=>by rw[←hm x];exact(mw t _ _ _).symm
theorem zcz(cd:gL P G M inl){f:Nat}{m:a1}(t:aB)(aG:inl f (hk 0 m.ps) (qG m.ps.length)=t)(he:t.gz.all (xn m.rs)=true)
 (ag: ∀x,my m.pre x→t.wp M (gg 0 (dn m.ps x)) fun _ _ _=>True)(hm: ∀x,vH M t m.rs (gg 0 (dn m.ps x))=m.m x):ck P G f m:=
 K0 cd t aG he (fun x hx=>(kg t (ag x hx)).1) fun x _=>by rw[←hm x];exact(mw t _ _ _).symm
end
end Go.aM
namespace Go.aM
open Go
section
variable {P:Program} {G:a7} {f:FuncId} {args:List aE} {σ:bA} {n:Nat}
theorem dO.zcA{t:TypeId}{cs sV:List aE}{R:aE→List aE→Prop}(h:dO P G f (.ptr 0 0::args) [(0,.box t cs)] 1 fun r bQ=>∃cs',bQ=[(0,.box t cs')]∧R r cs')(ak:eP args=true)(fA:eP cs=true)
 (gG: ∀r cs',R r cs'→jY r=true∧ng cs'=true){id:Nat}(hid:aF σ id=some (.box t sV))(gj:fX sV cs):
 dO P G f (.ptr id 0::args) σ n fun r bQ=>∃cs',bQ=e3 σ id (.box t cs')∧R r cs':=by
 intro w β ro eM aa ad aq aS bC
 have du:=aq.c7 id _ hid
 cases du with
 |box _ _ b arr aA aW cr eD=>
  have Sq: ∀k,Own [(0,en.box t cs)] (fun _=>β id) k→cf (β id)=some k:=fun k ⟨i,o,ah,_,ae⟩=>ae
  have uZ:ho w ro [(0,.box t cs)] (fun _=>β id) 1:=by
   refine⟨fun i o ah=>?_,fun i yG o cm k ah dR _ _ _ _=>?_,fun k aj an=>aq.fz k aj ⟨id,_,hid,rfl,Sq k an⟩,aq.lt⟩
   ·simp only[aF]at ah
    split at ah
    ·rename_i hi
     subst hi;cases ah;refine .box t cs b arr aA aW (by rw[cr,gj.at.1]) fun j x ai=>?_
     obtain⟨y,az,ag⟩:=gj.at.2 j x ai;exact nP (ag _ _ _ _ _ _ (eD j y az)) (na fA ai)
    ·cases ah
   ·simp only[aF]at ah dR
    split at ah
    ·split at dR
     ·rename_i bD a2;rw[←bD,←a2]
     ·cases dR
    ·cases ah
  refine Calls.mono (h w (fun _=>β id) ro eM aa (fun i x hx=>?_) uZ aS (fun i o ah=>?_)) fun e w' ⟨v,r,fm,dV,ro',cR,he,⟨cs',Hy,af⟩,dp,ht,ct⟩=>?_
  ·cases i with
   |zero=>
    simp only[List.getElem?_cons_zero,Option.some.injEq]at hx
    subst hx
    have:=ad 0 _ rfl
    generalize eM.getD 0 undef=bj at this⊢
    cases this with
    |ptr _ _ _ ao ln=>
     refine .ptr 0 0 bj Nat.one_pos fun bw cs' ah=>?_
     exact ln t sV hid
   |succ i=>exact nP (ad (i+1) x (by simpa using hx)) (na ak (by simpa using hx))
  ·simp only[aF]at ah
   split at ah
   ·rename_i hi;rw[←hi];exact Nat.one_pos
   ·cases ah
  ·subst Hy
   obtain⟨NB,Ft⟩:=gG r cs' af
   have gd:c9 ⟨w,ro,σ,β,n⟩ G ⟨[],σ,n,n⟩ ⟨#[],[]⟩ w β ro:=⟨rfl,rfl,by simp,aq,aS,⟨rfl,rfl,rfl,Nat.le_refl _,fun _ _ _=>rfl,fun _ h=>.inl h,fun _ h=>h,fun _ h=>.inl h,fun id _ o ah=>⟨by simp[ah],rfl⟩,bC,Nat.le_refl _⟩,Nat.le_refl _⟩
   have zcB:dV 0=β id:=(ct.dK 0 Nat.one_pos (.box t cs') (by simp[aF])).2
   have hw:=gd.write (w':=w') id _ (.box t cs') hid rfl rfl (.inl ⟨t,sV,cs',rfl,rfl⟩) ct.os ct.tape ct.output ct.size (fun k aj cb=>ct.frame k aj fun an=>cb (Sq k an)) (by
    have zcC:=ht.c7 0 (.box t cs') (by simp[aF])
    cases zcC with
    |box _ _ b' zcD g1 g2 g3 g4=>
     exact .box t cs' b' zcD (by rw[←zcB];exact g1) g2 g3 fun j x ai=>Cg (g4 j x ai) (Cf Ft ai))
   exact⟨v,r,e3 σ id (.box t cs'),β,ro,n,he,⟨cs',rfl,af⟩,Cg dp NB,hw.heap,hw.trans⟩
end
def xo(ds:List aD):List aE:=
 match ds with
 |⟨.st c,x⟩::_=>(cZ c x).map .au
 |_=>[]
def D2(ds:List aD):aE:=
 match ds.tail.map aD.fq with
 |[v]=>v
 |l=>.tuple l
def iQ(P:Program)(G:a7)(f:Nat)(t:TypeId)(m:a1):Prop:=
 ∀x:(e9 m.ps).den,my m.pre x→dO P G f (.ptr 0 0::(dn m.ps x).tail.map aD.fq) [(0,.box t (xo (dn m.ps x)))] 1 fun v bQ=>∃cs',bQ=[(0,.box t cs')]∧v=D2 (dn m.rs (m.m x))∧cs'=xo (dn m.rs (m.m x))
structure jQ where
 f:Nat
 j:Nat
 t:TypeId
 c:bO
 ps:List aZ
 rs:List aZ
 eO:Bool
def jQ.o4(b:jQ):hU:=⟨b.f,b.j,.st b.c::b.ps,.st b.c::b.rs,b.eO⟩
def zcE(P:Program)(G:a7)(M:List a1)(b:jQ):Prop:=
 (eN a1.d M b.j).ps= .st b.c::b.ps∧(eN a1.d M b.j).rs= .st b.c::b.rs∧iQ P G b.f b.t (eN a1.d M b.j)∧(b.eO=true→(eN a1.d M b.j).pre=none)
def Hi(P:Program)(G:a7)(M:List a1)(C:List jQ):Prop:=∀b∈C,zcE P G M b
def D3(f:Nat):List jQ→Option jQ
 |[]=>none
 |c::r=>match Nat.beq c.f f with
  |true=>some c
  |false=>D3 f r
theorem Sr{f:Nat}{c:jQ}: ∀{C:List jQ},D3 f C=some c→c∈C∧c.f=f
 |[],h=>by cases h
 |d::r,h=>by
  unfold D3 at h
  split at h
  ·rename_i hd;cases h;exact⟨List.mem_cons_self ..,Nat.eq_of_beq_eq_true hd⟩
  ·obtain⟨aa,ad⟩:=Sr h;exact⟨List.mem_cons_of_mem _ aa,ad⟩
def o5(rs:List aZ)(k:Nat):Nat:=
 match rs with
 |[_]=>k
 |_=>k+1
def D4(rs:List aZ)(k:Nat):ab:=
 match rs with
 |[r]=>Ai r k
 |rs=>.tp (hk k rs)
def D5(b:jQ)(S:ar)(id:Nat)(xs:List ab):ar:=
 ⟨bb.put .emp 0 (D4 b.rs (o5 b.o4.rs S.k+1)),kI S.h id (.dc b.t (iY b.c (o5 b.o4.rs S.k) 0 (fo b.c))),S.n,S.k+(ij b.o4 xs S.k).length,S.g⟩
def Ss(b:jQ)(S:ar)(t:TypeId)(l rest xs:List ab):Bool:=
 (Nat.beq t b.t&&(hJ (fo b.c) l&&ab.cD S.k l))&&((sS rest&&ab.cD S.k xs)&&((aZ.st b.c).sR&&(b.rs.all aZ.sR&&b.rs.all aZ.ic)))
def K2(C:List jQ)(inl:Nat→List ab→ar→aB)(f:Nat)(as:List ab)(S:ar):aB:=
 match D3 f C,as with
 |some b,.dD id 0::rest=>match dq S.h id,rz S b.ps rest with
  |some (.dc t l),some xs=>match Ss b S t l rest xs with
   |true=>emit S.k (ij b.o4 (.cF l::xs) S.k) (DW b.o4 (.cF l::xs)) (.cu .b9 (D5 b S id (.cF l::xs)))
   |false=>inl f as S
  |_,_=>inl f as S
 |_,_=>inl f as S
section
variable {P:Program} {G:a7} {M:List a1} {C:List jQ} {inl:Nat→List ab→ar→aB}
theorem zcF{c:hU}{xs:List ab}{k:Nat}{e:Env}{y:(e9 c.rs).den}(ao:ab.cD k xs=true)(aU:Env.at (c3 M e k (ij c xs k)) k=⟨e9 c.rs,y⟩):
 ∀(j:Nat) (d:aD),(dn c.rs y)[j]? =some d→Env.at (c3 M e k (ij c xs k)) (o5 c.rs k+j)=d:=by
 have eF:=jd (M:=M) (e:=e) (DY (c:=c) ao)
 obtain⟨f,dG,ps,rs,eO⟩:=c
 simp only at y aU eF⊢
 match rs,y,aU,eF with
 |[],y,aU,eF=>intro j d ai;cases ai
 |[r],y,aU,eF=>
  intro j d ai
  cases j with
  |zero=>
   have ai:(⟨r,y⟩:aD)=d:=by simpa[dn]using ai
   rw[←ai];exact aU
  |succ j=>simp[dn]at ai
 |r::s::l,y,aU,eF=>
  intro j d ai
  have hlen:j<(r::s::l).length:=by
   have aa:=(List.getElem?_eq_some_iff.1 ai).1
   have:=congrArg List.length (sT (rs:=r::s::l) (x:=y))
   rw[List.length_map]at this;omega
  have aa:=eF (j+1) (.uE (r::s::l) k j) (by
   show(bS.ca dG xs::n4 (r::s::l) k 0 (r::s::l))[j+1]? =_
   rw[List.getElem?_cons_succ,KR,if_pos hlen,Nat.zero_add])
  show Env.at _ (k+1+j)=d;rw[show k+1+j=k+(j+1)by omega,aa]
  simp only[bS.den,aU,cT];exact KV ai
theorem zcG{e:Env}{rs:List aZ}{k:Nat}{ds:List aD}(af:ds.map aD.r=rs)(h: ∀j d,ds[j]? =some d→Env.at e (k+j)=d):(D4 rs k).den G e=(match ds.map aD.fq with|[v]=>v|l=>.tuple l):=by
 match rs,ds,af,h with
 |[],ds,af,h=>cases mi af;rfl
 |[r],ds,af,h=>
  obtain⟨d,oK,rfl,aa,ad⟩:=lL af
  cases mi ad
  subst aa;exact KT (x:=d.v) (h 0 d rfl)
 |r::s::l,ds,af,h=>
  have:=Aj (G:=G) (i:=k) af h
  obtain⟨d,oK,rfl,aa,ad⟩:=lL af;obtain⟨d2,zdW,rfl,aq,aS⟩:=lL ad;show aE.tuple (ab.bR G e (hk k (r::s::l)))=_;rw[this];rfl
theorem zcH{ds:List aD}{c:bO}{x:gh c}{r:List aD}(h:ds=⟨.st c,x⟩::r)(hc:(aZ.st c).sR=true):ng (xo ds)=true:=by
 subst h
 have:=Sh (d:=⟨.st c,x⟩) hc
 exact this
theorem zcI(mE:Hi P G M C)(cd:gL P G M inl):gL P G M (K2 C inl):=fun f as S e ae ao hf ag=>by
 unfold K2 at ag⊢
 split at ag
 rotate_left
 ·exact cd _ _ S e ae ao hf ag
 rename_i b id rest hc
 split at ag
 rotate_left
 ·exact cd _ _ S e ae ao hf ag
 rename_i t l xs ah hx
 split at ag
 rotate_left
 ·exact cd _ _ S e ae ao hf ag
 rename_i aj
 simp only[Ss,Bool.and_eq_true]at aj
 obtain⟨⟨fJ,ix,wz⟩,⟨D6,zcJ⟩,St,Su,zcK⟩:=aj
 have fJ:=Nat.eq_of_beq_eq_true fJ
 subst fJ
 obtain⟨hm,Am⟩:=Sr hc
 obtain⟨g1,g2,g3,g4⟩:=mE b hm
 have zcL:ab.lt S.k (.cF l)=true:=wz
 have D7:ab.cD S.k (.cF l::xs)=true:=by simp only[ab.cD,zcL,zcJ,Bool.and_self]
 obtain⟨hn,_⟩:=mr ag
 have u4:=DY (c:=b.o4) D7
 have bG:bZ S.k e (c3 M e S.k (ij b.o4 (.cF l::xs) S.k)):=jD (Nat.le_refl _)
 have cb:b.eO=false→fK.ok M (c3 M e S.k (ij b.o4 (.cF l::xs) S.k)) (.ca b.j (.cF l::xs)):=fun qM=>hn _ (by unfold DW;rw[show b.o4.eO=b.eO from rfl,qM];exact List.mem_singleton.2 rfl)
 obtain⟨bD,a2,a3,a4⟩:=xm (G:=G) (e:=e) hx
 have eF:=jd (M:=M) (e:=e) u4 0 (.ca b.j (.cF l::xs)) (by unfold ij;split<;>rfl)
 have dN:=y6 (G:=G) (e:=e) ix
 obtain⟨D8,Ao,bt,hz,rA,nx,Ap⟩:=b
 simp only[jQ.o4]at g1 g2 g3 g4 Am u4 bG cb bD a2 a3 a4 eF ix St Su zcK dN hx⊢
 subst Am
 simp only[Nat.add_zero,bS.den]at eF
 simp only[fK.ok]at cb
 clear ag hn
 generalize eN a1.d M Ao=m at g1 g2 g3 g4 eF cb
 obtain⟨zdX,zdY,zdZ,n5⟩:=m
 simp only at g1 g2 g3 g4 eF cb
 subst g1 g2
 rw[wB bG D7]at eF
 have u3:(gm e (.st hz::rA) (.cF l::xs)).map aD.r= .st hz::rA:=by simp only[gm,List.map_cons,a4]
 have Aq:=xl u3
 have gR:=g3 (b3 _ (gm e (.st hz::rA) (.cF l::xs))) (by
  cases Ap with
  |true=>rw[g4 rfl];trivial
  |false=>
   have:=cb rfl
   rw[wB bG D7]at this
   exact this)
 simp only at gR
 rw[Aq]at gR
 generalize az:n5 (b3 (.st hz::rA) (gm e (.st hz::rA) (.cF l::xs)))=y at gR eF
 have K3:=zcF (M:=M) (c:=⟨D8,Ao,.st hz::rA,.st hz::nx,Ap⟩) D7 eF
 obtain⟨d0,sW,nd,qT,hdr⟩:=lL (sT (rs:=.st hz::nx) (x:=y))
 obtain⟨zcM,eb⟩:=d0
 simp only at qT
 subst qT
 simp only[nd]at gR K3
 rw[a3 D6]at bD a2
 have gR:=gR.arg (.cons (Sub.refl _) bD)
 have hid:aF (cM G e S.h) id=some (.box bt (ab.bR G e l)):=by rw[eR,ah];rfl
 have p1:=dO.zcA (R:=fun r cs'=>r=D2 (⟨.st hz,eb⟩::sW)∧cs'=xo (⟨.st hz,eb⟩::sW)) (σ:=cM G e S.h) (n:=S.n) gR a2 (B1 _) (fun r cs' ⟨dk,dy⟩=>⟨by
  rw[dk]
  have hsc:ng (sW.map aD.fq)=true:=KQ fun d hd=>by
   have:d.r∈nx:=by rw[←hdr];exact List.mem_map_of_mem hd
   exact List.all_eq_true.1 Su d.r this
  unfold D2;simp only[List.tail_cons]
  split
  ·rename_i v av
   rw[av]at hsc;simpa[ng]using hsc
  ·exact hsc,by rw[dy];exact zcH rfl St⟩) hid dN
 have aU:=K3 0 ⟨.st hz,eb⟩ rfl
 rw[Nat.add_zero]at aU
 have hlen:o5 (.st hz::nx) S.k+1+nx.length≤S.k+(ij ⟨D8,Ao,.st hz::rA,.st hz::nx,Ap⟩ (.cF l::xs) S.k).length:=by
  cases nx with
  |nil=>simp[o5,ij]
  |cons r q=>simp only[o5,ij,List.length_cons,KS];omega
 have zcN:o5 (.st hz::nx) S.k<S.k+(ij ⟨D8,Ao,.st hz::rA,.st hz::nx,Ap⟩ (.cF l::xs) S.k).length:=by omega
 refine p1.res fun r bQ ⟨cs',aa,ad,aq⟩=>⟨_,_,by rw[lQ];rfl,?_,?_,?_,?_,bG,Nat.le_add_right _ _⟩
 ·rw[ad]
  have:=zcG (G:=G) (k:=o5 (.st hz::nx) S.k+1) hdr fun j d ai=>by
   have:=K3 (j+1) d (by simpa using ai)
   rw[←this]
   congr 1
   omega
  show _=ab.den G _ (ar.at (D5 _ S id _) 0);unfold D5 ar.at
  simp only[bb.j1,if_true];exact this.symm
 ·rw[aa,aq]
  show _=cM G _ (kI S.h id _);rw[uG,ze bG ae.h];simp only[bE.den,jQ.o4];rw[wk,aU,cT];rfl
 ·refine⟨fun i x hi=>?_,Di (o:=.dc bt (iY hz (o5 (.st hz::nx) S.k) 0 (fo hz))) (DZ zcN) (uH (Nat.le_add_right _ _) ae.h),oQ (Nat.le_add_right _ _) ae.g⟩
  simp only[D5,bb.j1]at hi
  split at hi
  ·cases hi
   show(D4 nx (o5 (.st hz::nx) S.k+1)).lt (S.k+_)=true;unfold D4
   split
   ·have HD:o5 (.st hz::[_]) S.k+1<S.k+(ij ⟨D8,Ao,.st hz::rA,.st hz::[_],Ap⟩ (.cF l::xs) S.k).length:=hlen
    exact KU HD
   ·simp only[ab.lt]
    exact Ak hlen
  ·simp[bb.get]at hi
 ·exact ig bG ae.g hf
end
end Go.aM
