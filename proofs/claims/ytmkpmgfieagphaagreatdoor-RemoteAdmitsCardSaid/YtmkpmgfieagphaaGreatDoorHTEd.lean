/- TD, part Z: regions of drawn order, sound. Conditions: none. -/
import Derived.Test.YtmkpmgfieagphaaGreatDoorHTDy
namespace Go.aN
open Go
def yE(v:ab):Bool:=
 match v.rt with
 |some (.int _)=>true
 |some .bool=>true
 |some .str=>true
 |_=>false
def OY(P:Program)(S:ar)(t:TypeId)(id:Nat)(i:ab):Option dy:=
 match i.rt,ke P t,dm S.h id with
 |some (.int k),some n,some (.rw _ c y)=>match Nat.beq n (b4 c)with
  |true=>some ⟨[],py S.g (.iX c) (.kj c k) y i,.gR id i 0⟩
  |false=>none
 |_,_,_=>none
def OZ(P:Program)(S:ar)(t:TypeId)(x i:ab):Option dy:=
 match i.rt,ke P t,vx x with
 |some (.int k),some n,some c=>match Nat.beq n (b4 c)with
  |true=>some ⟨[.f2 (.kj c k) x i],py S.g (.iX c) (.kj c k) x i,.ip c S.k 0⟩
  |false=>none
 |_,_,_=>none
def O0(P:Program)(S:ar)(t:TypeId)(id off:Nat)(i:ab):Option dy:=
 match i.rt,u1 P t,vt S (.ej id off)with
 |some (.int _),some (len,n),some _=>match i with
  | .cs (.int _ (.ofNat j))=>match Nat.blt j len,xX (j*n) (.ej id off)with
   |true,some p=>some ⟨[],[],p⟩
   |_,_=>none
  |i=>some ⟨[],xV S.g len i,.gY id off i n⟩
 |_,_,_=>none
def Gn(P:Program)(N:Nat)(S:ar)(t:TypeId)(x:ab)(lo hi:Option Operand):Option dy:=
 match x3 N S lo,x3 N S hi,x.rt,ke P t with
 |some l,some h,some (.li c),some n=>match Nat.beq n (b4 c)with
  |true=>some ⟨[.eG c x l h],[.eG c x l h],.aV (.li c) S.k⟩
  |false=>none
 |_,_,_,_=>none
def sa(P:Program)(N:Nat)(S:ar)(o:Oper):Option dy:=
 match o.op with
 | .move x=>some ⟨[],[],S.a7 N x⟩
 | .assign x=>some ⟨[],[],S.a7 N x⟩
 | .nilCheck x=>match tm S (S.a7 N x)with
  |true=>some ⟨[],[],S.a7 N x⟩
  |false=>none
 | .fieldAddr t x f=>match sT P t f,tm S (S.a7 N x)with
  |some k,true=>match xX k (S.a7 N x)with
   |some p=>some ⟨[],[],p⟩
   |none=>none
  |_,_=>none
 | .load t x=>match vt S (S.a7 N x)with
  |some l=>match qc P t l with
   |some v=>some ⟨[],[],v⟩
   |none=>none
  |none=>match qG P N S o with
   |some r=>match yE r.v with
    |true=>some r
    |false=>none
   |none=>none
 | .indexAddr t x i=>match S.a7 N x with
  | .aP id=>OY P S t id (S.a7 N i)
  | .ej id off=>O0 P S t id off (S.a7 N i)
  |y=>OZ P S t y (S.a7 N i)
 | .slice t x lo hi none=>match Gn P N S t (S.a7 N x) lo hi with
  |some r=>some r
  |none=>match qG P N S o with
   |some r=>match yE r.v with
    |true=>some r
    |false=>none
   |none=>none
 |_=>match qG P N S o with
  |some r=>match yE r.v with
   |true=>some r
   |false=>none
  |none=>none
def nC(o:Oper):Bool:=
 match o.op with
 | .store _ _ _=>true
 | .alloc _=>true
 | .box _ _=>true
 | .buildSlice _ _ _=>true
 | .mapUpdate _ _ _ _=>true
 | .call c=>match c.callee with
  | .builtin .append=>true
  | .builtin .copy=>true
  |_=>false
 |_=>false
mutual
def ab.pure:ab→Bool
 | .aV _ _=>true
 | .fd _ _ _ _=>true
 | .cs _=>true
 | .ip _ _ _=>true
 | .cr l=>ab.e7 l
 | .tp l=>ab.e7 l
 | .fn _ a b=>ab.e7 a&&ab.e7 b
 |_=>false
def ab.e7:List ab→Bool
 |[]=>true
 |x::r=>ab.pure x&&ab.e7 r
end
def O1(S:ar)(dst:Option Nat)(C:ar):aC:=
 match ab.pure (C.at 0)with
 |true=>.cQ .ct ((⟨S.l,S.h,S.n,C.k,C.g⟩:ar).put dst (C.at 0))
 |false=>.bad 74
def sb(P:Program)(N B:Nat)(T:List (Nat × bR))(inl:Nat→List ab→ar→aC)(o:Oper)(S:ar):aC:=
 match nC o with
 |true=>match FP P N B T S o with
  |some r=>match hB S.k r.xs&&(r.v.lt (S.k+r.xs.length)&&eM (S.k+r.xs.length) r.h)with
   |true=>emit S.k r.xs r.ns (.cQ .ct ((r.st S o.dst).e5 S.k r.xs))
   |false=>.bad 31
  |none=>.bad (100+N8 o)
 |false=>match qG P N S o with
  |some r=>match hB S.k r.xs&&r.v.lt (S.k+r.xs.length)with
   |true=>emit S.k r.xs r.ns (.cQ .ct ((S.e5 S.k r.xs).put o.dst r.v))
   |false=>.bad 30
  |none=>match BJ P N S o with
   |some (f,aG)=>match nd P f&&ab.e7 aG with
    |true=>(inl f aG ⟨.emp,[],0,S.k,S.g⟩).eP (O1 S o.dst) none
    |false=>.bad 32
   |none=>.bad (100+N8 o)
def qP(P:Program)(N B:Nat)(T:List (Nat × bR))(inl:Nat→List ab→ar→aC)(ops:Array Oper)(o:Oper)(S:ar):aC:=
 match guardOf N ops S o with
 | .yes=>sb P N B T inl o S
 | .no=>match nC o with
  |false=>.cQ .ct (S.put o.dst (.tp []))
  |true=>.bad 73
 | .on gs=>match lZ S.k gs&& !(nC o)with
  |true=>match qG P N {S with g:=hC gs S.g} o with
   |some r=>match hB S.k r.xs&&r.v.lt (S.k+r.xs.length)with
    |true=>emit S.k r.xs (r.ns.map (qK gs)) (.cQ .ct ((S.e5 S.k r.xs).put o.dst (ko gs r.v)))
    |false=>.bad 35
   |none=>tA (r6 S o.dst) gs (sb P N B T inl o {S with g:=hC gs S.g}) S.g
  |false=>.bad 36
 | .bad=>.bad 37
def tI(P:Program)(N:Nat)(ops:Array Oper)(o:Oper)(S:ar)(k:ar→aC):aC:=
 match guardOf N ops S o with
 | .yes=>match sa P N S o with
  |some r=>match hB S.k r.xs&&r.v.lt (S.k+r.xs.length)with
   |true=>emit S.k r.xs r.ns (k ((S.e5 S.k r.xs).put o.dst r.v))
   |false=>.bad 30
  |none=>.bad 76
 | .no=>k (S.put o.dst (.tp []))
 | .on gs=>match lZ S.k gs with
  |true=>match sa P N {S with g:=hC gs S.g} o with
   |some r=>match hB S.k r.xs&&r.v.lt (S.k+r.xs.length)with
    |true=>emit S.k r.xs (r.ns.map (qK gs)) (k ((S.e5 S.k r.xs).put o.dst (ko gs r.v)))
    |false=>.bad 35
   |none=>.bad 76
  |false=>.bad 36
 | .bad=>.bad 37
def pop(P:Program)(N:Nat)(S:ar)(o:Oper):Bool:=
 match o.op with
 | .move _=>true
 | .assign _=>true
 | .nilCheck _=>true
 | .fieldAddr _ _ _=>true
 | .indexAddr _ _ _=>true
 | .slice t x lo hi none=>(Gn P N S t (S.a7 N x) lo hi).isSome
 |_=>false
def yF(P:Program)(N:Nat)(ops:Array Oper)(S:ar)(o:Oper):Bool:=
 match guardOf N ops S o with
 | .yes=>pop P N S o
 | .no=>true
 | .on gs=>pop P N {S with g:=hC gs S.g} o
 | .bad=>false
def zjx(P:Program)(N:Nat)(ops:Array Oper)(wr m:List Bool)(S:ar)(i:Nat):Bool:=
 match ops[i]? with
 |some o=>(Region.free .any ops m.toArray i&&(!(wr.getD i false)&&(yF P N ops S o||Gm ops wr m i)))&&(match guardOf N ops S o with
  | .yes=>(sa P N S o).isSome
  | .no=>true
  | .on gs=>(sa P N {S with g:=hC gs S.g} o).isSome
  | .bad=>false)
 |none=>false
def Wd(P:Program)(N:Nat)(ops:Array Oper)(wr m:List Bool)(S:ar):List Nat→Option Nat
 |[]=>none
 |i::r=>match zjx P N ops wr m S i with
  |true=>some i
  |false=>Wd P N ops wr m S r
def Gp(N:Nat)(ops:Array Oper)(S:ar)(o:Oper):List (ab × Bool):=
 match guardOf N ops S o with
 | .on gs=>gs
 |_=>[]
def O2:cc→cc→Bool
 | .d1 i f x,.d1 j g y=>Nat.beq i j&&(decide (f=g)&&eN x y)
 | .d2 i f x y,.d2 j g u v=>(Nat.beq i j&&decide (f=g))&&(eN x u&&eN y v)
 | .rg i b,.rg j c=>Nat.beq i j&&eN b c
 | .eb g b,.eb h c=>eN g h&&decide (b=c)
 |_,_=>false
def Gq:List cc→List cc→Bool
 |[],[]=>true
 |x::l,y::m=>O2 x y&&Gq l m
 |_,_=>false
def O3:bO→bO→Bool
 | .dv t l,.dv u m=>Nat.beq t u&&pE l m
 | .rw t c x,.rw u d y=>Nat.beq t u&&(decide (c=d)&&eN x y)
 | .it u x p,.it v y q=>decide (u=v)&&(eN x y&&eN p q)
 |_,_=>false
def Gr:List (Nat × bO)→List (Nat × bO)→Bool
 |[],[]=>true
 |(i,x)::l,(j,y)::m=>Nat.beq i j&&(O3 x y&&Gr l m)
 |_,_=>false
def B5:bd ab→bd ab→Bool
 | .emp,.emp=>true
 | .n v l r,.n w m s=>(match v,w with
  |some x,some y=>eN x y
  |none,none=>true
  |_,_=>false)&&(B5 l m&&B5 r s)
 |_,_=>false
def O4(S U:ar):Bool:=(B5 S.l U.l&&Gr S.h U.h)&&((Nat.beq S.n U.n&&Nat.beq S.k U.k)&&Gq S.g U.g)
def O5:bT→bT→Bool
 | .ca j aG,.ca i cM=>Nat.beq j i&&pE aG cM
 | .rS rs p i,.rS qs q j=>decide (rs=qs)&&(Nat.beq p q&&Nat.beq i j)
 | .f1 f x,.f1 g y=>decide (f=g)&&eN x y
 | .f2 f x y,.f2 g u v=>decide (f=g)&&(eN x u&&eN y v)
 | .xM k v m x,.xM bs bo vT iP=>(decide (k=bs)&&decide (v=bo))&&(eN m vT&&eN x iP)
 | .vp k v m x,.vp bs bo vT iP=>(decide (k=bs)&&decide (v=bo))&&(eN m vT&&eN x iP)
 |_,_=>false
def O6:fi→fi→Bool
 | .f2 n f x y,.f2 m g u v=>(Nat.beq n m&&decide (f=g))&&(eN x u&&eN y v)
 | .ca j aG,.ca i cM=>Nat.beq j i&&pE aG cM
 | .nth n x,.nth m y=>Nat.beq n m&&eN x y
 |_,_=>false
def qQ:aC→aC→Bool
 | .cQ .ct S,.cQ .ct U=>O4 S U
 | .lt i x t,.lt j y u=>Nat.beq i j&&(O5 x y&&qQ t u)
 | .eL n t,.eL m u=>O6 n m&&qQ t u
 |_,_=>false
def B6:List aC→aC
 |t::r=>match r.all (qQ t)with
  |true=>t
  |false=>.bad 71
 |[]=>.bad 71
def vV{α:Type}:List Bool→(List Bool→α)→α
 |[],k=>k []
 |true::r,k=>vV r fun s=>k (true::s)
 |false::r,k=>vV r fun s=>k (false::s)
theorem Gs{α:Type}: ∀(m:List Bool) (k:List Bool→α),vV m k=k m
 |[],_=>rfl
 |true::r,_=>Gs r _
 |false::r,_=>Gs r _
def qR(P:Program)(N B:Nat)(T:List (Nat × bR))(inl:Nat→List ab→ar→aC)(ops:Array Oper)(wr:List Bool):Nat→List Bool→ar→aC
 |0,m,S=>match Region.ready .any ops m.toArray with
  |[]=>.cQ .ct S
  |_=>.bad 70
 |n+1,m,S=>match Region.ready .any ops m.toArray with
  |[]=>.cQ .ct S
  |i::rd=>match Wd P N ops wr m S (i::rd)with
   |some j=>match ops[j]?,(Region.ready .any ops m.toArray).contains j&&(Region.free .any ops m.toArray j&& !(wr.getD j false))with
    |some o,true=>match yF P N ops S o||Gm ops wr m j with
     |true=>tI P N ops o S (vV (m.set j true) (qR P N B T inl ops wr n))
     |false=>.bad 79
    |_,_=>.bad 77
   |none=>match rd,ops[i]? with
    |[],some o=>match decide (wr.getD i false=nC o)with
     |true=>qI N S o.dst (Gp N ops S o) (qP P N B T inl ops o S) (vV (m.set i true) (qR P N B T inl ops wr n))
     |false=>.bad 78
    |_,_=>B6 ((i::rd).map fun j=>match ops[j]? with
     |some o=>match decide (wr.getD j false=nC o)with
      |true=>qI N S o.dst (Gp N ops S o) (qP P N B T inl ops o S) (vV (m.set j true) (qR P N B T inl ops wr n))
      |false=>.bad 78
     |none=>.bad 77)
def O7(P:Program)(N B:Nat)(T:List (Nat × bR))(inl:Nat→List ab→ar→aC)(ops:Array Oper)(S:ar):aC:=
 match P.follows .mixedOrders&&Region.noSelect ops with
 |true=>vV (List.replicate ops.size false) (qR P N B T inl ops (ops.toList.map nC) ops.size) S
 |false=>.bad 75
section
variable {P:Program} {G:bc} {N B:Nat} {M:List aS} {T:List (Nat × bR)} {inl:Nat→List ab→ar→aC}
theorem zjy{v:ab}{e:Env}(h:yE v=true): ∃c,v.den G e= .av (.v c):=by
 unfold yE at h
 split at h
 ·rename_i ag;exact⟨_,ga ag⟩
 ·rename_i ag;exact⟨_,ga ag⟩
 ·rename_i ag;exact⟨_,ga ag⟩
 ·cases h
theorem zjz{t:TypeId}{n:Nat}(h:mr P t=some n):scalar P t=false:=by
 unfold mr at h
 unfold scalar
 split at h<;>simp_all
theorem jW.sc{ops:Array Oper}{o:Oper}{s:aQ}{v:aD}(h:mG P G o s v)(ah:dV ops s o=some true):jW P G ops o s (s.put o.dst v):=by
 intro E a w ⟨β,ro,ag⟩
 have hw:=oa (ops:=ops) ⟨β,ro,ag⟩ ah
 obtain⟨c,aa,ae⟩:=h E a w β ro ag
 exact⟨c,.inl ⟨hw,fun cP _=>aa cP⟩,β,ro,ag.put _ _ _ ae⟩
theorem We{o:Oper}{S:ar}{t:TypeId}{x i:Operand}{r:dy}{e:Env}(ao:o.op= .indexAddr t x i)(h:OZ P S t (S.a7 N x) (S.a7 N i)=some r)(hf:S.cC e)(hx: ∀(j:Nat) (x:bT),r.xs[j]? =some x→Env.at e (S.k+j)=x.den M e)(hn: ∀n∈r.ns,n.ok M e):mG P G o (S.den G N B e) (r.v.den G e):=by
 unfold OZ at h
 split at h
 ·rename_i k n c hi lX hc
  split at h
  ·rename_i ad
   cases h
   have ad:=Nat.eq_of_beq_eq_true ad
   rw[ad]at lX
   have ht:aL G (S.den G N B e) i=_:=(bP hf i).trans (jB hi)
   obtain⟨hd,Bt⟩:=Fi (G:=G) (e:=e) hc;obtain⟨g1,g2⟩:=xW hf hi hn
   have:=T3 c _ k _ ao lX ht ((bP hf x).trans hd) g1 g2
   have aJ:Env.at e S.k=_:=hx 0 _ rfl
   have aa:=Ux (G:=G) (x:=List.getD ((S.a7 N x).aA e (.li c)) (Int.toNat ((S.a7 N i).aA e (.int k))) (aw c)) aJ
   show mG P G o _ ((ab.ip c S.k 0).den G e);rw[aa];exact this
  ·cases h
 ·cases h
theorem zjA{o:Oper}{s:aQ}(t:TypeId)(x i:Operand)(ao:o.op= .indexAddr t x i){n:Nat}(aH:ke P t=some n){k:IntKind}{j:Nat}(hi:aL G s i= .av (.v (.int k (j:Int)))){p:aD}(ak:mA s.heap n j (aL G s x)=some p):
 mG P G o s p:=
 fun _ a w β ro ag=>by
  obtain⟨c8,len,cap,hc,af,dG⟩:=S3 ag.heap (ag.eval x) ak;obtain⟨e,hu,bV⟩:=AM aH;refine⟨_,fun cP=>?_,dG⟩
  have oS:(0:Int)≤j∧(j:Int)<len:=⟨by omega,by omega⟩
  simp[execOp,ao,hc,ag.en hi,Instr.indexAt,asIntOf,run_underlying hu,af,bV]
theorem Wf{o:Oper}{S:ar}{t:TypeId}{x i:Operand}{id:Nat}{r:dy}{e:Env}(ao:o.op= .indexAddr t x i)(bj:S.a7 N x= .aP id)(h:OY P S t id (S.a7 N i)=some r)(hf:S.cC e)(hx: ∀(j:Nat) (x:bT),r.xs[j]? =some x→Env.at e (S.k+j)=x.den M e)(hn: ∀n∈r.ns,n.ok M e):mG P G o (S.den G N B e) (r.v.den G e):=by
 unfold OY at h
 split at h
 ·rename_i k n bL c y hi lX ah
  split at h
  ·rename_i ad
   cases h
   have ad:=Nat.eq_of_beq_eq_true ad
   have ht:aL G (S.den G N B e) i=_:=(bP hf i).trans (jB hi)
   obtain⟨g1,g2⟩:=xW hf hi hn;obtain⟨j,af⟩: ∃j:Nat,(S.a7 N i).aA e (.int k)=(j:Int):=⟨_,(Int.toNat_of_nonneg g1).symm⟩;rw[af]at ht g2
   have g2:(j:Int)<((List.length (y.aA e (.li c)):Nat):Int):=g2
   have:=zjA (P:=P) (o:=o) t x i ao lX ht (p:=.c5 id j 0) (by
    rw[bP hf,bj];simp only[ab.den,mA,ar.den,er,ah,Option.map_some,bO.den]
    rw[if_pos ⟨ad.symm,by rw[List.length_map];omega⟩])
   simp only[ab.den,lW hi,af,Int.toNat_natCast];exact this
  ·cases h
 ·cases h
theorem Wh{o:Oper}{s:aQ}(t:TypeId)(x i:Operand)(ao:o.op= .indexAddr t x i){len n:Nat}(aH:u1 P t=some (len,n)){k:IntKind}{j:Nat}(hi:aL G s i= .av (.v (.int k (j:Int))))(af:j<len)
 {cs:List aD}(dR:fu s.heap (aL G s x)=some cs){p:aD}(ak:iR (j*n) (aL G s x)=some p):
 mG P G o s p:=
 fun _ a w β ro ag=>by
  obtain⟨c8,hc,dG⟩:=Sn ak dR (ag.eval x);unfold u1 at aH
  split at aH
  ·rename_i m e hu
   cases u2:P.info? e with
   |none=>simp[u2]at aH
   |some zfL=>
    simp[u2]at aH;obtain⟨rfl,rfl⟩:=aH;refine⟨_,fun cP=>?_,dG⟩
    simp[execOp,ao,hc,ag.en hi,Instr.indexAt,asIntOf,run_underlying hu,Instr.sureAddr,af,sizeOf,typeInfo,u2]
  ·cases aH
theorem Wi{o:Oper}{S:ar}{t:TypeId}{x i:Operand}{id off:Nat}{r:dy}{e:Env}(ao:o.op= .indexAddr t x i)(bj:S.a7 N x= .ej id off)(h:O0 P S t id off (S.a7 N i)=some r)(hf:S.cC e)(hn: ∀n∈r.ns,n.ok M e):mG P G o (S.den G N B e) (r.v.den G e):=by
 unfold O0 at h
 split at h
 ·rename_i k len n l hi aY aq
  have ht:aL G (S.den G N B e) i=_:=(bP hf i).trans (jB hi)
  have dR:=Bp (G:=G) (N:=N) (B:=B) (e:=e) aq
  have jC:aL G (S.den G N B e) x=(ab.ej id off).den G e:=by rw[bP hf,bj]
  rw[←jC]at dR
  split at h
  ·rename_i bs j af
   split at h
   ·rename_i p cW ak
    cases h;refine Wh t x i ao aY (k:=bs) (j:=j) (by rw[bP hf,af];rfl) (fa cW) dR ?_
    have ai:=Bq (G:=G) (e:=e) ak
    rw[←ai,jC];rfl
   ·cases h
  ·cases h
   have jv:0≤cu ((S.a7 N i).dyn e)∧cu ((S.a7 N i).dyn e)<(len:Int):=E4 hf hn
   obtain⟨j,af⟩: ∃j:Nat,cu ((S.a7 N i).dyn e)=(j:Int):=⟨_,(Int.toNat_of_nonneg jv.1).symm⟩;rw[←lW hi,af]at ht;refine Wh t x i ao aY ht (by omega) dR ?_
   rw[jC];simp only[ab.den,iR,af,Int.toNat_natCast]
 ·cases h
theorem Wj{o:Oper}{S:ar}{t:TypeId}{x:Operand}{lo hi:Option Operand}{r:dy}{e:Env}(ao:o.op= .slice t x lo hi none)(h:Gn P N S t (S.a7 N x) lo hi=some r)(hf:S.cC e)(hx: ∀(j:Nat) (x:bT),r.xs[j]? =some x→Env.at e (S.k+j)=x.den M e)(hn: ∀n∈r.ns,n.ok M e):mG P G o (S.den G N B e) (r.v.den G e):=by
 unfold Gn at h
 split at h
 ·rename_i l h' c n aq a6 ag lX
  split at h
  ·rename_i ad
   cases h;rw[Nat.eq_of_beq_eq_true ad]at lX
   have aJ:Env.at e S.k=_:=hx 0 _ rfl
   simp only[ab.den,aJ,bT.den,cH];exact Uh c _ ao lX ((bP hf x).trans (ga ag)) (x5 hf aq) (x5 hf a6) (hn _ (List.mem_singleton.2 rfl))
  ·cases h
 ·cases h
theorem zjB{ops:Array Oper}{o:Oper}{S:ar}{r:dy}{e:Env}(h:sa P N S o=some r)(hf:S.cC e)(hx: ∀(j:Nat) (x:bT),r.xs[j]? =some x→Env.at e (S.k+j)=x.den M e)(hn: ∀n∈r.ns,n.ok M e)(ah:dV ops (S.den G N B e) o=some true):
 jW P G ops o (S.den G N B e) ((S.den G N B e).put o.dst (r.v.den G e)):=by
 have key:(match qG P N S o with
  |some r=>match yE r.v with
   |true=>some r
   |false=>none
  |none=>none)=some r→jW P G ops o (S.den G N B e) ((S.den G N B e).put o.dst (r.v.den G e)):=fun h=>by
  split at h
  ·rename_i eY ax
   split at h
   ·rename_i hc
    cases h
    have dJ:=vA (G:=G) (B:=B) (M:=M) ax e hf hx hn
    obtain⟨c,zjC⟩:=zjy (G:=G) (e:=e) hc;rw[zjC]at dJ⊢;exact jW.rL dJ ah
   ·cases h
  ·cases h
 unfold sa at h
 split at h
 ·rename_i x ao
  cases h
  have:kh P G o (S.den G N B e)=some ((S.a7 N x).den G e):=by unfold kh;rw[ao,←bP hf]
  exact(hv.val this ah).l
 ·rename_i x ao
  cases h
  have:kh P G o (S.den G N B e)=some ((S.a7 N x).den G e):=by unfold kh;rw[ao,←bP hf]
  exact(hv.val this ah).l
 ·rename_i x ao
  split at h
  ·rename_i ak
   cases h
   have:kh P G o (S.den G N B e)=some ((S.a7 N x).den G e):=by
    unfold kh;rw[ao];simp only[bP hf,vv ak]
   exact(hv.val this ah).l
  ·cases h
 ·rename_i t x f ao
  split at h
  ·rename_i k aj ak
   split at h
   ·rename_i p ai
    cases h
    have:kh P G o (S.den G N B e)=some (p.den G e):=by
     unfold kh;rw[ao];simp only[aj,bP hf,vv ak,Bq ai]
    exact(hv.val this ah).l
   ·cases h
  ·cases h
 ·rename_i t x ao
  split at h
  ·rename_i l aq
   split at h
   ·rename_i v ax
    cases h
    have hc:=Bp (G:=G) (N:=N) (B:=B) (e:=e) aq
    have:EJ P G o (S.den G N B e)=some (v.den G e):=by
     unfold EJ;rw[ao];simp only[bP hf,hc]
     rcases VC (G:=G) (e:=e) ax with⟨n,g1,g2,g3,g4⟩|⟨g1,g2,eY,g3⟩
     ·cases l with
      |nil=>simp at g2;omega
      |cons y l=>
       have ai:scalar P t=false:=zjz g1
       rw[g4];simp only[ab.bX,ai,g1];rw[if_pos ⟨by simpa[ml]using g2,g3⟩]
     ·subst g3
      simp only[ab.bX,g2]
    exact jW.load this ah
   ·cases h
  ·exact key h
 ·rename_i t x i ao
  split at h
  ·rename_i id bj
   exact jW.sc (Wf ao bj h hf hx hn) ah
  ·rename_i id off bj
   exact jW.sc (Wi ao bj h hf hn) ah
  ·exact jW.sc (We ao h hf hx hn) ah
 ·rename_i t x lo hi ao
  split at h
  ·rename_i eY ai
   cases h;exact jW.sc (Wj ao ai hf hx hn) ah
  ·exact key h
 ·exact key h
mutual
theorem Wk{e:Env}: ∀{x:ab},ab.pure x=true→fJ (x.den G e)=true:=fun {x} h=>by
 cases x with
 |cr l=>simp only[ab.den,fJ];exact yG (l:=l) h
 |tp l=>simp only[ab.den,fJ];exact yG (l:=l) h
 |fn f a b=>
  simp only[ab.pure,Bool.and_eq_true]at h;simp only[ab.den,fJ,yG h.1,yG h.2,Bool.and_self]
 |ej k o=>cases h
 |gR k x o=>cases h
 |gY k o x n=>cases h
 |cM k n=>cases h
 |fp g i o=>cases h
 |aP k=>cases h
 |ha k=>cases h
 |fN g b x=>cases h
 |lU g o=>cases h
 |top=>cases h
 |_=>rfl
theorem yG{e:Env}: ∀{l:List ab},ab.e7 l=true→e7 (ab.bX G e l)=true:=fun {l} h=>by
 match l with
 |[]=>rfl
 |x::r=>
  simp only[ab.e7,Bool.and_eq_true]at h;simp only[ab.bX,e7,Wk h.1,yG h.2,Bool.and_self]
end
def tJ(G:bc)(N B:Nat)(M:List aS)(t:aC)(e:Env)(a1:Nat):aQ→Prop:=fun st=>
 ∃aU aB,run M t e=some (.ct,aU,aB)∧aU.cB∧aU.cC aB∧b2 a1 e aB∧a1≤aU.k∧st=aU.den G N B aB
theorem Wl(b1:fT P G M inl){ops:Array Oper}{o:Oper}{S:ar}{e:Env}(ad:S.cB)(hf:S.cC e)(ai:(sb P N B T inl o S).safe M e)(ah:dV ops (S.den G N B e) o=some true):
 (nC o=true→OX P G ops o (S.den G N B e) (tJ G N B M (sb P N B T inl o S) e S.k))∧(nC o=false→kq P G ops o (S.den G N B e) (tJ G N B M (sb P N B T inl o S) e S.k)):=by
 refine⟨fun hw=>?_,fun hw=>?_⟩
 ·unfold sb at ai⊢
  rw[hw]at ai⊢;simp only at ai⊢
  split at ai
  ·rename_i r aK
   split at ai
   ·rename_i hc
    simp only[Bool.and_eq_true]at hc;obtain⟨gW,gz⟩:=mN ai
    have bY:b2 S.k e (dt M e S.k r.xs):=jY (Nat.le_refl _)
    have dJ:=Vh (G:=G) (M:=M) aK (dt M e S.k r.xs) (iu bY ad.g hf) (jD hc.1) gW
    rw[lr bY ad]at dJ;obtain⟨cP,dC⟩:=Vn (M:=M) (o:=o) ad hf hc.1 hc.2.1 hc.2.2;exact fun E a w ag=>⟨oa ag ah,fun K Q hK=>dJ E a w ag K Q fun bg w' ed=>hK _ ⟨(r.st S o.dst).e5 S.k r.xs,_,lY,cP,dC,bY,Nat.le_add_right _ _,rfl⟩ bg w' ed⟩
   ·exact ai.elim
  ·exact ai.elim
 ·unfold sb at ai⊢
  rw[hw]at ai⊢;simp only at ai⊢
  split at ai
  ·rename_i r ax
   split at ai
   ·rename_i hc
    simp only[Bool.and_eq_true]at hc;obtain⟨gW,gz⟩:=mN ai;obtain⟨cg,a2,a3⟩:=r7 (M:=M) (G:=G) (N:=N) (B:=B) ad hf hc.1
    have bY:b2 S.k e (dt M e S.k r.xs):=jY (Nat.le_refl _)
    have dJ:=vA (G:=G) (B:=B) (M:=M) ax (dt M e S.k r.xs) (iu bY ad.g hf) (jD hc.1) gW
    rw[lr bY ad]at dJ;exact kq.v dJ ah ⟨(S.e5 S.k r.xs).put o.dst r.v,_,lY,jh cg hc.2,ji a2,bY,by rw[jj];exact Nat.le_add_right _ _,by rw[ff,a3]⟩
   ·exact ai.elim
  ·split at ai
   ·rename_i f aG vj
    split at ai
    ·rename_i gG
     simp only[Bool.and_eq_true]at gG;obtain⟨gG,O8⟩:=gG;obtain⟨g1,g2,g3⟩:=jk (inl f aG ⟨.emp,[],0,S.k,S.g⟩) none ai;obtain⟨p,q',args,m4,vD,bM⟩:=Vp (G:=G) (B:=B) vj hf ad
     have IH:(⟨.emp,[],0,S.k,S.g⟩:ar).cB:=⟨fun i x hx=>by simp[bd.get]at hx,rfl,ad.g⟩
     have hs:=b1 f _ ⟨.emp,[],0,S.k,S.g⟩ e IH bM hf g1
     have yH:=yG (G:=G) (e:=e) O8
     rw[m4]at hs yH;refine kq.call vD gG ah yH hs fun r b0 ⟨C,az,aM,dg,cn,gr,iQ,kG,jN⟩=>?_
     have ak:=(g3 C az aM).1
     have kn:ab.pure (C.at 0)=true:=by
      unfold O1 at ak
      split at ak
      ·assumption
      ·exact ak.elim
     refine⟨by rw[dg];exact Wk kn,(⟨S.l,S.h,S.n,C.k,C.g⟩:ar).put o.dst (C.at 0),az,?_,?_,ji iQ,kG,by rw[jj];exact jN,?_⟩
     ·rw[g2,aM]
      simp only[iJ,O1,kn];rfl
     ·refine jh ⟨fun i x hx=>gI jN (ad.l i x hx),tk jN ad.h,gr.g⟩ ?_
      show(C.at 0).lt C.k=true;unfold ar.at
      cases hI:C.l.get 0 with
      |none=>rfl
      |some y=>exact gr.l 0 y hI
     ·rw[ff,dg]
      have:=lr (G:=G) (N:=N) (B:=B) (S:=S) kG ad
      have ae:(ar.mk S.l S.h S.n C.k C.g).den G N B az=S.den G N B e:=this
      rw[ae]
    ·exact ai.elim
   ·exact ai.elim
theorem zjD{o:Oper}{S:ar}{e:Env}(ad:S.cB)(hf:S.cC e):tJ G N B M (.cQ .ct (S.put o.dst (.tp []))) e S.k ((S.den G N B e).put o.dst (.tuple [])):=
 ⟨S.put o.dst (.tp []),e,rfl,jh ad rfl,ji hf,b2.refl _ _,by rw[jj];exact Nat.le_refl _,by rw[ff];rfl⟩
theorem kq.mono{ops:Array Oper}{o:Oper}{s:aQ}{A Wm:aQ→Prop}(h:kq P G ops o s A)(c4: ∀t,A t→Wm t):kq P G ops o s Wm:=fun E a w ag=>by
 rcases h E a w ag with⟨aa,ae⟩|⟨aa,t,ae,au⟩
 ·exact .inl ⟨aa,fun K Q hK=>ae K Q fun t aH=>hK t (c4 t aH)⟩
 ·exact .inr ⟨aa,t,c4 t ae,au⟩
theorem Wn(b1:fT P G M inl){ops:Array Oper}{o:Oper}{S:ar}{e:Env}(ad:S.cB)(hf:S.cC e)(ai:(qP P N B T inl ops o S).safe M e):
 (nC o=true→OX P G ops o (S.den G N B e) (tJ G N B M (qP P N B T inl ops o S) e S.k))∧(nC o=false→kq P G ops o (S.den G N B e) (tJ G N B M (qP P N B T inl ops o S) e S.k)):=by
 have ah:=Oe (G:=G) (N:=N) (B:=B) (ops:=ops) (o:=o) hf
 unfold qP at ai⊢
 cases ja:guardOf N ops S o with
 |yes=>
  rw[ja]at ah ai;exact Wl b1 ad hf ai ah
 |no=>
  rw[ja]at ah ai;simp only at ai⊢
  split at ai
  ·rename_i hw
   exact⟨fun h=>(by rw[hw]at h;cases h),fun _=>.no ah (zjD ad hf)⟩
  ·exact ai.elim
 |bad=>rw[ja]at ai;exact ai.elim
 |on gs=>
  rw[ja]at ah ai;simp only at ai⊢;obtain⟨g1,g2⟩:=ah
  split at ai
  ·rename_i Wo
   simp only[Bool.and_eq_true,Bool.not_eq_true']at Wo;obtain⟨kQ,hw⟩:=Wo;refine⟨fun h=>(by rw[hw]at h;cases h),fun _=>?_⟩
   split at ai
   ·rename_i q ax
    split at ai
    ·rename_i hc
     simp only[Bool.and_eq_true]at hc;obtain⟨gW,gz⟩:=mN ai;obtain⟨cg,a2,a3⟩:=r7 (M:=M) (G:=G) (N:=N) (B:=B) ad hf hc.1
     have bY:b2 S.k e (dt M e S.k q.xs):=jY (Nat.le_refl _)
     have h1:fR (dt M e S.k q.xs) gs=fR e gs:=F0 bY kQ
     have aj:S.k≤S.k+q.xs.length:=Nat.le_add_right _ _
     have fH:(ko gs q.v).lt (S.k+q.xs.length)=true:=FY (FZ aj kQ) hc.2
     have gK: ∀t,t=(S.den G N B e).put o.dst ((ko gs q.v).den G (dt M e S.k q.xs))→tJ G N B M (emit S.k q.xs (q.ns.map (qK gs)) (.cQ .ct ((S.e5 S.k q.xs).put o.dst (ko gs q.v)))) e S.k t:=fun t aH=>
      ⟨(S.e5 S.k q.xs).put o.dst (ko gs q.v),_,lY,jh cg fH,ji a2,bY,by rw[jj];exact Nat.le_add_right _ _,by rw[ff,a3,aH]⟩
     cases fy:fR e gs with
     |true=>
      have ia:=yp hf fy
      have iq:=yo ad kQ
      have dJ:=vA (G:=G) (B:=B) (M:=M) ax (dt M e S.k q.xs) (iu bY iq.g ia) (jD hc.1) fun n hn=>F3 (gW (qK gs n) (List.mem_map.2 ⟨n,hn,rfl⟩)) (h1.trans fy)
      have yr:({S with g:=hC gs S.g}:ar).den G N B (dt M e S.k q.xs)=S.den G N B e:=lr (S:={S with g:=hC gs S.g}) bY iq
      rw[yr]at dJ;exact kq.v dJ (g1 fy) (gK _ (by rw[F1 (h1.trans fy)]))
     |false=>exact kq.no (g2 fy) (gK _ (by rw[F2 (h1.trans fy)]))
    ·exact ai.elim
   ·cases fy:fR e gs with
    |false=>
     obtain⟨h7,cR,c7,fV⟩:=Oh (M:=M) (x:=sb P N B T inl o {S with g:=hC gs S.g}) (y:=r6 S o.dst) (l:=S.g) fy kQ ad.g hf
     obtain⟨aU,r3,pN,Ok,Ol,Om⟩:=Vw (G:=G) (N:=N) (B:=B) (dst:=o.dst) ad c7 fV;exact kq.no (g2 fy) ⟨aU,e,by rw[cR,r3];rfl,pN,Ok,b2.refl _ _,Ol,Om.symm⟩
    |true=>
     have ia:=yp hf fy
     have iq:=yo ad kQ
     obtain⟨f1,f2⟩:=Og (M:=M) (x:=sb P N B T inl o {S with g:=hC gs S.g}) (y:=r6 S o.dst) (l:=S.g) fy
     refine kq.mono ((Wl b1 (S:={S with g:=hC gs S.g}) iq ia (f2 ai) (g1 fy)).2 hw) fun t ⟨aU,aB,aa,ae⟩=>⟨aU,aB,?_,ae⟩
     rw[f1];exact aa
  ·exact ai.elim
theorem Wp{ops:Array Oper}{o:Oper}{S:ar}{e:Env}{k:ar→aC}(X:aQ→aQ→Prop)(c:ar→Prop)
 (aq: ∀(S:ar) (r:dy) (e:Env),c S→sa P N S o=some r→S.cC e→(∀(j:Nat) (x:bT),r.xs[j]? =some x→Env.at e (S.k+j)=x.den M e)→(∀n∈r.ns,n.ok M e)→dV ops (S.den G N B e) o=some true→X (S.den G N B e) ((S.den G N B e).put o.dst (r.v.den G e)))
 (aj: ∀s,dV ops s o=some false→X s (s.put o.dst (.tuple [])))(hI:guardOf N ops S o= .yes→c S)(Em: ∀gs,guardOf N ops S o= .on gs→c {S with g:=hC gs S.g})(ad:S.cB)(hf:S.cC e)(ai:(tI P N ops o S k).safe M e):
 ∃aU aB,aU.cB∧aU.cC aB∧b2 S.k e aB∧S.k≤aU.k∧(k aU).safe M aB∧run M (tI P N ops o S k) e=run M (k aU) aB∧X (S.den G N B e) (aU.den G N B aB):=by
 have ah:=Oe (G:=G) (N:=N) (B:=B) (ops:=ops) (o:=o) hf
 unfold tI at ai⊢
 cases ja:guardOf N ops S o with
 |bad=>rw[ja]at ai;exact ai.elim
 |no=>
  rw[ja]at ah ai
  have:=aj _ ah
  exact⟨S.put o.dst (.tp []),e,jh ad rfl,ji hf,b2.refl _ _,by rw[jj];exact Nat.le_refl _,ai,rfl,by rw[ff];exact this⟩
 |yes=>
  rw[ja]at ah ai;simp only at ai⊢
  split at ai
  ·rename_i q ax
   split at ai
   ·rename_i hc
    simp only[Bool.and_eq_true]at hc;obtain⟨gW,gz⟩:=mN ai;obtain⟨cg,a2,a3⟩:=r7 (M:=M) (G:=G) (N:=N) (B:=B) ad hf hc.1
    have bY:b2 S.k e (dt M e S.k q.xs):=jY (Nat.le_refl _)
    have hd:=lr (G:=G) (N:=N) (B:=B) bY ad
    have dJ:=aq _ _ _ (hI ja) ax (iu bY ad.g hf) (jD hc.1) gW (by rw[hd];exact ah)
    rw[hd]at dJ;exact⟨(S.e5 S.k q.xs).put o.dst q.v,_,jh cg hc.2,ji a2,bY,by rw[jj];exact Nat.le_add_right _ _,gz,lY,by rw[ff,a3];exact dJ⟩
   ·exact ai.elim
  ·exact ai.elim
 |on gs=>
  rw[ja]at ah ai;simp only at ai⊢;obtain⟨g1,g2⟩:=ah
  split at ai
  ·rename_i kQ
   split at ai
   ·rename_i q ax
    split at ai
    ·rename_i hc
     simp only[Bool.and_eq_true]at hc;obtain⟨gW,gz⟩:=mN ai;obtain⟨cg,a2,a3⟩:=r7 (M:=M) (G:=G) (N:=N) (B:=B) ad hf hc.1
     have bY:b2 S.k e (dt M e S.k q.xs):=jY (Nat.le_refl _)
     have h1:fR (dt M e S.k q.xs) gs=fR e gs:=F0 bY kQ
     have rb:S.k≤S.k+q.xs.length:=Nat.le_add_right _ _
     have fH:(ko gs q.v).lt (S.k+q.xs.length)=true:=FY (FZ rb kQ) hc.2
     refine⟨(S.e5 S.k q.xs).put o.dst (ko gs q.v),_,jh cg fH,ji a2,bY,by rw[jj];exact Nat.le_add_right _ _,gz,lY,?_⟩
     rw[ff,a3]
     cases fy:fR e gs with
     |true=>
      have ia:=yp hf fy
      have iq:=yo ad kQ
      have yr:({S with g:=hC gs S.g}:ar).den G N B (dt M e S.k q.xs)=S.den G N B e:=lr (S:={S with g:=hC gs S.g}) bY iq
      have dJ:=aq _ _ _ (Em gs ja) ax (iu bY iq.g ia) (jD hc.1) (fun n hn=>F3 (gW (qK gs n) (List.mem_map.2 ⟨n,hn,rfl⟩)) (h1.trans fy)) (by rw[yr];exact g1 fy)
      rw[yr]at dJ;rw[F1 (h1.trans fy)];exact dJ
     |false=>
      rw[F2 (h1.trans fy)];exact aj _ (g2 fy)
    ·exact ai.elim
   ·exact ai.elim
  ·exact ai.elim
theorem zjE{ops:Array Oper}{o:Oper}{S:ar}{e:Env}{k:ar→aC}(ad:S.cB)(hf:S.cC e)(ai:(tI P N ops o S k).safe M e):
 ∃aU aB,aU.cB∧aU.cC aB∧b2 S.k e aB∧S.k≤aU.k∧(k aU).safe M aB∧run M (tI P N ops o S k) e=run M (k aU) aB∧jW P G ops o (S.den G N B e) (aU.den G N B aB):=
 Wp (jW P G ops o) (fun _=>True) (fun _ _ _ _ ax hf hx hn ah=>zjB ax hf hx hn ah) (fun _ h=>(hv.skip h).l) (fun _=>trivial) (fun _ _=>trivial) ad hf ai
theorem hv.sc{ops:Array Oper}{o:Oper}{s:aQ}{v:aD}(h:mG P G o s v)(ah:dV ops s o=some true):hv P G ops o s (s.put o.dst v):=by
 intro E a w ⟨β,ro,ag⟩
 have hw:=oa (ops:=ops) ⟨β,ro,ag⟩ ah
 obtain⟨c,aa,ae⟩:=h E a w β ro ag
 exact⟨c,.inl ⟨hw,aa⟩,β,ro,ag.put _ _ _ ae⟩
theorem zjF{ops:Array Oper}{o:Oper}{S:ar}{r:dy}{e:Env}(ak:pop P N S o=true)(h:sa P N S o=some r)(hf:S.cC e)(hx: ∀(j:Nat) (x:bT),r.xs[j]? =some x→Env.at e (S.k+j)=x.den M e)(hn: ∀n∈r.ns,n.ok M e)(ah:dV ops (S.den G N B e) o=some true):
 hv P G ops o (S.den G N B e) ((S.den G N B e).put o.dst (r.v.den G e)):=by
 unfold sa at h
 unfold pop at ak
 split at h
 ·rename_i x ao
  cases h
  have:kh P G o (S.den G N B e)=some ((S.a7 N x).den G e):=by unfold kh;rw[ao,←bP hf]
  exact hv.val this ah
 ·rename_i x ao
  cases h
  have:kh P G o (S.den G N B e)=some ((S.a7 N x).den G e):=by unfold kh;rw[ao,←bP hf]
  exact hv.val this ah
 ·rename_i x ao
  split at h
  ·rename_i aK
   cases h
   have:kh P G o (S.den G N B e)=some ((S.a7 N x).den G e):=by
    unfold kh;rw[ao];simp only[bP hf,vv aK]
   exact hv.val this ah
  ·cases h
 ·rename_i t x f ao
  split at h
  ·rename_i k aj aK
   split at h
   ·rename_i p ai
    cases h
    have:kh P G o (S.den G N B e)=some (p.den G e):=by
     unfold kh;rw[ao];simp only[aj,bP hf,vv aK,Bq ai]
    exact hv.val this ah
   ·cases h
  ·cases h
 ·rename_i t x ao
  rw[ao]at ak;cases ak
 ·rename_i t x i ao
  split at h
  ·rename_i id bj
   exact hv.sc (Wf ao bj h hf hx hn) ah
  ·rename_i id off bj
   exact hv.sc (Wi ao bj h hf hn) ah
  ·exact hv.sc (We ao h hf hx hn) ah
 ·rename_i t x lo hi ao
  split at h
  ·rename_i eY ai
   cases h;exact hv.sc (Wj ao ai hf hx hn) ah
  ·rename_i ai
   rw[ao]at ak;simp only[ai,Option.isSome_none]at ak;cases ak
 ·rename_i aa ae au aR bN cL eH
  split at ak
  ·rename_i x ao;exact absurd ao (aa x)
  ·rename_i x ao;exact absurd ao (ae x)
  ·rename_i x ao;exact absurd ao (au x)
  ·rename_i t x f ao;exact absurd ao (aR t x f)
  ·rename_i t x i ao;exact absurd ao (cL t x i)
  ·rename_i t x lo hi ao;exact absurd ao (eH t x lo hi)
  ·cases ak
theorem zjG{ops:Array Oper}{o:Oper}{S:ar}{e:Env}{k:ar→aC}(ak:yF P N ops S o=true)(ad:S.cB)(hf:S.cC e)(ai:(tI P N ops o S k).safe M e):
 ∃aU aB,aU.cB∧aU.cC aB∧b2 S.k e aB∧S.k≤aU.k∧(k aU).safe M aB∧run M (tI P N ops o S k) e=run M (k aU) aB∧hv P G ops o (S.den G N B e) (aU.den G N B aB):=
 Wp (hv P G ops o) (fun S=>pop P N S o=true) (fun _ _ _ hc ax hf hx hn ah=>zjF hc ax hf hx hn ah) (fun _ h=>hv.skip h)
  (fun ah=>by unfold yF at ak;rw[ah]at ak;exact ak) (fun gs ah=>by unfold yF at ak;rw[ah]at ak;exact ak) ad hf ai
theorem zjH{x y:cc}(h:O2 x y=true):x=y:=by
 unfold O2 at h
 split at h
 ·simp only[Bool.and_eq_true,decide_eq_true_eq]at h;rw[Nat.eq_of_beq_eq_true h.1,h.2.1,e4 h.2.2]
 ·simp only[Bool.and_eq_true,decide_eq_true_eq]at h
  obtain⟨⟨aa,ae⟩,au,aR⟩:=h
  cases Nat.eq_of_beq_eq_true aa;cases ae;rw[e4 au,e4 aR]
 ·simp only[Bool.and_eq_true]at h;rw[Nat.eq_of_beq_eq_true h.1,e4 h.2]
 ·simp only[Bool.and_eq_true,decide_eq_true_eq]at h;rw[e4 h.1,h.2]
 ·cases h
theorem Wq: ∀{l m:List cc},Gq l m=true→l=m
 |[],[],_=>rfl
 |[],_::_,h=>by cases h
 |_::_,[],h=>by cases h
 |x::l,y::m,h=>by
  simp only[Gq,Bool.and_eq_true]at h;rw[zjH h.1,Wq h.2]
theorem zjI{x y:bO}(h:O3 x y=true):x=y:=by
 unfold O3 at h
 split at h
 ·simp only[Bool.and_eq_true]at h;rw[Nat.eq_of_beq_eq_true h.1,r1 h.2]
 ·simp only[Bool.and_eq_true,decide_eq_true_eq]at h;rw[Nat.eq_of_beq_eq_true h.1,h.2.1,e4 h.2.2]
 ·simp only[Bool.and_eq_true,decide_eq_true_eq]at h;rw[h.1,e4 h.2.1,e4 h.2.2]
 ·cases h
theorem Wr: ∀{l m:List (Nat × bO)},Gr l m=true→l=m
 |[],[],_=>rfl
 |[],_::_,h=>by cases h
 |_::_,[],h=>by cases h
 |(i,x)::l,(j,y)::m,h=>by
  simp only[Gr,Bool.and_eq_true]at h;rw[Nat.eq_of_beq_eq_true h.1,zjI h.2.1,Wr h.2.2]
theorem O9: ∀{l m:bd ab},B5 l m=true→l=m
 | .emp,.emp,_=>rfl
 | .emp,.n _ _ _,h=>by cases h
 | .n _ _ _,.emp,h=>by cases h
 | .n v l r,.n w m s,h=>by
  simp only[B5,Bool.and_eq_true]at h;rw[O9 h.2.1,O9 h.2.2]
  have aa:=h.1
  cases v<;>cases w<;>first|rfl|(cases aa;done)|(rw[e4 aa])
theorem zjJ{S U:ar}(h:O4 S U=true):S=U:=by
 obtain⟨cg,a2,a3,a4,a5⟩:=S
 obtain⟨gZ,jt,hX,tv,x8⟩:=U
 simp only[O4,Bool.and_eq_true]at h
 obtain⟨⟨aa,ae⟩,⟨au,aR⟩,bN⟩:=h
 rw[O9 aa,Wr ae,Nat.eq_of_beq_eq_true au,Nat.eq_of_beq_eq_true aR,Wq bN]
theorem zjK{x y:bT}(h:O5 x y=true):x=y:=by
 unfold O5 at h
 split at h<;>(try simp only[Bool.and_eq_true,decide_eq_true_eq]at h)
 ·rw[Nat.eq_of_beq_eq_true h.1,r1 h.2]
 ·rw[h.1,Nat.eq_of_beq_eq_true h.2.1,Nat.eq_of_beq_eq_true h.2.2]
 ·obtain⟨aa,ae⟩:=h;subst aa;rw[e4 ae]
 ·obtain⟨aa,ae,au⟩:=h;subst aa;rw[e4 ae,e4 au]
 ·obtain⟨⟨aa,ae⟩,au,aR⟩:=h;subst aa ae;rw[e4 au,e4 aR]
 ·obtain⟨⟨aa,ae⟩,au,aR⟩:=h;subst aa ae;rw[e4 au,e4 aR]
 ·cases h
theorem zjL{x y:fi}(h:O6 x y=true):x=y:=by
 unfold O6 at h
 split at h<;>(try simp only[Bool.and_eq_true,decide_eq_true_eq]at h)
 ·obtain⟨⟨aa,ae⟩,au,aR⟩:=h;subst ae;rw[Nat.eq_of_beq_eq_true aa,e4 au,e4 aR]
 ·rw[Nat.eq_of_beq_eq_true h.1,r1 h.2]
 ·rw[Nat.eq_of_beq_eq_true h.1,e4 h.2]
 ·cases h
theorem zjM: ∀{t u:aC},qQ t u=true→t=u:=fun {t}=>by
 induction t with
 |cQ x S=>
  intro u h;unfold qQ at h
  split at h<;>first|(cases h;done)|skip
  all_goals rename_i heq
  all_goals first|(cases heq;rw[zjJ h];done)|cases heq
 |lt i x t aZ=>
  intro u h
  cases u with
  |lt j y u=>
   simp only[qQ,Bool.and_eq_true]at h;rw[Nat.eq_of_beq_eq_true h.1,zjK h.2.1,aZ h.2.2]
  |_=>simp[qQ]at h
 |eL n t aZ=>
  intro u h
  cases u with
  |eL m u=>
   simp only[qQ,Bool.and_eq_true]at h;rw[zjL h.1,aZ h.2]
  |_=>simp[qQ]at h
 |_=>intro u h;simp[qQ]at h
theorem zjN{l:List aC}{e:Env}(h:(B6 l).safe M e): ∃S,B6 l=S∧∀t∈l,t=S:=by
 unfold B6 at h⊢
 split at h
 ·rename_i t r
  split at h
  ·rename_i ai
   refine⟨t,by simp only[ai],fun u hu=>?_⟩
   rcases List.mem_cons.1 hu with rfl|hu
   ·rfl
   ·exact(zjM (List.all_eq_true.1 ai u hu)).symm
  ·exact h.elim
 ·exact h.elim
theorem B7(b1:fT P G M inl){L:List Oper}{wr:List Bool}(ll:Region.noSelect L.toArray=true){Q:Exit→aQ→Prop}: ∀(n:Nat) (m:List Bool) {S:ar} {e:Env},S.cB→S.cC e→(qR P N B T inl L.toArray wr n m S).safe M e→(∀st,jF G N B M (qR P N B T inl L.toArray wr n m S) e S.k .normal st→Q .normal st)→fM P G L Q wr n m (S.den G N B e)
 |0,m,S,e,ad,hf,ai,ez=>by
  unfold qR at ai ez
  split at ai
  ·rename_i ag
   rw[ag]at ez;exact fM.done (ez _ ⟨.ct,S,e,rfl,trivial,cw.refl _,ad,hf,b2.refl _ _,Nat.le_refl _⟩) ag
  ·exact ai.elim
 |n+1,m,S,e,ad,hf,ai,ez=>by
  unfold qR at ai ez;simp only[Gs]at ai ez
  cases ag:Region.ready .any L.toArray m.toArray with
  |nil=>
   rw[ag]at ez;exact fM.done (ez _ ⟨.ct,S,e,rfl,trivial,cw.refl _,ad,hf,b2.refl _ _,Nat.le_refl _⟩) ag
  |cons i rd=>
   rw[ag]at ai ez;simp only at ai ez
   split at ai
   ·rename_i j lO
    rw[lO]at ez;simp only at ez
    split at ai
    ·rename_i o ao hc
     rw[ao,hc]at ez;simp only[Bool.and_eq_true,Bool.not_eq_true']at hc;simp only at ez
     split at ai
     ·rename_i yH
      rw[yH]at ez;simp only at ez
      cases Ws:yF P N L.toArray S o with
      |true=>
       obtain⟨aU,aB,s1,s2,pI,pJ,pK,pL,pM⟩:=zjG (G:=G) (B:=B) Ws ad hf ai;exact fM.zjt j (by simpa using ao) pM (B7 b1 ll n (m.set j true) s1 s2 pK fun st ak=>ez st (ak.sub pL pI pJ)) ll hc.2.1 (by rw[ag];exact hc.1) hc.2.2
      |false=>
       rw[Ws,Bool.false_or]at yH;obtain⟨aU,aB,s1,s2,pI,pJ,pK,pL,pM⟩:=zjE (G:=G) (B:=B) ad hf ai;exact fM.zjs j (by simpa using ao) pM (B7 b1 ll n (m.set j true) s1 s2 pK fun st ak=>ez st (ak.sub pL pI pJ)) ll hc.2.1 (by rw[ag];exact hc.1) yH
     ·exact ai.elim
    ·exact ai.elim
   ·rename_i lO
    rw[lO]at ez;simp only at ez
    split at ai
    ·rename_i o ao
     rw[ao]at ez;simp only at ez
     split at ai
     ·rename_i qS
      rw[qS]at ez
      have qS:=of_decide_eq_true qS
      simp only at ez;obtain⟨t1,_,t3⟩:=NW (G:=G) (B:=B) ad hf ai
      have next: ∀t,tJ G N B M (qP P N B T inl L.toArray o S) e S.k t→fM P G L Q wr n (m.set i true) t:=fun t ⟨aU,aB,aa,ae,au,aR,bN,cL⟩=>by
       subst cL;obtain⟨dW,bl,cR,c7,fV,mh,B8,yI,Pb⟩:=t3 aU aB aa ae au aR bN
       have:=B7 b1 ll n (m.set i true) c7 fV yI fun st ak=>ez st (ak.sub Pb mh B8)
       exact fun E a w ag=>this E a w (cR E G a w ag)
      obtain⟨an,bJ⟩:=Wn (G:=G) (B:=B) (T:=T) b1 ad hf t1
      cases hw:nC o with
      |true=>exact fM.zju (by simpa using ao) ag (qS.trans hw) (an hw) next
      |false=>exact fM.one (by simpa using ao) ag (qS.trans hw) (bJ hw) next
     ·exact ai.elim
    ·rename_i _ rd _ _ gh
     have Wt: ∀st,jF G N B M (B6 ((i::rd).map fun j=>match L.toArray[j]? with
      |some o=>match decide (wr.getD j false=nC o)with
       |true=>qI N S o.dst (Gp N L.toArray S o) (qP P N B T inl L.toArray o S) (qR P N B T inl L.toArray wr n (m.set j true))
       |false=>.bad 78
      |none=>.bad 77)) e S.k .normal st→Q .normal st:=fun st ak=>ez st (by
      split
      ·rename_i cG lE;exact(gh cG rfl lE).elim
      ·exact ak)
     clear ez;obtain⟨U,su,eh⟩:=zjN ai;rw[su]at Wt ai;refine fM.any (by rw[ag];simp) fun j af=>?_
     rw[ag]at af
     have yJ:=eh _ (List.mem_map.2 ⟨j,af,rfl⟩)
     split at yJ
     ·rename_i o ao
      split at yJ
      ·rename_i qS
       have qS:=of_decide_eq_true qS
       have e1:(qI N S o.dst (Gp N L.toArray S o) (qP P N B T inl L.toArray o S) (qR P N B T inl L.toArray wr n (m.set j true))).safe M e:=by rw[yJ];exact ai
       obtain⟨t1,_,t3⟩:=NW (G:=G) (B:=B) ad hf e1;refine⟨o,by simpa using ao,tJ G N B M (qP P N B T inl L.toArray o S) e S.k,fun t ⟨aU,aB,aa,ae,au,aR,bN,cL⟩=>?_,fun E a w dG=>?_⟩
       ·subst cL
        obtain⟨dW,bl,cR,c7,fV,mh,B8,yI,Pb⟩:=t3 aU aB aa ae au aR bN
        have:=B7 b1 ll n (m.set j true) c7 fV yI fun st ak=>Wt st (by rw[←yJ];exact ak.sub Pb mh B8)
        exact fun E a w ag=>this E a w (cR E G a w ag)
       ·obtain⟨an,bJ⟩:=Wn (G:=G) (B:=B) (T:=T) b1 ad hf t1
        cases hw:nC o with
        |true=>
         obtain⟨y1,rX⟩:=an hw E a w dG;exact .inl ⟨y1,fun K Q hK=>rX K Q fun t aH bg w' ed=>hK t aH bg w' ed (.inl (qS.trans hw))⟩
        |false=>
         rcases bJ hw E a w dG with⟨y1,rX⟩|⟨y1,rX⟩
         ·exact .inl ⟨y1,fun K Q hK=>rX K Q fun t aH bg w' ed aj=>hK t aH bg w' ed (.inr aj)⟩
         ·exact .inr ⟨qS.trans hw,y1,rX⟩
      ·rw[←yJ]at ai;exact ai.elim
     ·rw[←yJ]at ai;exact ai.elim
theorem zjO(b1:fT P G M inl):Ov P G N B M (O7 P N B T inl):=by
 intro id ops S e ad hf ai
 have h0:ops=ops.toList.toArray:=by simp
 rw[h0]at ai⊢
 generalize ops.toList=L at ai⊢
 unfold O7 at ai⊢
 split at ai
 ·rename_i hc
  simp only[Bool.and_eq_true]at hc;rw[Gs]at ai⊢;refine b7.zjw _ (B7 b1 hc.2 _ _ ad hf ai fun st ak=>ak) hc.1 (by simp)
 ·exact ai.elim
def jM.all(P:Program)(T:List (Nat × bR)):jM:=⟨fun N B _=>OS N B,fun N B inl=>O7 P N B T inl⟩
theorem IF:Oz P G M (jM.all P T):=fun _ b1 _ _=>⟨zjo,zjO b1⟩
end
end Go.aN
namespace Go.aN
open Go
section
variable {P:Program} {G:bc} {f:FuncId} {args:List aD} {σ:Heap} {n:Nat} {R:aD→Heap→Prop}
theorem dN.arg{rO:List aD}(h:dN P G f args σ n R)(aY:fW rO args):dN P G f rO σ n R:=by
 intro w β ro ei aa ae au aR bN
 refine h w β ro ei (by rw[aa,aY.at.1]) (fun i x hx=>?_) au aR bN
 obtain⟨y,ay,ai⟩:=aY.at.2 i x hx
 exact ai _ _ _ _ _ _ (ae i y ay)
theorem dN.res{rp:aD→Heap→Prop}(h:dN P G f args σ n R)(aK: ∀r b0,R r b0→rp r b0):dN P G f args σ n rp:=by
 intro w β ro ei aa ae au aR bN
 refine Calls.mono (h w β ro ei aa ae au aR bN) fun e w' ⟨v,dI,eZ,dU,ro',cS,he,cL,mW⟩=>?_
 exact⟨v,dI,eZ,dU,ro',cS,he,aK _ _ cL,mW⟩
theorem ld(β:Nat→Value)(b:Nat): ¬Own ([]:Heap) β b:=fun⟨_,_,ah,_⟩=>by simp[aE]at ah
theorem dN.frame(h:dN P G f args [] 0 R)(ak:e7 args=true)(fl: ∀r b0,R r b0→fJ r=true):dN P G f args σ n fun r b0=>b0=σ∧∃fK,R r fK:=by
 intro w β ro ei aa ae au aR bN
 refine Calls.mono (h w β ro ei aa (fun i x hx=>n5 (ae i x hx) (nc ak hx)) ⟨by simp[aE],by simp[aE],fun b _=>ld β b,au.lt⟩ aR (by simp[aE])) fun e w' ⟨v,r,fK,dU,ro',cS,he,ag,dG,hR,cN⟩=>?_
 have lP: ∀b,b<w.heap.size→w'.heap[b]? =w.heap[b]? :=fun b ad=>cN.frame b ad (ld β b)
 have gV:dc ⟨w,ro,σ,β,n⟩ G ⟨[],σ,n,n⟩ ⟨#[],[]⟩ w β ro:=⟨rfl,rfl,by simp,au,aR,⟨rfl,rfl,rfl,Nat.le_refl _,fun _ _ _=>rfl,fun _ h=>.inl h,fun _ h=>h,fun _ h=>.inl h,fun id _ o ah=>⟨by simp[ah],rfl⟩,bN,Nat.le_refl _⟩,Nat.le_refl _⟩
 have c2:=gV.grow (w':=w') (ro':=ro') cN.os cN.tape cN.output cN.size lP cN.j9 (fun b ad=>by
  rcases cN.jo b ad with q|q|q
  ·exact .inl q
  ·exact absurd q (ld β b)
  ·exact .inr ⟨q,hR.lt b ad⟩)
 exact⟨v,r,σ,β,ro',n,he,⟨rfl,fK,ag⟩,n5 dG (fl r fK ag),c2.heap,c2.trans⟩
theorem dN.zjP{rO:List aD}(h:dN P G f args [] 0 R)(aY:fW (ib σ rO) args)(ak:e7 (ib σ rO)=true)(fl: ∀r b0,R r b0→jU r=true):dN P G f rO σ n fun r b0=>b0=σ∧∃fK,R r fK:=by
 have h:=h.arg aY
 intro w β ro ei aa ae au aR bN
 have n2: ∀b,Own σ β b→b<w.heap.size:=fun b ⟨k,p,aj,ak,bk⟩=>(au.dh k p aj).hO ak bk
 refine Calls.mono (h w β (u9 ro σ β) ei (by rw[u6];exact aa) (fun i x hx=>?_) ⟨by simp[aE],by simp[aE],fun b _=>ld β b,fun b ad=>ad.elim (au.lt b) (n2 b)⟩
  (aR.keep (fun _ _=>rfl) fun _ h=>.inl h) (by simp[aE])) fun e w' ⟨v,r,fK,dU,ro',cS,he,ag,dG,hR,cN⟩=>?_
 ·obtain⟨z,aT,rfl⟩:=u7 _ hx
  exact n5 (L5 au (ae i z aT)) (nc ak hx)
 have lP: ∀b,b<w.heap.size→w'.heap[b]? =w.heap[b]? :=fun b ad=>cN.frame b ad (ld β b)
 have gV:dc ⟨w,ro,σ,β,n⟩ G ⟨[],σ,n,n⟩ ⟨#[],[]⟩ w β ro:=⟨rfl,rfl,by simp,au,aR,⟨rfl,rfl,rfl,Nat.le_refl _,fun _ _ _=>rfl,fun _ h=>.inl h,fun _ h=>h,fun _ h=>.inl h,fun id _ o ah=>⟨by simp[ah],rfl⟩,bN,Nat.le_refl _⟩,Nat.le_refl _⟩
 have c2:=gV.grow (w':=w') (ro':=ro) cN.os cN.tape cN.output cN.size lP (fun _ h=>h) (fun _ h=>.inl h)
 exact⟨v,r,σ,β,ro,n,he,⟨rfl,fK,ag⟩,Ey dG (fl r fK ag),c2.heap,c2.trans⟩
end
def aF.ft(d:aF):aD:=
 match d with
 |⟨.st c,x⟩=>.agg ((ck c x).map .av)
 |⟨r,x⟩=>.av (fL r x)
def nD(rs:List aW)(x:(fg rs).den):List aD:=(dE rs x).map aF.ft
def lA(rs:List aW)(x:(fg rs).den):aD:=
 match nD rs x with
 |[v]=>v
 |l=>.tuple l
structure iD where
 f:Nat
 j:Nat
 ps:List aW
 rs:List aW
 eX:Bool
def bE(P:Program)(G:bc)(f:Nat)(m:aS):Prop:=
 ∀x:(fg m.ps).den,lz m.pre x→dN P G f (nD m.ps x) [] 0 fun v _=>v=lA m.rs (m.m x)
def Wu(P:Program)(G:bc)(M:List aS)(c:iD):Prop:=
 (e6 aS.d M c.j).ps=c.ps∧(e6 aS.d M c.j).rs=c.rs∧bE P G c.f (e6 aS.d M c.j)∧(c.eX=true→(e6 aS.d M c.j).pre=none)
def rk(P:Program)(G:bc)(M:List aS)(C:List iD):Prop:=∀c∈C,Wu P G M c
def B9(f:Nat):List iD→Option iD
 |[]=>none
 |c::r=>match Nat.beq c.f f with
  |true=>some c
  |false=>B9 f r
def Ca(r:aW)(i:Nat):ab:=
 match r with
 | .st c=>.cr (iW c i 0 (eV c))
 |r=>.aV r i
def hE:Nat→List aW→List ab
 |_,[]=>[]
 |i,r::rs=>Ca r i::hE (i+1) rs
def ox(rs:List aW)(p:Nat):Nat→List aW→List bT
 |_,[]=>[]
 |i,_::r=>.rS rs p i::ox rs p (i+1) r
def aW.iI:aW→Bool
 | .st _=>true
 |r=>r.one
def aW.tK:aW→Bool
 | .int _=>true
 | .bool=>true
 | .str=>true
 | .st c=>(eV c).all aW.cmp
 |_=>false
def Pc(S:ar)(r:aW)(a:ab):Option ab:=
 match r,a with
 | .st c,.cr l=>match hz (eV c) l with
  |true=>some a
  |false=>none
 | .li c,.aP id=>match dm S.h id with
  |some (.rw _ d x)=>match decide (c=d)&&x.eE (.li c)with
   |true=>some x
   |false=>none
  |_=>none
 | .mp k v,.ha id=>match dm S.h id with
  |some (.it (.mp bs bo) _ x)=>match(hV bs k&&hV bo v)&&x.eE (.mp k v)with
   |true=>some x
   |false=>none
  |_=>none
 |r,a=>match r.one&&a.eE r with
  |true=>some a
  |false=>none
def sd(S:ar):List aW→List ab→Option (List ab)
 |[],[]=>some []
 |r::rs,a::aG=>match Pc S r a,sd S rs aG with
  |some x,some l=>some (x::l)
  |_,_=>none
 |_,_=>none
def tL:List ab→Bool
 |[]=>true
 | .aP _::_=>false
 | .ha _::_=>false
 |_::r=>tL r
def iM(c:iD)(aG:List ab)(k:Nat):List bT:=
 match c.rs with
 |[_]=>[.ca c.j aG]
 |rs=>.ca c.j aG::ox rs k 0 rs
def yK(c:iD)(k:Nat):ab:=
 match c.rs with
 |[r]=>Ca r k
 |rs=>.tp (hE (k+1) rs)
def Gt(S:ar)(xs:List bT)(v:ab):ar:={S with l:=bd.put .emp 0 v,k:=S.k+xs.length}
def Gu(c:iD)(xs:List ab):List fi:=
 match c.eX with
 |true=>[]
 |false=>[.ca c.j xs]
def Pd(C:List iD)(inl:Nat→List ab→ar→aC)(f:Nat)(aG:List ab)(S:ar):aC:=
 match B9 f C with
 |none=>inl f aG S
 |some c=>match sd S c.ps aG with
  |none=>inl f aG S
  |some xs=>match c.rs.all aW.iI&&(tL aG||c.rs.all aW.tK)&&(ab.cV S.k xs&&ab.r5 S.n (yK c S.k))with
   |true=>emit S.k (iM c xs S.k) (Gu c xs) (.cQ .ct (Gt S (iM c xs S.k) (yK c S.k)))
   |false=>inl f aG S
theorem yL: ∀{rs:List aW} {ds:List aF},ds.map aF.r=rs→dE rs (ch rs ds)=ds
 |[],[],_=>rfl
 |[],_::_,h=>by cases h
 |[r],ds,h=>by
  obtain⟨d,pn,rfl,aa,ae⟩:=lS h
  cases mF ae
  subst aa;show[⟨d.r,d.aG d.r⟩]=[d];rw[A4]
 |r::s::l,ds,h=>by
  obtain⟨d,pn,rfl,aa,ae⟩:=lS h;subst aa;show(⟨d.r,d.aG d.r⟩:aF)::dE (s::l) (ch (s::l) pn)=d::pn;rw[A4,yL ae]
theorem tM: ∀{rs:List aW} {x:(fg rs).den},(dE rs x).map aF.r=rs
 |[],_=>rfl
 |[_],_=>rfl
 |r::s::l,x=>by
  show r::(dE (s::l) x.2).map aF.r=_;rw[tM]
section
variable {G:bc} {e:Env} {S:ar}
theorem Wv{r:aW}{x:r.den}(h: ∀c,r≠ .st c):(⟨r,x⟩:aF).ft= .av (fL r x):=by
 cases r with
 |st c=>exact absurd rfl (h c)
 |_=>rfl
theorem Ww{r:aW}(h:r.one=true): ∀c,r≠ .st c:=fun c hc=>by subst hc;cases h
theorem Wx{r:aW}{a:ab}(h:a.eE r=true): ∃y,a.den G e= .av y:=by
 unfold ab.eE at h
 split at h<;>first|exact⟨_,rfl⟩|cases h
theorem Wy: ∀{rs:List aW} {l:List ab},hz rs l=true→∃ys:List ba,ab.bX G e l=ys.map .av
 |[],[],_=>⟨[],rfl⟩
 |[],_::_,h=>by cases h
 |_::_,[],h=>by cases h
 |r::rs,x::xs,h=>by
  simp only[hz,Bool.and_eq_true]at h;obtain⟨y,ay⟩:=Wx (G:=G) (e:=e) h.1;obtain⟨ys,mw⟩:=Wy (rs:=rs) h.2;exact⟨y::ys,by simp only[ab.bX,ay,mw,List.map_cons]⟩
theorem Wz{σ:Heap}: ∀{ys:List ba},ib σ (ys.map .av)=ys.map .av
 |[]=>rfl
 |y::ys=>by simp only[List.map_cons,ib,jT,Wz]
theorem zjQ{r:aW}{a x:ab}(h:Pc S r a=some x):
 Sub (jT (cF G e S.h) (a.den G e)) (aF.ft ⟨r,x.get e r⟩)∧fJ (jT (cF G e S.h) (a.den G e))=true∧((∀id,a≠ .aP id∧a≠ .ha id)→jT (cF G e S.h) (a.den G e)=a.den G e):=by
 unfold Pc at h
 split at h
 ·rename_i c l
  split at h
  ·rename_i aq
   cases h;obtain⟨ys,ay⟩:=Wy (G:=G) (e:=e) aq
   have ai:=Bc (G:=G) (e:=e) aq
   have hd:jT (cF G e S.h) ((ab.cr l).den G e)=(ab.cr l).den G e:=by simp only[ab.den,jT,ay,Wz]
   rw[hd];refine⟨?_,by simp only[ab.den,ay,fJ,Eg],fun _=>rfl⟩
   simp only[ab.den];exact ai.agg
  ·cases h
 ·rename_i c id
  split at h
  ·rename_i t d y ah
   split at h
   ·rename_i hc
    cases h;simp only[Bool.and_eq_true,decide_eq_true_eq]at hc;obtain⟨rfl,hx⟩:=hc
    have a6:aE (cF G e S.h) id=some (.row false t (b4 c) (List.map (ck c) (x.aA e (.li c)))):=by rw[er,ah];rfl
    have hd:jT (cF G e S.h) ((ab.aP id).den G e)= .av (.aP (b4 c) (List.map (ck c) (x.aA e (.li c)))):=by simp only[ab.den,jT,a6]
    rw[hd];exact⟨lT.ft fun _ _ _ h=>.li _ _ _ h,rfl,fun h=>absurd rfl (h id).1⟩
   ·cases h
  ·cases h
 ·rename_i k v id
  split at h
  ·rename_i bs bo dx y ah
   split at h
   ·rename_i hc
    cases h;simp only[Bool.and_eq_true]at hc
    cases hy hc.1.1
    cases hy hc.1.2
    have a6:aE (cF G e S.h) id=some (.bU (jV v.agg (gj (lg k) (iG v) (x.aA e (.mp k v))))):=by rw[er,ah];rfl
    have hd:jT (cF G e S.h) ((ab.ha id).den G e)= .av (xC v.agg (gj (lg k) (iG v) (x.aA e (.mp k v)))):=by simp only[ab.den,jT,a6]<;>rfl
    rw[hd];refine⟨?_,rfl,fun h=>absurd rfl (h id).2⟩
    show Sub _ (.av (fL (.mp k v) (x.aA e (.mp k v))));rw[Ut];exact Sub.refl _
   ·cases h
  ·cases h
 ·split at h
  ·rename_i hc
   cases h;simp only[Bool.and_eq_true]at hc;obtain⟨y,ay⟩:=Wx (G:=G) (e:=e) hc.2
   have hd:jT (cF G e S.h) (a.den G e)=a.den G e:=by rw[ay];rfl
   rw[hd];refine⟨?_,by rw[ay];rfl,fun _=>rfl⟩
   rw[Wv (Ww hc.1),Fg hc.1];exact vm hc.2
  ·cases h
theorem yM: ∀{rs:List aW} {aG xs:List ab},sd S rs aG=some xs→
 fW (ib (cF G e S.h) (ab.bX G e aG)) ((gH e rs xs).map aF.ft)∧e7 (ib (cF G e S.h) (ab.bX G e aG))=true∧(tL aG=true→ib (cF G e S.h) (ab.bX G e aG)=ab.bX G e aG)∧(gH e rs xs).map aF.r=rs
 |[],[],_,h=>by cases h;exact⟨.nil,rfl,fun _=>rfl,rfl⟩
 |[],_::_,_,h=>by cases h
 |_::_,[],_,h=>by cases h
 |r::rs,a::aG,xs,h=>by
  simp only[sd]at h
  split at h
  ·rename_i x l aa ae
   cases h;obtain⟨cg,a2,a3⟩:=zjQ (G:=G) (e:=e) aa;obtain⟨gZ,jt,hX,tv⟩:=yM ae;refine⟨.cons cg gZ,by simp only[ab.bX,ib,e7,a2,jt,Bool.and_self],fun hn=>?_,by simp only[gH,List.map_cons,tv]⟩
   have:(∀id,a≠ .aP id∧a≠ .ha id)∧tL aG=true:=by
    cases a<;>first|(cases hn;done)|exact⟨fun id=>⟨fun bj=>(by cases bj),fun bj=>(by cases bj)⟩,hn⟩
   simp only[ab.bX,ib,a3 this.1,hX this.2]
  ·cases h
end
section
variable {G:bc} {e:Env}
theorem zjR(d:aF):fJ d.ft=true:=by
 unfold aF.ft
 split
 ·simp only[fJ,Eg]
 ·rfl
theorem Gv: ∀l:List aF,e7 (l.map aF.ft)=true
 |[]=>rfl
 |d::l=>by simp only[List.map_cons,e7,zjR,Gv l,Bool.and_self]
theorem Pe{rs:List aW}{x:(fg rs).den}:fJ (lA rs x)=true:=by
 have h:=Gv (dE rs x)
 unfold lA nD
 split
 ·rename_i v ax
  rw[ax]at h;simpa[e7]using h
 ·exact h
theorem WA: ∀{ds:List aF},(∀d∈ds,d.r.tK=true∧∀c,d.r≠ .st c)→ni (ds.map fun d=>.av d.av)=true
 |[],_=>rfl
 |d::ds,h=>by
  have aa:=h d (List.mem_cons_self ..)
  have ae:=WA (ds:=ds) fun x hx=>h x (List.mem_cons_of_mem _ hx)
  obtain⟨r,x⟩:=d
  cases r<;>first|(exact absurd rfl (aa.2 _))|(cases aa.1;done)|exact ae
theorem WB{d:aF}(h:d.r.tK=true):jU d.ft=true:=by
 obtain⟨r,x⟩:=d
 cases r with
 |st c=>
  show jU (.agg ((ck c x).map .av))=true
  have hc:ck c x=(lR c x).map aF.av:=by unfold ck;rfl
  rw[hc,List.map_map];simp only[jU];refine WA fun d hd=>?_
  have ag:d.r∈eV c:=by
   have:=Ma c x
   rw[←this];exact List.mem_map_of_mem hd
  have aY:d.r.cmp=true:=List.all_eq_true.1 (show(eV c).all _=true from h) d.r ag
  cases hd:d.r<;>rw[hd]at aY<;>first|(cases aY;done)|exact⟨rfl,fun c hc=>by cases hc⟩
 |_=>first|rfl|cases h
theorem Pf: ∀{l:List aF},(∀d∈l,d.r.tK=true)→ni (l.map aF.ft)=true
 |[],_=>rfl
 |d::l,h=>by
  simp only[List.map_cons,ni,WB (h d (List.mem_cons_self ..)),Pf (l:=l) fun x hx=>h x (List.mem_cons_of_mem _ hx),Bool.and_self]
theorem zjS{rs:List aW}{x:(fg rs).den}(h:rs.all aW.tK=true):jU (lA rs x)=true:=by
 have h:=Pf (l:=dE rs x) fun d hd=>by
  have ag:d.r∈rs:=by
   have:=tM (rs:=rs) (x:=x)
   rw[←this];exact List.mem_map_of_mem hd
  exact List.all_eq_true.1 h d.r ag
 unfold lA nD
 split
 ·rename_i v ax
  rw[ax]at h;simpa[ni]using h
 ·exact h
end
section
variable {P:Program} {G:bc} {M:List aS} {C:List iD} {inl:Nat→List ab→ar→aC}
theorem WC{f:Nat}{c:iD}: ∀{C:List iD},B9 f C=some c→c∈C∧c.f=f
 |[],h=>by cases h
 |d::r,h=>by
  unfold B9 at h
  split at h
  ·rename_i hd;cases h;exact⟨List.mem_cons_self ..,Nat.eq_of_beq_eq_true hd⟩
  ·obtain⟨aa,ae⟩:=WC h;exact⟨List.mem_cons_of_mem _ aa,ae⟩
theorem Pg(rs:List aW)(p:Nat): ∀(l:List aW) (i j:Nat),(ox rs p i l)[j]? =if j<l.length then some (.rS rs p (i+j))else none
 |[],i,j=>by simp[ox]
 |_::l,i,0=>by simp[ox]
 |_::l,i,j+1=>by
  simp only[ox,List.getElem?_cons_succ,Pg rs p l (i+1) j,List.length_cons,Nat.add_lt_add_iff_right]
  have:i+1+j=i+(j+1):=by omega
  rw[this]
theorem WD(rs:List aW)(p:Nat): ∀(l:List aW) (i k:Nat),p<k→hB k (ox rs p i l)=true
 |[],_,_,_=>rfl
 |_::l,i,k,h=>by
  simp only[ox,hB,bT.lt,jX h,Bool.true_and];exact WD rs p l (i+1) (k+1) (by omega)
theorem Gw{c:iD}{xs:List ab}{k:Nat}(h:ab.cV k xs=true):hB k (iM c xs k)=true:=by
 unfold iM
 split
 ·simp only[hB,bT.lt,h,Bool.and_self]
 ·simp only[hB,bT.lt,h,Bool.true_and]
  exact WD _ _ _ _ _ (Nat.lt_succ_self k)
theorem Ph(rs:List aW)(p:Nat): ∀(l:List aW) (i:Nat),(ox rs p i l).length=l.length
 |[],_=>rfl
 |_::l,i=>by simp[ox,Ph rs p l (i+1)]
theorem Pj{e:Env}{r:aW}{i:Nat}{x:r.den}(h:Env.at e i=⟨r,x⟩):(Ca r i).den G e=aF.ft ⟨r,x⟩:=by
 have aY:(Env.at e i).aG r=x:=by rw[h,cH]
 cases r with
 |st c=>
  show aD.agg (ab.bX G e (iW c i 0 (eV c)))= .agg ((ck c x).map .av);rw[tc,aY]
 |_=>show aD.av (fL _ ((Env.at e i).aG _))= .av (fL _ x);rw[aY]
theorem Cb{e:Env}: ∀{rs:List aW} {i:Nat} {ds:List aF},ds.map aF.r=rs→(∀j d,ds[j]? =some d→Env.at e (i+j)=d)→ab.bX G e (hE i rs)=ds.map aF.ft
 |[],i,ds,h,_=>by cases mF h;rfl
 |r::rs,i,ds,h,hd=>by
  obtain⟨d,pn,rfl,aa,ae⟩:=lS h;subst aa
  have aJ:=hd 0 d rfl
  simp only[hE,ab.bX,List.map_cons,List.cons.injEq];refine⟨Pj (x:=d.v) aJ,Cb ae fun j zjT af=>?_⟩
  have:=hd (j+1) zjT (by simpa using af)
  rw[←this];congr 1;omega
theorem Gx{c:bR}{i k:Nat}(h:i<k): ∀{rs:List aW} {j:Nat},ab.cV k (iW c i j rs)=true
 |[],_=>rfl
 |r::rs,j=>by simp only[iW,ab.cV,ab.lt,jX h,Gx h (rs:=rs),Bool.and_self]
theorem Pk{r:aW}{i k:Nat}(h:i<k):(Ca r i).lt k=true:=by
 cases r with
 |st c=>exact Gx h
 |_=>exact jX h
theorem Cc: ∀{rs:List aW} {i k:Nat},i+rs.length≤k→ab.cV k (hE i rs)=true
 |[],_,_,_=>rfl
 |r::rs,i,k,h=>by
  simp only[List.length_cons]at h;simp only[hE,ab.cV,Pk (r:=r) (show i<k by omega),Cc (rs:=rs) (show i+1+rs.length≤k by omega),Bool.and_self]
theorem Pl{α:Type}{d:α}: ∀{l:List α} {i:Nat} {x:α},l[i]? =some x→e6 d l i=x
 |[],_,_,h=>by cases h
 |y::l,0,x,h=>by simpa[e6]using h
 |y::l,i+1,x,h=>by
  simp only[e6];exact Pl (by simpa using h)
theorem zjU{c:iD}{xs:List ab}{k:Nat}{e:Env}{y:(fg c.rs).den}(aq:ab.cV k xs=true)(aJ:Env.at (dt M e k (iM c xs k)) k=⟨fg c.rs,y⟩):
 (yK c k).den G (dt M e k (iM c xs k))=lA c.rs y:=by
 have eQ:=jD (M:=M) (e:=e) (Gw (c:=c) aq)
 obtain⟨f,Gy,ps,rs,eX⟩:=c
 show(yK ⟨f,Gy,ps,rs,eX⟩ k).den G _=lA rs y
 match rs,y,aJ,eQ with
 |[],y,aJ,eQ=>rfl
 |[r],y,aJ,eQ=>exact Pj aJ
 |r::s::l,y,aJ,eQ=>
  have nf:(dE (r::s::l) y).map aF.r=r::s::l:=tM
  have rC:lA (r::s::l) y= .tuple ((dE (r::s::l) y).map aF.ft):=by
   unfold lA nD
   split
   ·rename_i v ax
    have:=congrArg List.length nf
    have ae:=congrArg List.length ax
    simp only[List.length_map,List.length_cons]at this ae;simp only[List.length_nil]at ae;omega
   ·rfl
  rw[rC];show aD.tuple (ab.bX G _ (hE (k+1) (r::s::l)))=_
  congr 1
  refine Cb nf fun j d af=>?_
  have hlen:j<(r::s::l).length:=by
   have aa:=(List.getElem?_eq_some_iff.1 af).1
   have:=congrArg List.length nf
   rw[List.length_map]at this;omega
  have aa:=eQ (j+1) (.rS (r::s::l) k j) (by
   show(bT.ca Gy xs::ox (r::s::l) k 0 (r::s::l))[j+1]? =_
   rw[List.getElem?_cons_succ,Pg,if_pos hlen,Nat.zero_add])
  rw[show k+1+j=k+(j+1)by omega,aa]
  simp only[bT.den,aJ,cH];exact Pl af
theorem zjV(q2:rk P G M C)(b1:fT P G M inl):fT P G M (Pd C inl):=fun f aG S e ad aq hf ai=>by
 unfold Pd at ai⊢
 cases hc:B9 f C with
 |none=>simp only[hc]at ai⊢;exact b1 f aG S e ad aq hf ai
 |some c=>
  simp only[hc]at ai⊢
  cases hx:sd S c.ps aG with
  |none=>simp only[hx]at ai⊢;exact b1 f aG S e ad aq hf ai
  |some xs=>
   simp only[hx]at ai⊢
   split at ai
   rotate_left
   ·exact b1 f aG S e ad aq hf ai
   rename_i aj;simp only[Bool.and_eq_true]at aj;obtain⟨⟨oy,mQ⟩,Cd,Fm⟩:=aj;obtain⟨hm,Ce⟩:=WC hc;obtain⟨g1,g2,g3,g4⟩:=q2 c hm;obtain⟨hn,_⟩:=mN ai
   have vW:=Gw (c:=c) Cd
   have bY:b2 S.k e (dt M e S.k (iM c xs S.k)):=jY (Nat.le_refl _)
   have b9:c.eX=false→fi.ok M (dt M e S.k (iM c xs S.k)) (.ca c.j xs):=fun js=>hn _ (by unfold Gu;rw[js];exact List.mem_singleton.2 rfl)
   obtain⟨cg,a2,a3,a4⟩:=yM (G:=G) (e:=e) hx
   have eQ:=jD (M:=M) (e:=e) vW 0 (.ca c.j xs) (by unfold iM;split<;>rfl)
   obtain⟨WE,pQ,zmk,zml,WG⟩:=c;simp only at g1 g2 g3 g4 Ce oy mQ Cd Fm vW bY b9 cg a2 a3 a4 eQ hx;subst g1 g2 Ce;simp only[Nat.add_zero,bT.den]at eQ;simp only[fi.ok]at b9;rw[xS bY Cd]at eQ
   have hs:=g3 (ch _ (gH e (e6 aS.d M pQ).ps xs)) (by
    cases WG with
    |true=>rw[g4 rfl];trivial
    |false=>
     have:=b9 rfl
     rw[xS bY Cd]at this
     exact this)
   have vR:nD (e6 aS.d M pQ).ps (ch (e6 aS.d M pQ).ps (gH e (e6 aS.d M pQ).ps xs))=(gH e (e6 aS.d M pQ).ps xs).map aF.ft:=by
    unfold nD;rw[yL a4]
   rw[vR]at hs
   have ax:=zjU (G:=G) (c:=⟨WE,pQ,(e6 aS.d M pQ).ps,(e6 aS.d M pQ).rs,WG⟩) Cd eQ
   have l0:dN P G WE (ab.bX G e aG) (cF G e S.h) S.n fun r b0=>b0=cF G e S.h∧∃_:Heap,r=lA (e6 aS.d M pQ).rs ((e6 aS.d M pQ).m (ch _ (gH e (e6 aS.d M pQ).ps xs))):=by
    cases Bu:tL aG with
    |true=>
     rw[a3 Bu]at cg a2;exact((hs.arg cg).frame a2 fun r b0 ag=>by rw[ag];exact Pe).res fun r b0 ⟨aa,fK,ae⟩=>⟨aa,fK,ae⟩
    |false=>
     rw[Bu,Bool.false_or]at mQ;exact(hs.zjP cg a2 fun r b0 ag=>by rw[ag];exact zjS mQ).res fun r b0 ⟨aa,fK,ae⟩=>⟨aa,fK,ae⟩
   refine l0.res fun r b0 ⟨aa,_,ae⟩=>⟨_,_,by rw[lY];rfl,?_,?_,?_,?_,bY,Nat.le_add_right _ _⟩
   ·rw[ae,←ax]
    show _=ab.den G _ (ar.at (Gt S _ _) 0);unfold Gt ar.at
    simp only[bd.h5,if_true]
   ·rw[aa];exact(xR bY ad.h).symm
   ·refine⟨fun i x hi=>?_,tk (Nat.le_add_right _ _) ad.h,om (Nat.le_add_right _ _) ad.g⟩
    simp only[Gt,bd.h5]at hi
    split at hi
    ·cases hi
     show(yK _ S.k).lt (S.k+_)=true;unfold yK iM
     split
     ·exact Pk (Nat.lt_succ_self _)
     ·simp only[ab.lt]
      refine Cc ?_
      simp only[List.length_cons,Ph];omega
    ·simp[bd.get]at hi
   ·exact iu bY ad.g hf
end
end Go.aN
namespace Go.aN
open Go
section
variable {P:Program} {G:bc} {f:FuncId} {args:List aD} {R:aD→Heap→Prop}
theorem dN.ret(eY:Prop→aD→Prop)(h:dN P G f args [] 0 R){Q:aD→Prop}(fl: ∀r b0,R r b0→∃v,Sub (jT b0 r) v∧fJ v=true∧Q v):dN P G f args [] 0 fun v _=>Q v:=by
 intro w β ro ei aa ae au aR bN
 refine Calls.mono (h w β ro ei aa ae au aR bN) fun e w' ⟨v,r,b0,dU,ro',cS,he,ag,dG,hR,cN⟩=>?_
 obtain⟨u,hu,ak,aK⟩:=fl r b0 ag
 have n2: ∀b,Own b0 dU b→b<w'.heap.size:=fun b ⟨k,p,aj,ak,bk⟩=>(hR.dh k p aj).hO ak bk
 refine⟨v,u,[],dU,u9 ro' b0 dU,cS,he,aK,n5 (hu _ _ _ _ _ _ (L5 hR dG)) ak,⟨by simp[aE],by simp[aE],fun b _=>ld dU b,fun b ad=>ad.elim (hR.lt b) (n2 b)⟩,
  ⟨cN.os,cN.tape,cN.output,cN.size,cN.frame,fun b ad=>?_,fun b ad=>.inl (cN.j9 b ad),fun b ad=>absurd ad (ld dU b),by simp[aE],by simp[aE],cN.le⟩⟩
 rcases ad with ad|ad
 ·exact cN.jo b ad
 ·exact .inr (cN.hp b ad)
end
def gC:Nat→List aF→Env
 |_,[]=>.emp
 |i,d::ds=>bd.put (gC (i+1) ds) i d
theorem Pm: ∀{ds:List aF} {i j:Nat} {d:aF},ds[j]? =some d→Env.at (gC i ds) (i+j)=d
 |[],_,_,_,h=>by cases h
 |x::ds,i,0,d,h=>by
  have h:x=d:=by simpa using h
  simp only[gC,Env.ir,Nat.add_zero,if_true,h]
 |x::ds,i,j+1,d,h=>by
  have:=Pm (i:=i+1) (show ds[j]? =some d by simpa using h)
  simp only[gC,Env.ir];rw[if_neg (by omega),←this]
  congr 1
  omega
def vX(rs:List aW)(v:ab):List ab:=
 match rs,v with
 |[_],v=>[v]
 |_,.tp l=>l
 |_,x=>[x]
def Pn(rs:List aW)(v:ab):Bool:=
 match rs,v with
 |[_],_=>true
 |_,.tp _=>true
 |_,_=>false
def Gz(rs:List aW)(C:ar):Option (List ab):=
 match Pn rs (C.at 0)with
 |true=>sd C rs (vX rs (C.at 0))
 |false=>none
def uR(rs:List aW)(C:ar):Bool:=(Gz rs C).isSome
def Po(rs:List aW)(C:ar)(e:Env):(fg rs).den:=
 match Gz rs C with
 |some l=>ch rs (gH e rs l)
 |none=>(fg rs).fC
def Pp(M:List aS)(t:aC)(rs:List aW)(e:Env):(fg rs).den:=t.fold M e (fun _ C az=>Po rs C az) (fg rs).fC
def qe(n:Nat):ar:=⟨.emp,[],0,n,[]⟩
section
variable {P:Program} {G:bc} {M:List aS} {C:List iD} {inl:Nat→List ab→ar→aC}
theorem zjW{rs:List aW}{S:ar}{e:Env}{l:List ab}(h:Gz rs S=some l):Sub (jT (cF G e S.h) ((S.at 0).den G e)) (lA rs (ch rs (gH e rs l))):=by
 unfold Gz at h
 split at h
 rotate_left
 ·cases h
 rename_i aH
 obtain⟨cg,_,_,a4⟩:=yM (G:=G) (e:=e) h
 have vR:nD rs (ch rs (gH e rs l))=(gH e rs l).map aF.ft:=by unfold nD;rw[yL a4]
 unfold lA
 rw[vR]
 match rs,cg,a4,aH with
 |[r],cg,a4,aH=>
  obtain⟨d,pn,ax,aa,ae⟩:=lS a4
  cases mF ae
  rw[ax]at cg⊢;simp only[vX,ab.bX,ib,List.map_cons,List.map_nil]at cg⊢
  cases cg with
  |cons h _=>exact h
 |[],cg,a4,aH=>
  cases ax:S.at 0 with
  |tp m=>
   rw[ax]at cg;rw[mF a4];rw[mF a4]at cg;exact cg.tuple
  |_=>rw[ax]at aH;cases aH
 |r::s::q,cg,a4,aH=>
  cases ax:S.at 0 with
  |tp m=>
   rw[ax]at cg
   have aq:=congrArg List.length a4
   simp only[List.length_map,List.length_cons]at aq;generalize gH e (r::s::q) l=ds at cg aq⊢
   match ds,aq with
   |d::d2::ds,_=>exact cg.tuple
  |_=>rw[ax]at aH;cases aH
theorem WH{t:aC}{p:ar→Bool}(h:t.gB.all p=true){e az:Env}{S:ar}(ag:run M t e=some (.ct,S,az)):p S=true:=List.all_eq_true.1 h S (nz ag)
theorem Pq(b1:fT P G M inl){f:Nat}{m:aS}(t:aC)(aH:inl f (hE 0 m.ps) (qe m.ps.length)=t)(he:t.gB.all (uR m.rs)=true)
 (ai: ∀x,lz m.pre x→t.safe M (gC 0 (dE m.ps x)))(hm: ∀x,lz m.pre x→Pp M t m.rs (gC 0 (dE m.ps x))=m.m x):bE P G f m:=fun x hx=>by
 subst aH
 have aq:m.ps.length=(dE m.ps x).length:=by have:=congrArg List.length (tM (rs:=m.ps) (x:=x));rw[List.length_map]at this;exact this.symm
 have h:=b1 f (hE 0 m.ps) (qe m.ps.length) (gC 0 (dE m.ps x)) ⟨fun i x hi=>by simp[qe,bd.get]at hi,rfl,rfl⟩ (Cc (by show 0+_≤m.ps.length;omega)) (fun c hc=>by cases hc) (ai x hx)
 have hd:ab.bX G (gC 0 (dE m.ps x)) (hE 0 m.ps)=nD m.ps x:=Cb tM fun j d af=>Pm af
 rw[hd]at h
 refine(dN.ret (fun _ _=>True) h (Q:=fun v=>v=lA m.rs (m.m x)) fun r b0 ag=>?_)
 obtain⟨aU,az,cA,rfl,rfl,_⟩:=ag
 have mi:=WH he cA
 obtain⟨l,mz⟩:=Option.isSome_iff_exists.1 mi
 refine⟨_,zjW mz,Pe,?_⟩
 have:=hm x hx
 unfold Pp at this
 rw[km cA]at this
 unfold Po at this
 rw[mz]at this
 rw[←this]
theorem zjX(b1:fT P G M inl){f:Nat}{m:aS}(t:aC)(aH:inl f (hE 0 m.ps) (qe m.ps.length)=t)(he:(t.clean&&t.gB.all (uR m.rs))=true)
 (hm: ∀x,Pp M t m.rs (gC 0 (dE m.ps x))=m.m x):bE P G f m:=by
 simp only[Bool.and_eq_true]at he
 exact Pq b1 t aH he.2 (fun _ _=>rW M he.1) fun x _=>hm x
theorem rk.nil:rk P G M []:=fun _ h=>by cases h
theorem rk.cons{c:iD}(h:Wu P G M c)(q2:rk P G M C):rk P G M (c::C):=fun d hd=>by
 rcases List.mem_cons.1 hd with rfl|hd
 ·exact h
 ·exact q2 d hd
end
end Go.aN
namespace Go.aN
open Go
def aC.kr(M:List aS):aC→{X:Type}→Env→(b5→ar→Env→X)→X→X
 | .cQ x S,_,e,K,_=>K x S e
 | .lt i x t,_,e,K,d=>t.kr M (bd.put e i (x.den M e)) K d
 | .eL _ t,_,e,K,d=>t.kr M e K d
 | .it g a b,_,e,K,d=>bif g.aA e .bool then a.kr M e K d else b.kr M e K d
 | .dH n a ps k,_,e,K,d=>a.kr M e (fun x S az=>bif x.bZ n then k.kr M (fU e (fun r p=>⟨r,(p.dr S).get az r⟩) ps) K d else K x S az) d
 | .eA m xid dw b6 ca a k,X,e,K,d=>Sum.elim (fun r=>r) (fun v=>k.kr M (bu e ca v) K d)
  (bm (fun i (v:b3 ca)=>(a.kr M (bu (bd.put e b6 ⟨.int .i64,(i:Int)⟩) ca v) (ep m xid ca K) (.cz v):Step X (b3 ca))) 0 (cu (dw.den M e)).toNat (ch _ (dL e ca)))
 | .e3 m xid ca a k,X,e,K,d=>Sum.elim (fun r=>r) (fun v=>k.kr M (bu e ca v) K d)
  (cJ (fun v=>(a.kr M (bu e ca v) (ep m xid ca K) (.cz v):Step X (b3 ca))) dk (ch _ (dL e ca)))
 | .bad _,_,_,_,d=>d
section
variable {M:List aS}
theorem mR: ∀(t:aC) {X:Type} (e:Env) (K:b5→ar→Env→X) (d:X),t.kr M e K d=t.fold M e K d
 | .cQ _ _,_,_,_,_=>rfl
 | .lt i x t,_,e,K,d=>mR t _ K d
 | .eL _ t,_,e,K,d=>mR t _ K d
 | .it g a b,_,e,K,d=>by simp only[aC.kr,aC.fold,mR a,mR b]
 | .dH n a ps k,X,e,K,d=>by
  show a.kr M e (fun x S az=>bif x.bZ n then k.kr M (fU e (fun r p=>⟨r,(p.dr S).get az r⟩) ps) K d else K x S az) d=(aC.dH n a ps k).fold M e K d
  rw[mR a]
  cases ag:run M a e with
  |none=>rw[Bg ag,th ag]
  |some l=>
   obtain⟨x,S,az⟩:=l;rw[km ag]
   cases hx:x.bZ n with
   |true=>rw[cond_true,qB ag hx,mR k]
   |false=>rw[cond_false,nt ag hx]
 | .eA m xid dw b6 ca a k,X,e,K,d=>by
  rw[xQ];simp only[aC.kr,mR a,mR k]
 | .e3 m xid ca a k,X,e,K,d=>by
  simp only[aC.kr,aC.fold,mR a,mR k]
 | .bad _,_,_,_,_=>rfl
def aC.wp(M:List aS):aC→Env→(b5→ar→Env→Prop)→Prop
 | .cQ x S,e,Q=>Q x S e
 | .lt i x t,e,Q=>t.wp M (bd.put e i (x.den M e)) Q
 | .eL n t,e,Q=>n.ok M e∧t.wp M e Q
 | .it g a b,e,Q=>(g.aA e .bool=true→a.wp M e Q)∧(g.aA e .bool=false→b.wp M e Q)
 | .dH n a ps k,e,Q=>a.wp M e fun x S az=>bif x.bZ n then k.wp M (fU e (fun r p=>⟨r,(p.dr S).get az r⟩) ps) Q else Q x S az
 | .eA m xid dw b6 ca a k,e,Q=>∃I:Nat→b3 ca→Prop,I 0 (ch _ (dL e ca))∧(∀(i:Nat) (v:b3 ca),i<(cu (dw.den M e)).toNat→I i v→
  a.wp M (bu (bd.put e b6 ⟨.int .i64,(i:Int)⟩) ca v) fun x S az=>bif x.bZ m then I (i+1) (ch _ (fE S az ca))else bif x.c9 xid then k.wp M (bu e ca (ch _ (fE S az ca))) Q else Q x S az)∧
  ∀v,I (cu (dw.den M e)).toNat v→k.wp M (bu e ca v) Q
 | .e3 m xid ca a k,e,Q=>∃(I:b3 ca→Prop) (jG:b3 ca→Nat),I (ch _ (dL e ca))∧jG (ch _ (dL e ca))<dk∧∀(v:b3 ca),I v→
  a.wp M (bu e ca v) fun x S az=>bif x.bZ m then I (ch _ (fE S az ca))∧jG (ch _ (fE S az ca))<jG v else bif x.c9 xid then k.wp M (bu e ca (ch _ (fE S az ca))) Q else Q x S az
 | .bad _,_,_=>False
theorem WI{R A:Type}{b:Nat→A→Step R A}(I:Nat→A→Prop)(vY:R→Prop)(tN:A→Prop)(n:Nat)(h: ∀i v,i<n→I i v→(∀r,b i v= .ret r→vY r)∧(∀bo,b i v= .cz bo→tN bo)∧∀bo,b i v= .bh bo→I (i+1) bo)
 (he: ∀v,I n v→tN v): ∀(m k:Nat) (a:A),k+m=n→I k a→(∀r,bm b k m a= .inl r→vY r)∧∀v,bm b k m a= .inr v→tN v
 |0,k,a,hn,hi=>by
  have:k=n:=by omega
  subst this;exact⟨fun r ag=>(by cases ag),fun v ax=>(by cases ax;exact he a hi)⟩
 |m+1,k,a,hn,hi=>by
  obtain⟨aa,ae,au⟩:=h k a (by omega) hi
  simp only[bm]
  cases ad:b k a with
  |ret r=>exact⟨fun eY ag=>(by cases ag;exact aa r ad),fun v ax=>(by cases ax)⟩
  |cz v=>exact⟨fun eY ag=>(by cases ag),fun bo ax=>(by cases ax;exact ae v ad)⟩
  |bh v=>exact WI I vY tN n h he m (k+1) v (by omega) (au v ad)
theorem WJ{R A:Type}{b:A→Step R A}(I:A→Prop)(jG:A→Nat)(vY:R→Prop)(tN:A→Prop)(h: ∀v,I v→(∀r,b v= .ret r→vY r)∧(∀bo,b v= .cz bo→tN bo)∧∀bo,b v= .bh bo→I bo∧jG bo<jG v):
 ∀(m:Nat) (a:A),jG a<m→I a→ki b m a∧(∀r,cJ b m a= .inl r→vY r)∧∀v,cJ b m a= .inr v→tN v
 |0,a,hm,_=>absurd hm (Nat.not_lt_zero _)
 |m+1,a,hm,hi=>by
  obtain⟨aa,ae,au⟩:=h a hi;simp only[cJ,ki]
  cases ad:b a with
  |ret r=>exact⟨trivial,fun eY ag=>(by cases ag;exact aa r ad),fun v ax=>(by cases ax)⟩
  |cz v=>exact⟨trivial,fun eY ag=>(by cases ag),fun bo ax=>(by cases ax;exact ae v ad)⟩
  |bh v=>
   obtain⟨g1,g2⟩:=au v ad;exact WJ I jG vY tN h m v (by omega) g1
def GA(M:List aS)(t:aC)(e:Env)(Q:b5→ar→Env→Prop):Prop:=∃x S az,run M t e=some (x,S,az)∧Q x S az
theorem WK{m xid:Nat}{ca:List hJ}{a:aC}{e:Env}{v:b3 ca}{J:b3 ca→Prop}{B:b3 ca→Prop}{Q:b5→ar→Env→Prop}
 (h:GA M a e fun x S az=>bif x.bZ m then J (ch _ (fE S az ca))else bif x.c9 xid then B (ch _ (fE S az ca))else Q x S az):
 (∀r,de M m xid ca a e v= .ret r→∃x S az,r=some (x,S,az)∧Q x S az)∧(∀bo,de M m xid ca a e v= .cz bo→B bo)∧∀bo,de M m xid ca a e v= .bh bo→J bo:=by
 obtain⟨x,S,az,ag,aK⟩:=h
 unfold de
 rw[ag]
 simp only
 cases hx:x.bZ m with
 |true=>
  rw[hx,cond_true]at aK;rw[og hx];exact⟨fun r a6=>(by cases a6),fun bo a6=>(by cases a6),fun bo a6=>(by cases a6;exact aK)⟩
 |false=>
  rw[hx,cond_false]at aK
  cases ay:x.c9 xid with
  |true=>
   rw[ay,cond_true]at aK;rw[oh hx ay];exact⟨fun r a6=>(by cases a6),fun bo a6=>(by cases a6;exact aK),fun bo a6=>(by cases a6)⟩
  |false=>
   rw[ay,cond_false]at aK;rw[kl hx ay];exact⟨fun r a6=>(by cases a6;exact⟨_,_,_,rfl,aK⟩),fun bo a6=>(by cases a6),fun bo a6=>(by cases a6)⟩
theorem kt: ∀(t:aC) {e:Env} {Q:b5→ar→Env→Prop},t.wp M e Q→t.safe M e∧GA M t e Q
 | .cQ x S,e,Q,h=>⟨trivial,x,S,e,rfl,h⟩
 | .lt i x t,e,Q,h=>kt t (e:=bd.put e i (x.den M e)) h
 | .eL n t,e,Q,h=>⟨⟨h.1,(kt t h.2).1⟩,(kt t h.2).2⟩
 | .it g a b,e,Q,h=>by
  refine⟨⟨fun ah=>(kt a (h.1 ah)).1,fun ah=>(kt b (h.2 ah)).1⟩,?_⟩
  cases ah:g.aA e .bool with
  |true=>
   obtain⟨x,S,az,aa,ae⟩:=(kt a (h.1 ah)).2;exact⟨x,S,az,by rw[tB ah];exact aa,ae⟩
  |false=>
   obtain⟨x,S,az,aa,ae⟩:=(kt b (h.2 ah)).2;exact⟨x,S,az,by rw[tB ah];exact aa,ae⟩
 | .dH n a ps k,e,Q,h=>by
  obtain⟨aa,x,aU,aB,ag,au⟩:=kt a h
  cases hx:x.bZ n with
  |true=>
   rw[hx,cond_true]at au;obtain⟨eT,iP,dq,az,gM,k6⟩:=kt k au;refine⟨⟨aa,fun _=>?_⟩,iP,dq,az,by unfold run;rw[qB ag hx];exact gM,k6⟩
   have:(fun(r:aW) (p:eF)=>(⟨r,bif a.jA n
    then a.fold M e (fun _ S az=>(p.dr S).get az r) r.fC
    else a.fold M e (fun x S az=>bif x.bZ n then(p.dr S).get az r else r.fC) r.fC⟩:aF))=fun r p=>⟨r,(p.dr aU).get aB r⟩:=by
    funext r p
    simp only[km ag,hx]
    cases a.jA n<;>rfl
   rw[this];exact eT
  |false=>
   rw[hx,cond_false]at au;exact⟨⟨aa,fun af=>by rw[km ag,hx]at af;cases af⟩,x,aU,aB,by unfold run;rw[nt ag hx],au⟩
 | .eA m xid dw b6 ca a k,e,Q,h=>by
  obtain⟨I,aJ,ad,he⟩:=h
  have qw:=fun(i:Nat) (v:b3 ca) hi ax=>kt a (ad i v hi ax)
  have Cf:=fun(i:Nat) (v:b3 ca) hi ax=>WK (v:=v) (J:=I (i+1)) (B:=fun bo=>k.wp M (bu e ca bo) Q) (Q:=Q) (qw i v hi ax).2
  obtain⟨cP,dC⟩:=WI I (fun r=>∃x S az,r=some (x,S,az)∧Q x S az) (fun v=>k.wp M (bu e ca v) Q) (cu (dw.den M e)).toNat Cf (fun v ax=>he v ax) (cu (dw.den M e)).toNat 0 _ (Nat.zero_add _) aJ
  have hU:(fun(i:Nat) (v:b3 ca)=>(a.fold M (bu (bd.put e b6 ⟨.int .i64,(i:Int)⟩) ca v) (ep m xid ca fun _ _ _=>()) (.cz v):Step Unit (b3 ca)))=fun(i:Nat) v=>ig (fun _=>()) (de M m xid ca a (bu (bd.put e b6 ⟨.int .i64,(i:Int)⟩) ca v) v):=by
   funext i v
   exact iY ..
  have ym:=ue (fun _:Option nr=>()) (b:=fun(i:Nat) v=>de M m xid ca a (bu (bd.put e b6 ⟨.int .i64,(i:Int)⟩) ca v) v) (c:=fun(i:Nat) v=>ig (fun _=>()) (de M m xid ca a (bu (bd.put e b6 ⟨.int .i64,(i:Int)⟩) ca v) v)) (fun _ _=>rfl) (cu (dw.den M e)).toNat 0 (ch _ (dL e ca))
  refine⟨⟨⟨I,aJ,fun i v hi ax=>⟨(qw i v hi ax).1,fun bo hn=>(Cf i v hi ax).2.2 bo ?_⟩⟩,?_⟩,?_⟩
  ·rw[iY]at hn
   exact ti hn
  ·rw[hU,ym]
   cases aq:bm (fun(i:Nat) v=>de M m xid ca a (bu (bd.put e b6 ⟨.int .i64,(i:Int)⟩) ca v) v) 0 (cu (dw.den M e)).toNat (ch _ (dL e ca))with
   |inl r=>trivial
   |inr v=>exact(kt k (dC v aq)).1
  ·unfold GA
   rw[Fz]
   cases aq:bm (fun(i:Nat) v=>de M m xid ca a (bu (bd.put e b6 ⟨.int .i64,(i:Int)⟩) ca v) v) 0 (cu (dw.den M e)).toNat (ch _ (dL e ca))with
   |inl r=>exact cP r aq
   |inr v=>exact(kt k (dC v aq)).2
 | .e3 m xid ca a k,e,Q,h=>by
  obtain⟨I,jG,aJ,hm,ad⟩:=h
  have qw:=fun(v:b3 ca) ax=>kt a (ad v ax)
  have Cf:=fun(v:b3 ca) ax=>WK (v:=v) (J:=fun bo=>I bo∧jG bo<jG v) (B:=fun bo=>k.wp M (bu e ca bo) Q) (Q:=Q) (qw v ax).2
  obtain⟨zjY,cP,dC⟩:=WJ I jG (fun r=>∃x S az,r=some (x,S,az)∧Q x S az) (fun v=>k.wp M (bu e ca v) Q) Cf dk _ hm aJ
  have hU:(fun(v:b3 ca)=>(a.fold M (bu e ca v) (ep m xid ca fun _ _ _=>()) (.cz v):Step Unit (b3 ca)))=fun v=>ig (fun _=>()) (de M m xid ca a (bu e ca v) v):=by
   funext v
   exact iY ..
  have ym:=xN (fun _:Option nr=>()) (b:=fun v=>de M m xid ca a (bu e ca v) v) (c:=fun v=>ig (fun _=>()) (de M m xid ca a (bu e ca v) v)) (fun _=>rfl) dk (ch _ (dL e ca))
  have zjZ:=Mx (fun _:Option nr=>()) (b:=fun v=>de M m xid ca a (bu e ca v) v) (c:=fun v=>ig (fun _=>()) (de M m xid ca a (bu e ca v) v)) (fun _=>rfl) dk (ch _ (dL e ca))
  refine⟨⟨⟨I,aJ,fun v ax=>⟨(qw v ax).1,fun bo hn=>((Cf v ax).2.2 bo ?_).1⟩⟩,?_,?_⟩,?_⟩
  ·rw[iY]at hn
   exact ti hn
  ·rw[hU]
   exact zjZ.2 zjY
  ·rw[hU,ym]
   cases aq:cJ (fun v=>de M m xid ca a (bu e ca v) v) dk (ch _ (dL e ca))with
   |inl r=>trivial
   |inr v=>exact(kt k (dC v aq)).1
  ·unfold GA
   rw[FA]
   cases aq:cJ (fun v=>de M m xid ca a (bu e ca v) v) dk (ch _ (dL e ca))with
   |inl r=>exact cP r aq
   |inr v=>exact(kt k (dC v aq)).2
 | .bad _,_,_,h=>h.elim
end
def w7(M:List aS)(t:aC)(rs:List aW)(e:Env):(fg rs).den:=t.kr M e (fun _ C az=>Po rs C az) (fg rs).fC
section
variable {P:Program} {G:bc} {M:List aS} {inl:Nat→List ab→ar→aC}
theorem fm(b1:fT P G M inl){f:Nat}{m:aS}(t:aC)(aH:inl f (hE 0 m.ps) (qe m.ps.length)=t)(he:(t.clean&&t.gB.all (uR m.rs))=true)
 (hm: ∀x,w7 M t m.rs (gC 0 (dE m.ps x))=m.m x):bE P G f m:=
 zjX b1 t aH he fun x=>by rw[←hm x];exact(mR t _ _ _).symm
theorem zj0(b1:fT P G M inl){f:Nat}{m:aS}(t:aC)(aH:inl f (hE 0 m.ps) (qe m.ps.length)=t)(he:t.gB.all (uR m.rs)=true)
 (ai: ∀x,lz m.pre x→t.wp M (gC 0 (dE m.ps x)) fun _ _ _=>True)(hm: ∀x,w7 M t m.rs (gC 0 (dE m.ps x))=m.m x):bE P G f m:=
 Pq b1 t aH he (fun x hx=>(kt t (ai x hx)).1) fun x _=>by rw[←hm x];exact(mR t _ _ _).symm
end
end Go.aN
namespace Go.aN
open Go
section
variable {P:Program} {G:bc} {f:FuncId} {args:List aD} {σ:Heap} {n:Nat}
theorem dN.zj1{t:TypeId}{cs ly:List aD}{R:aD→List aD→Prop}(h:dN P G f (.ptr 0 0::args) [(0,.box t cs)] 1 fun r b0=>∃cs',b0=[(0,.box t cs')]∧R r cs')(ak:e7 args=true)(dR:e7 cs=true)
 (fl: ∀r cs',R r cs'→jU r=true∧ni cs'=true){id:Nat}(bj:aE σ id=some (.box t ly))(gE:fW ly cs):
 dN P G f (.ptr id 0::args) σ n fun r b0=>∃cs',b0=eU σ id (.box t cs')∧R r cs':=by
 intro w β ro ei aa ae au aR bN
 have du:=au.dh id _ bj
 cases du with
 |box _ _ b arr aB bl cx eR=>
  have WL: ∀k,Own [(0,ew.box t cs)] (fun _=>β id) k→cb (β id)=some k:=fun k ⟨i,o,ah,_,ad⟩=>ad
  have k4:ho w ro [(0,.box t cs)] (fun _=>β id) 1:=by
   refine⟨fun i o ah=>?_,fun i AN o cG k ah ec _ _ _ _=>?_,fun k aj ao=>au.fo k aj ⟨id,_,bj,rfl,WL k ao⟩,au.lt⟩
   ·simp only[aE]at ah
    split at ah
    ·rename_i hi
     subst hi;cases ah;refine .box t cs b arr aB bl (by rw[cx,gE.at.1]) fun j x af=>?_
     obtain⟨y,ay,ai⟩:=gE.at.2 j x af;exact n5 (ai _ _ _ _ _ _ (eR j y ay)) (nc dR af)
    ·cases ah
   ·simp only[aE]at ah ec
    split at ah
    ·split at ec
     ·rename_i cg a2;rw[←cg,←a2]
     ·cases ec
    ·cases ah
  refine Calls.mono (h w (fun _=>β id) ro ei aa (fun i x hx=>?_) k4 aR (fun i o ah=>?_)) fun e w' ⟨v,r,fK,dU,ro',cS,he,⟨cs',LD,ag⟩,dG,hR,cN⟩=>?_
  ·cases i with
   |zero=>
    simp only[List.getElem?_cons_zero,Option.some.injEq]at hx
    subst hx
    have:=ae 0 _ rfl
    generalize ei.getD 0 undef=bD at this⊢
    cases this with
    |ptr _ _ _ aq kn=>
     refine .ptr 0 0 bD Nat.one_pos fun bL cs' ah=>?_
     exact kn t ly bj
   |succ i=>exact n5 (ae (i+1) x (by simpa using hx)) (nc ak (by simpa using hx))
  ·simp only[aE]at ah
   split at ah
   ·rename_i hi;rw[←hi];exact Nat.one_pos
   ·cases ah
  ·subst LD
   obtain⟨zj2,zj3⟩:=fl r cs' ag
   have gV:dc ⟨w,ro,σ,β,n⟩ G ⟨[],σ,n,n⟩ ⟨#[],[]⟩ w β ro:=⟨rfl,rfl,by simp,au,aR,⟨rfl,rfl,rfl,Nat.le_refl _,fun _ _ _=>rfl,fun _ h=>.inl h,fun _ h=>h,fun _ h=>.inl h,fun id _ o ah=>⟨by simp[ah],rfl⟩,bN,Nat.le_refl _⟩,Nat.le_refl _⟩
   have zj4:dU 0=β id:=(cN.dT 0 Nat.one_pos (.box t cs') (by simp[aE])).2
   have hw:=gV.write (w':=w') id _ (.box t cs') bj rfl rfl (.inl ⟨t,ly,cs',rfl,rfl⟩) cN.os cN.tape cN.output cN.size (fun k aj b9=>cN.frame k aj fun ao=>b9 (WL k ao)) (by
    have zj5:=hR.dh 0 (.box t cs') (by simp[aE])
    cases zj5 with
    |box _ _ b' zj6 g1 g2 g3 g4=>
     exact .box t cs' b' zj6 (by rw[←zj4];exact g1) g2 g3 fun j x af=>Ey (g4 j x af) (Ex zj3 af))
   exact⟨v,r,eU σ id (.box t cs'),β,ro,n,he,⟨cs',rfl,ag⟩,Ey dG zj2,hw.heap,hw.trans⟩
end
def yN(ds:List aF):List aD:=
 match ds with
 |⟨.st c,x⟩::_=>(ck c x).map .av
 |_=>[]
def GB(ds:List aF):aD:=
 match ds.tail.map aF.ft with
 |[v]=>v
 |l=>.tuple l
def j8(P:Program)(G:bc)(f:Nat)(t:TypeId)(m:aS):Prop:=
 ∀x:(fg m.ps).den,lz m.pre x→dN P G f (.ptr 0 0::(dE m.ps x).tail.map aF.ft) [(0,.box t (yN (dE m.ps x)))] 1 fun v b0=>∃cs',b0=[(0,.box t cs')]∧v=GB (dE m.rs (m.m x))∧cs'=yN (dE m.rs (m.m x))
structure j7 where
 f:Nat
 j:Nat
 t:TypeId
 c:bR
 ps:List aW
 rs:List aW
 eX:Bool
def j7.pR(b:j7):iD:=⟨b.f,b.j,.st b.c::b.ps,.st b.c::b.rs,b.eX⟩
def zj7(P:Program)(G:bc)(M:List aS)(b:j7):Prop:=
 (e6 aS.d M b.j).ps= .st b.c::b.ps∧(e6 aS.d M b.j).rs= .st b.c::b.rs∧j8 P G b.f b.t (e6 aS.d M b.j)∧(b.eX=true→(e6 aS.d M b.j).pre=none)
def Lm(P:Program)(G:bc)(M:List aS)(C:List j7):Prop:=∀b∈C,zj7 P G M b
def GC(f:Nat):List j7→Option j7
 |[]=>none
 |c::r=>match Nat.beq c.f f with
  |true=>some c
  |false=>GC f r
theorem WM{f:Nat}{c:j7}: ∀{C:List j7},GC f C=some c→c∈C∧c.f=f
 |[],h=>by cases h
 |d::r,h=>by
  unfold GC at h
  split at h
  ·rename_i hd;cases h;exact⟨List.mem_cons_self ..,Nat.eq_of_beq_eq_true hd⟩
  ·obtain⟨aa,ae⟩:=WM h;exact⟨List.mem_cons_of_mem _ aa,ae⟩
def pS(rs:List aW)(k:Nat):Nat:=
 match rs with
 |[_]=>k
 |_=>k+1
def GD(rs:List aW)(k:Nat):ab:=
 match rs with
 |[r]=>Ca r k
 |rs=>.tp (hE k rs)
def GF(b:j7)(S:ar)(id:Nat)(xs:List ab):ar:=
 ⟨bd.put .emp 0 (GD b.rs (pS b.pR.rs S.k+1)),jz S.h id (.dv b.t (iW b.c (pS b.pR.rs S.k) 0 (eV b.c))),S.n,S.k+(iM b.pR xs S.k).length,S.g⟩
def WN(b:j7)(S:ar)(t:TypeId)(l rest xs:List ab):Bool:=
 (Nat.beq t b.t&&(hz (eV b.c) l&&ab.cV S.k l))&&((tL rest&&ab.cV S.k xs)&&((aW.st b.c).tK&&(b.rs.all aW.tK&&b.rs.all aW.iI)))
def Pr(C:List j7)(inl:Nat→List ab→ar→aC)(f:Nat)(aG:List ab)(S:ar):aC:=
 match GC f C,aG with
 |some b,.ej id 0::rest=>match dm S.h id,sd S b.ps rest with
  |some (.dv t l),some xs=>match WN b S t l rest xs with
   |true=>emit S.k (iM b.pR (.cr l::xs) S.k) (Gu b.pR (.cr l::xs)) (.cQ .ct (GF b S id (.cr l::xs)))
   |false=>inl f aG S
  |_,_=>inl f aG S
 |_,_=>inl f aG S
section
variable {P:Program} {G:bc} {M:List aS} {C:List j7} {inl:Nat→List ab→ar→aC}
theorem zj8{c:iD}{xs:List ab}{k:Nat}{e:Env}{y:(fg c.rs).den}(aq:ab.cV k xs=true)(aJ:Env.at (dt M e k (iM c xs k)) k=⟨fg c.rs,y⟩):
 ∀(j:Nat) (d:aF),(dE c.rs y)[j]? =some d→Env.at (dt M e k (iM c xs k)) (pS c.rs k+j)=d:=by
 have eQ:=jD (M:=M) (e:=e) (Gw (c:=c) aq)
 obtain⟨f,Gy,ps,rs,eX⟩:=c
 simp only at y aJ eQ⊢
 match rs,y,aJ,eQ with
 |[],y,aJ,eQ=>intro j d af;cases af
 |[r],y,aJ,eQ=>
  intro j d af
  cases j with
  |zero=>
   have af:(⟨r,y⟩:aF)=d:=by simpa[dE]using af
   rw[←af];exact aJ
  |succ j=>simp[dE]at af
 |r::s::l,y,aJ,eQ=>
  intro j d af
  have hlen:j<(r::s::l).length:=by
   have aa:=(List.getElem?_eq_some_iff.1 af).1
   have:=congrArg List.length (tM (rs:=r::s::l) (x:=y))
   rw[List.length_map]at this;omega
  have aa:=eQ (j+1) (.rS (r::s::l) k j) (by
   show(bT.ca Gy xs::ox (r::s::l) k 0 (r::s::l))[j+1]? =_
   rw[List.getElem?_cons_succ,Pg,if_pos hlen,Nat.zero_add])
  show Env.at _ (k+1+j)=d;rw[show k+1+j=k+(j+1)by omega,aa]
  simp only[bT.den,aJ,cH];exact Pl af
theorem zj9{e:Env}{rs:List aW}{k:Nat}{ds:List aF}(ag:ds.map aF.r=rs)(h: ∀j d,ds[j]? =some d→Env.at e (k+j)=d):(GD rs k).den G e=(match ds.map aF.ft with|[v]=>v|l=>.tuple l):=by
 match rs,ds,ag,h with
 |[],ds,ag,h=>cases mF ag;rfl
 |[r],ds,ag,h=>
  obtain⟨d,pn,rfl,aa,ae⟩:=lS ag
  cases mF ae
  subst aa;exact Pj (x:=d.v) (h 0 d rfl)
 |r::s::l,ds,ag,h=>
  have:=Cb (G:=G) (i:=k) ag h
  obtain⟨d,pn,rfl,aa,ae⟩:=lS ag;obtain⟨d2,zmm,rfl,au,aR⟩:=lS ae;show aD.tuple (ab.bX G e (hE k (r::s::l)))=_;rw[this];rfl
theorem zka{ds:List aF}{c:bR}{x:fS c}{r:List aF}(h:ds=⟨.st c,x⟩::r)(hc:(aW.st c).tK=true):ni (yN ds)=true:=by
 subst h
 have:=WB (d:=⟨.st c,x⟩) hc
 exact this
theorem zkb(q2:Lm P G M C)(b1:fT P G M inl):fT P G M (Pr C inl):=fun f aG S e ad aq hf ai=>by
 unfold Pr at ai⊢
 split at ai
 rotate_left
 ·exact b1 _ _ S e ad aq hf ai
 rename_i b id rest hc
 split at ai
 rotate_left
 ·exact b1 _ _ S e ad aq hf ai
 rename_i t l xs ah hx
 split at ai
 rotate_left
 ·exact b1 _ _ S e ad aq hf ai
 rename_i aj
 simp only[WN,Bool.and_eq_true]at aj
 obtain⟨⟨eT,gM,k6⟩,⟨sR,As⟩,uV,xb,Ps⟩:=aj
 have eT:=Nat.eq_of_beq_eq_true eT
 subst eT
 obtain⟨hm,Ce⟩:=WM hc
 obtain⟨g1,g2,g3,g4⟩:=q2 b hm
 have zkc:ab.lt S.k (.cr l)=true:=k6
 have GG:ab.cV S.k (.cr l::xs)=true:=by simp only[ab.cV,zkc,As,Bool.and_self]
 obtain⟨hn,_⟩:=mN ai
 have vW:=Gw (c:=b.pR) GG
 have bY:b2 S.k e (dt M e S.k (iM b.pR (.cr l::xs) S.k)):=jY (Nat.le_refl _)
 have b9:b.eX=false→fi.ok M (dt M e S.k (iM b.pR (.cr l::xs) S.k)) (.ca b.j (.cr l::xs)):=fun js=>hn _ (by unfold Gu;rw[show b.pR.eX=b.eX from rfl,js];exact List.mem_singleton.2 rfl)
 obtain⟨cg,a2,a3,a4⟩:=yM (G:=G) (e:=e) hx
 have eQ:=jD (M:=M) (e:=e) vW 0 (.ca b.j (.cr l::xs)) (by unfold iM;split<;>rfl)
 have dJ:=Bc (G:=G) (e:=e) gM
 obtain⟨GH,Cg,bt,hY,se,nE,Ch⟩:=b
 simp only[j7.pR]at g1 g2 g3 g4 Ce vW bY b9 cg a2 a3 a4 eQ gM uV xb Ps dJ hx⊢
 subst Ce
 simp only[Nat.add_zero,bT.den]at eQ
 simp only[fi.ok]at b9
 clear ai hn
 generalize e6 aS.d M Cg=m at g1 g2 g3 g4 eQ b9
 obtain⟨zmn,zmo,zmp,oz⟩:=m
 simp only at g1 g2 g3 g4 eQ b9
 subst g1 g2
 rw[xS bY GG]at eQ
 have vU:(gH e (.st hY::se) (.cr l::xs)).map aF.r= .st hY::se:=by simp only[gH,List.map_cons,a4]
 have Ci:=yL vU
 have hs:=g3 (ch _ (gH e (.st hY::se) (.cr l::xs))) (by
  cases Ch with
  |true=>rw[g4 rfl];trivial
  |false=>
   have:=b9 rfl
   rw[xS bY GG]at this
   exact this)
 simp only at hs
 rw[Ci]at hs
 generalize ay:oz (ch (.st hY::se) (gH e (.st hY::se) (.cr l::xs)))=y at hs eQ
 have Fp:=zj8 (M:=M) (c:=⟨GH,Cg,.st hY::se,.st hY::nE,Ch⟩) GG eQ
 obtain⟨d0,tO,nf,oE,hdr⟩:=lS (tM (rs:=.st hY::nE) (x:=y))
 obtain⟨zkd,di⟩:=d0
 simp only at oE
 subst oE
 simp only[nf]at hs Fp
 rw[a3 sR]at cg a2
 have hs:=hs.arg (.cons (Sub.refl _) cg)
 have bj:aE (cF G e S.h) id=some (.box bt (ab.bX G e l)):=by rw[er,ah];rfl
 have l0:=dN.zj1 (R:=fun r cs'=>r=GB (⟨.st hY,di⟩::tO)∧cs'=yN (⟨.st hY,di⟩::tO)) (σ:=cF G e S.h) (n:=S.n) hs a2 (Eg _) (fun r cs' ⟨cR,c7⟩=>⟨by
  rw[cR]
  have hsc:ni (tO.map aF.ft)=true:=Pf fun d hd=>by
   have:d.r∈nE:=by rw[←hdr];exact List.mem_map_of_mem hd
   exact List.all_eq_true.1 xb d.r this
  unfold GB;simp only[List.tail_cons]
  split
  ·rename_i v ax
   rw[ax]at hsc;simpa[ni]using hsc
  ·exact hsc,by rw[c7];exact zka rfl uV⟩) bj dJ
 have aJ:=Fp 0 ⟨.st hY,di⟩ rfl
 rw[Nat.add_zero]at aJ
 have hlen:pS (.st hY::nE) S.k+1+nE.length≤S.k+(iM ⟨GH,Cg,.st hY::se,.st hY::nE,Ch⟩ (.cr l::xs) S.k).length:=by
  cases nE with
  |nil=>simp[pS,iM]
  |cons r q=>simp only[pS,iM,List.length_cons,Ph];omega
 have zke:pS (.st hY::nE) S.k<S.k+(iM ⟨GH,Cg,.st hY::se,.st hY::nE,Ch⟩ (.cr l::xs) S.k).length:=by omega
 refine l0.res fun r b0 ⟨cs',aa,ae,au⟩=>⟨_,_,by rw[lY];rfl,?_,?_,?_,?_,bY,Nat.le_add_right _ _⟩
 ·rw[ae]
  have:=zj9 (G:=G) (k:=pS (.st hY::nE) S.k+1) hdr fun j d af=>by
   have:=Fp (j+1) d (by simpa using af)
   rw[←this]
   congr 1
   omega
  show _=ab.den G _ (ar.at (GF _ S id _) 0);unfold GF ar.at
  simp only[bd.h5,if_true];exact this.symm
 ·rw[aa,au]
  show _=cF G _ (jz S.h id _);rw[tj,xR bY ad.h];simp only[bO.den,j7.pR];rw[tc,aJ,cH];rfl
 ·refine⟨fun i x hi=>?_,FW (o:=.dv bt (iW hY (pS (.st hY::nE) S.k) 0 (eV hY))) (Gx zke) (tk (Nat.le_add_right _ _) ad.h),om (Nat.le_add_right _ _) ad.g⟩
  simp only[GF,bd.h5]at hi
  split at hi
  ·cases hi
   show(GD nE (pS (.st hY::nE) S.k+1)).lt (S.k+_)=true;unfold GD
   split
   ·have LK:pS (.st hY::[_]) S.k+1<S.k+(iM ⟨GH,Cg,.st hY::se,.st hY::[_],Ch⟩ (.cr l::xs) S.k).length:=hlen
    exact Pk LK
   ·simp only[ab.lt]
    exact Cc hlen
  ·simp[bd.get]at hi
 ·exact iu bY ad.g hf
end
end Go.aN
