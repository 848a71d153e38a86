/- TD, part Z: regions of drawn order, sound. Conditions: none. -/
import Derived.Test.YtmkpmgfieagphaaGreatDoorYTDy
namespace Go.aO
open Go
def xM(v:ab):Bool:=
 match v.rt with
 |some (.int _)=>true
 |some .bool=>true
 |some .str=>true
 |_=>false
def ND(P:Program)(S:aq)(t:TypeId)(id:Nat)(i:ab):Option dy:=
 match i.rt,j3 P t,dj S.h id with
 |some (.int k),some n,some (.rw _ c y)=>match Nat.beq n (b5 c)with
  |true=>some ⟨[],o2 S.g (.iz c) (.j8 c k) y i,.gr id i 0⟩
  |false=>none
 |_,_,_=>none
def NF(P:Program)(S:aq)(t:TypeId)(x i:ab):Option dy:=
 match i.rt,j3 P t,uO x with
 |some (.int k),some n,some c=>match Nat.beq n (b5 c)with
  |true=>some ⟨[.f2 (.j8 c k) x i],o2 S.g (.iz c) (.j8 c k) x i,.ip c S.k 0⟩
  |false=>none
 |_,_,_=>none
def NG(P:Program)(S:aq)(t:TypeId)(id off:Nat)(i:ab):Option dy:=
 match i.rt,ug P t,uK S (.cq id off)with
 |some (.int _),some (len,n),some _=>match i with
  | .cs (.int _ (.ofNat j))=>match Nat.blt j len,w6 (j*n) (.cq id off)with
   |true,some p=>some ⟨[],[],p⟩
   |_,_=>none
  |i=>some ⟨[],w4 S.g len i,.gq id off i n⟩
 |_,_,_=>none
def Fi(P:Program)(N:Nat)(S:aq)(t:TypeId)(x:ab)(lo hi:Option Operand):Option dy:=
 match xb N S lo,xb N S hi,x.rt,j3 P t with
 |some l,some h,some (.li c),some n=>match Nat.beq n (b5 c)with
  |true=>some ⟨[.eB c x l h],[.eB c x l h],.aQ (.li c) S.k⟩
  |false=>none
 |_,_,_,_=>none
def rD(P:Program)(N:Nat)(S:aq)(o:Oper):Option dy:=
 match o.op with
 | .move x=>some ⟨[],[],S.a8 N x⟩
 | .assign x=>some ⟨[],[],S.a8 N x⟩
 | .nilCheck x=>match sL S (S.a8 N x)with
  |true=>some ⟨[],[],S.a8 N x⟩
  |false=>none
 | .fieldAddr t x f=>match sj P t f,sL S (S.a8 N x)with
  |some k,true=>match w6 k (S.a8 N x)with
   |some p=>some ⟨[],[],p⟩
   |none=>none
  |_,_=>none
 | .load t x=>match uK S (S.a8 N x)with
  |some l=>match pL P t l with
   |some v=>some ⟨[],[],v⟩
   |none=>none
  |none=>match qd P N S o with
   |some r=>match xM r.v with
    |true=>some r
    |false=>none
   |none=>none
 | .indexAddr t x i=>match S.a8 N x with
  | .aR id=>ND P S t id (S.a8 N i)
  | .cq id off=>NG P S t id off (S.a8 N i)
  |y=>NF P S t y (S.a8 N i)
 | .slice t x lo hi none=>match Fi P N S t (S.a8 N x) lo hi with
  |some r=>some r
  |none=>match qd P N S o with
   |some r=>match xM r.v with
    |true=>some r
    |false=>none
   |none=>none
 |_=>match qd P N S o with
  |some r=>match xM r.v with
   |true=>some r
   |false=>none
  |none=>none
def m9(o:Oper):Bool:=
 match o.op with
 | .store _ _ _=>true
 | .alloc _=>true
 | .box _ _=>true
 | .buildSlice _ _ _=>true
 | .mapUpdate _ _ _ _=>true
 | .call c=>match c.callee with
  | .builtin .append=>true
  | .builtin .copy=>true
  |_=>false
 |_=>false
mutual
def ab.pure:ab→Bool
 | .aQ _ _=>true
 | .fd _ _ _ _=>true
 | .cs _=>true
 | .ip _ _ _=>true
 | .bO l=>ab.e8 l
 | .tp l=>ab.e8 l
 | .fn _ a b=>ab.e8 a&&ab.e8 b
 |_=>false
def ab.e8:List ab→Bool
 |[]=>true
 |x::r=>ab.pure x&&ab.e8 r
end
def NH(S:aq)(dst:Option Nat)(C:aq):aD:=
 match ab.pure (C.at 0)with
 |true=>.cR .cp ((⟨S.l,S.h,S.n,C.k,C.g⟩:aq).put dst (C.at 0))
 |false=>.bad 74
def rE(P:Program)(N B:Nat)(T:List (Nat × bJ))(inl:Nat→List ab→aq→aD)(o:Oper)(S:aq):aD:=
 match m9 o with
 |true=>match EH P N B T S o with
  |some r=>match gS S.k r.xs&&(r.v.lt (S.k+r.xs.length)&&eI (S.k+r.xs.length) r.h)with
   |true=>emit S.k r.xs r.ns (.cR .cp ((r.st S o.dst).eT S.k r.xs))
   |false=>.bad 31
  |none=>.bad (100+MR o)
 |false=>match qd P N S o with
  |some r=>match gS S.k r.xs&&r.v.lt (S.k+r.xs.length)with
   |true=>emit S.k r.xs r.ns (.cR .cp ((S.eT S.k r.xs).put o.dst r.v))
   |false=>.bad 30
  |none=>match Az P N S o with
   |some (f,aJ)=>match mP P f&&ab.e8 aJ with
    |true=>(inl f aJ ⟨.emp,[],0,S.k,S.g⟩).eL (NH S o.dst) none
    |false=>.bad 32
   |none=>.bad (100+MR o)
def qn(P:Program)(N B:Nat)(T:List (Nat × bJ))(inl:Nat→List ab→aq→aD)(ops:Array Oper)(o:Oper)(S:aq):aD:=
 match guardOf N ops S o with
 | .yes=>rE P N B T inl o S
 | .no=>match m9 o with
  |false=>.cR .cp (S.put o.dst (.tp []))
  |true=>.bad 73
 | .on gs=>match lG S.k gs&& !(m9 o)with
  |true=>match qd P N {S with g:=hp gs S.g} o with
   |some r=>match gS S.k r.xs&&r.v.lt (S.k+r.xs.length)with
    |true=>emit S.k r.xs (r.ns.map (qh gs)) (.cR .cp ((S.eT S.k r.xs).put o.dst (kd gs r.v)))
    |false=>.bad 35
   |none=>sV (rA S o.dst) gs (rE P N B T inl o {S with g:=hp gs S.g}) S.g
  |false=>.bad 36
 | .bad=>.bad 37
def s6(P:Program)(N:Nat)(ops:Array Oper)(o:Oper)(S:aq)(k:aq→aD):aD:=
 match guardOf N ops S o with
 | .yes=>match rD P N S o with
  |some r=>match gS S.k r.xs&&r.v.lt (S.k+r.xs.length)with
   |true=>emit S.k r.xs r.ns (k ((S.eT S.k r.xs).put o.dst r.v))
   |false=>.bad 30
  |none=>.bad 76
 | .no=>k (S.put o.dst (.tp []))
 | .on gs=>match lG S.k gs with
  |true=>match rD P N {S with g:=hp gs S.g} o with
   |some r=>match gS S.k r.xs&&r.v.lt (S.k+r.xs.length)with
    |true=>emit S.k r.xs (r.ns.map (qh gs)) (k ((S.eT S.k r.xs).put o.dst (kd gs r.v)))
    |false=>.bad 35
   |none=>.bad 76
  |false=>.bad 36
 | .bad=>.bad 37
def pop(P:Program)(N:Nat)(S:aq)(o:Oper):Bool:=
 match o.op with
 | .move _=>true
 | .assign _=>true
 | .nilCheck _=>true
 | .fieldAddr _ _ _=>true
 | .indexAddr _ _ _=>true
 | .slice t x lo hi none=>(Fi P N S t (S.a8 N x) lo hi).isSome
 |_=>false
def xN(P:Program)(N:Nat)(ops:Array Oper)(S:aq)(o:Oper):Bool:=
 match guardOf N ops S o with
 | .yes=>pop P N S o
 | .no=>true
 | .on gs=>pop P N {S with g:=hp gs S.g} o
 | .bad=>false
def zhc(P:Program)(N:Nat)(ops:Array Oper)(wr m:List Bool)(S:aq)(i:Nat):Bool:=
 match ops[i]? with
 |some o=>(Region.free .any ops m.toArray i&&(!(wr.getD i false)&&(xN P N ops S o||Fh ops wr m i)))&&(match guardOf N ops S o with
  | .yes=>(rD P N S o).isSome
  | .no=>true
  | .on gs=>(rD P N {S with g:=hp gs S.g} o).isSome
  | .bad=>false)
 |none=>false
def UT(P:Program)(N:Nat)(ops:Array Oper)(wr m:List Bool)(S:aq):List Nat→Option Nat
 |[]=>none
 |i::r=>match zhc P N ops wr m S i with
  |true=>some i
  |false=>UT P N ops wr m S r
def Fj(N:Nat)(ops:Array Oper)(S:aq)(o:Oper):List (ab × Bool):=
 match guardOf N ops S o with
 | .on gs=>gs
 |_=>[]
def NI:cc→cc→Bool
 | .d1 i f x,.d1 j g y=>Nat.beq i j&&(decide (f=g)&&eJ x y)
 | .d2 i f x y,.d2 j g u v=>(Nat.beq i j&&decide (f=g))&&(eJ x u&&eJ y v)
 | .rg i b,.rg j c=>Nat.beq i j&&eJ b c
 | .dV g b,.dV h c=>eJ g h&&decide (b=c)
 |_,_=>false
def Fk:List cc→List cc→Bool
 |[],[]=>true
 |x::l,y::m=>NI x y&&Fk l m
 |_,_=>false
def NJ:bK→bK→Bool
 | .cQ t l,.cQ u m=>Nat.beq t u&&o8 l m
 | .rw t c x,.rw u d y=>Nat.beq t u&&(decide (c=d)&&eJ x y)
 | .it u x p,.it v y q=>decide (u=v)&&(eJ x y&&eJ p q)
 |_,_=>false
def Fl:List (Nat × bK)→List (Nat × bK)→Bool
 |[],[]=>true
 |(i,x)::l,(j,y)::m=>Nat.beq i j&&(NJ x y&&Fl l m)
 |_,_=>false
def AY:bg ab→bg ab→Bool
 | .emp,.emp=>true
 | .n v l r,.n w m s=>(match v,w with
  |some x,some y=>eJ x y
  |none,none=>true
  |_,_=>false)&&(AY l m&&AY r s)
 |_,_=>false
def NK(S U:aq):Bool:=(AY S.l U.l&&Fl S.h U.h)&&((Nat.beq S.n U.n&&Nat.beq S.k U.k)&&Fk S.g U.g)
def NL:bQ→bQ→Bool
 | .ca j aJ,.ca i cY=>Nat.beq j i&&o8 aJ cY
 | .rf rs p i,.rf qs q j=>decide (rs=qs)&&(Nat.beq p q&&Nat.beq i j)
 | .f1 f x,.f1 g y=>decide (f=g)&&eJ x y
 | .f2 f x y,.f2 g u v=>decide (f=g)&&(eJ x u&&eJ y v)
 | .wT k v m x,.wT bu bp vb iP=>(decide (k=bu)&&decide (v=bp))&&(eJ m vb&&eJ x iP)
 | .uH k v m x,.uH bu bp vb iP=>(decide (k=bu)&&decide (v=bp))&&(eJ m vb&&eJ x iP)
 |_,_=>false
def NM:fi→fi→Bool
 | .f2 n f x y,.f2 m g u v=>(Nat.beq n m&&decide (f=g))&&(eJ x u&&eJ y v)
 | .ca j aJ,.ca i cY=>Nat.beq j i&&o8 aJ cY
 | .nth n x,.nth m y=>Nat.beq n m&&eJ x y
 |_,_=>false
def qo:aD→aD→Bool
 | .cR .cp S,.cR .cp U=>NK S U
 | .lt i x t,.lt j y u=>Nat.beq i j&&(NL x y&&qo t u)
 | .eH n t,.eH m u=>NM n m&&qo t u
 |_,_=>false
def AZ:List aD→aD
 |t::r=>match r.all (qo t)with
  |true=>t
  |false=>.bad 71
 |[]=>.bad 71
def vd{α:Type}:List Bool→(List Bool→α)→α
 |[],k=>k []
 |true::r,k=>vd r fun s=>k (true::s)
 |false::r,k=>vd r fun s=>k (false::s)
theorem Fm{α:Type}: ∀(m:List Bool) (k:List Bool→α),vd m k=k m
 |[],_=>rfl
 |true::r,_=>Fm r _
 |false::r,_=>Fm r _
def qp(P:Program)(N B:Nat)(T:List (Nat × bJ))(inl:Nat→List ab→aq→aD)(ops:Array Oper)(wr:List Bool):Nat→List Bool→aq→aD
 |0,m,S=>match Region.ready .any ops m.toArray with
  |[]=>.cR .cp S
  |_=>.bad 70
 |n+1,m,S=>match Region.ready .any ops m.toArray with
  |[]=>.cR .cp S
  |i::rd=>match UT P N ops wr m S (i::rd)with
   |some j=>match ops[j]?,(Region.ready .any ops m.toArray).contains j&&(Region.free .any ops m.toArray j&& !(wr.getD j false))with
    |some o,true=>match xN P N ops S o||Fh ops wr m j with
     |true=>s6 P N ops o S (vd (m.set j true) (qp P N B T inl ops wr n))
     |false=>.bad 79
    |_,_=>.bad 77
   |none=>match rd,ops[i]? with
    |[],some o=>match decide (wr.getD i false=m9 o)with
     |true=>qf N S o.dst (Fj N ops S o) (qn P N B T inl ops o S) (vd (m.set i true) (qp P N B T inl ops wr n))
     |false=>.bad 78
    |_,_=>AZ ((i::rd).map fun j=>match ops[j]? with
     |some o=>match decide (wr.getD j false=m9 o)with
      |true=>qf N S o.dst (Fj N ops S o) (qn P N B T inl ops o S) (vd (m.set j true) (qp P N B T inl ops wr n))
      |false=>.bad 78
     |none=>.bad 77)
def Fo(P:Program)(N B:Nat)(T:List (Nat × bJ))(inl:Nat→List ab→aq→aD)(ops:Array Oper)(S:aq):aD:=
 match P.follows .mixedOrders&&Region.noSelect ops with
 |true=>vd (List.replicate ops.size false) (qp P N B T inl ops (ops.toList.map m9) ops.size) S
 |false=>.bad 75
section
variable {P:Program} {G:bd} {N B:Nat} {M:List aV} {T:List (Nat × bJ)} {inl:Nat→List ab→aq→aD}
theorem zhd{v:ab}{e:Env}(h:xM v=true): ∃c,v.den G e= .aw (.v c):=by
 unfold xM at h
 split at h
 ·rename_i ag;exact⟨_,gd ag⟩
 ·rename_i ag;exact⟨_,gd ag⟩
 ·rename_i ag;exact⟨_,gd ag⟩
 ·cases h
theorem zhe{t:TypeId}{n:Nat}(h:l3 P t=some n):scalar P t=false:=by
 unfold l3 at h
 unfold scalar
 split at h<;>simp_all
theorem jO.rF{ops:Array Oper}{o:Oper}{s:aU}{v:aF}(h:mf P G o s v)(ah:dO ops s o=some true):jO P G ops o s (s.put o.dst v):=by
 intro E a w ⟨β,ro,ag⟩
 have hw:=nH (ops:=ops) ⟨β,ro,ag⟩ ah
 obtain⟨c,aa,ae⟩:=h E a w β ro ag
 exact⟨c,.inl ⟨hw,fun dA _=>aa dA⟩,β,ro,ag.put _ _ _ ae⟩
theorem UU{o:Oper}{S:aq}{t:TypeId}{x i:Operand}{r:dy}{e:Env}(ao:o.op= .indexAddr t x i)(h:NF P S t (S.a8 N x) (S.a8 N i)=some r)(hf:S.cA e)(hx: ∀(j:Nat) (x:bQ),r.xs[j]? =some x→Env.at e (S.k+j)=x.den M e)(hn: ∀n∈r.ns,n.ok M e):mf P G o (S.den G N B e) (r.v.den G e):=by
 unfold NF at h
 split at h
 ·rename_i k n c hi lE hc
  split at h
  ·rename_i ad
   cases h
   have ad:=Nat.eq_of_beq_eq_true ad
   rw[ad]at lE
   have hh:aM G (S.den G N B e) i=_:=(bM hf i).trans (jw hi)
   obtain⟨hd,Aj⟩:=Eb (G:=G) (e:=e) hc;obtain⟨g1,g2⟩:=w5 hf hi hn
   have:=SF c _ k _ ao lE hh ((bM hf x).trans hd) g1 g2
   have aP:Env.at e S.k=_:=hx 0 _ rfl
   have aa:=Tb (G:=G) (x:=List.getD ((S.a8 N x).aC e (.li c)) (Int.toNat ((S.a8 N i).aC e (.int k))) (av c)) aP
   show mf P G o _ ((ab.ip c S.k 0).den G e);rw[aa];exact this
  ·cases h
 ·cases h
theorem zhf{o:Oper}{s:aU}(t:TypeId)(x i:Operand)(ao:o.op= .indexAddr t x i){n:Nat}(aK:j3 P t=some n){k:IntKind}{j:Nat}(hi:aM G s i= .aw (.v (.int k (j:Int)))){p:aF}(ak:l8 s.heap n j (aM G s x)=some p):
 mf P G o s p:=
 fun _ a w β ro ag=>by
  obtain⟨c8,len,cap,hc,af,dD⟩:=RE ag.heap (ag.eval x) ak;obtain⟨e,hu,bY⟩:=zw aK;refine⟨_,fun dA=>?_,dD⟩
  have oj:(0:Int)≤j∧(j:Int)<len:=⟨by omega,by omega⟩
  simp[execOp,ao,hc,ag.ee hi,Instr.indexAt,asIntOf,run_underlying hu,af,bY]
theorem UW{o:Oper}{S:aq}{t:TypeId}{x i:Operand}{id:Nat}{r:dy}{e:Env}(ao:o.op= .indexAddr t x i)(bh:S.a8 N x= .aR id)(h:ND P S t id (S.a8 N i)=some r)(hf:S.cA e)(hx: ∀(j:Nat) (x:bQ),r.xs[j]? =some x→Env.at e (S.k+j)=x.den M e)(hn: ∀n∈r.ns,n.ok M e):mf P G o (S.den G N B e) (r.v.den G e):=by
 unfold ND at h
 split at h
 ·rename_i k n bI c y hi lE ah
  split at h
  ·rename_i ad
   cases h
   have ad:=Nat.eq_of_beq_eq_true ad
   have hh:aM G (S.den G N B e) i=_:=(bM hf i).trans (jw hi)
   obtain⟨g1,g2⟩:=w5 hf hi hn;obtain⟨j,af⟩: ∃j:Nat,(S.a8 N i).aC e (.int k)=(j:Int):=⟨_,(Int.toNat_of_nonneg g1).symm⟩;rw[af]at hh g2
   have g2:(j:Int)<((List.length (y.aC e (.li c)):Nat):Int):=g2
   have:=zhf (P:=P) (o:=o) t x i ao lE hh (p:=.c6 id j 0) (by
    rw[bM hf,bh];simp only[ab.den,l8,aq.den,eh,ah,Option.map_some,bK.den]
    rw[if_pos ⟨ad.symm,by rw[List.length_map];omega⟩])
   simp only[ab.den,lD hi,af,Int.toNat_natCast];exact this
  ·cases h
 ·cases h
theorem UX{o:Oper}{s:aU}(t:TypeId)(x i:Operand)(ao:o.op= .indexAddr t x i){len n:Nat}(aK:ug P t=some (len,n)){k:IntKind}{j:Nat}(hi:aM G s i= .aw (.v (.int k (j:Int))))(af:j<len)
 {cs:List aF}(dL:fr s.heap (aM G s x)=some cs){p:aF}(ak:iQ (j*n) (aM G s x)=some p):
 mf P G o s p:=
 fun _ a w β ro ag=>by
  obtain⟨c8,hc,dD⟩:=QY ak dL (ag.eval x);unfold ug at aK
  split at aK
  ·rename_i m e hu
   cases uh:P.info? e with
   |none=>simp[uh]at aK
   |some zdr=>
    simp[uh]at aK;obtain⟨rfl,rfl⟩:=aK;refine⟨_,fun dA=>?_,dD⟩
    simp[execOp,ao,hc,ag.ee hi,Instr.indexAt,asIntOf,run_underlying hu,Instr.sureAddr,af,sizeOf,typeInfo,uh]
  ·cases aK
theorem UY{o:Oper}{S:aq}{t:TypeId}{x i:Operand}{id off:Nat}{r:dy}{e:Env}(ao:o.op= .indexAddr t x i)(bh:S.a8 N x= .cq id off)(h:NG P S t id off (S.a8 N i)=some r)(hf:S.cA e)(hn: ∀n∈r.ns,n.ok M e):mf P G o (S.den G N B e) (r.v.den G e):=by
 unfold NG at h
 split at h
 ·rename_i k len n l hi ba ar
  have hh:aM G (S.den G N B e) i=_:=(bM hf i).trans (jw hi)
  have dL:=Af (G:=G) (N:=N) (B:=B) (e:=e) ar
  have jx:aM G (S.den G N B e) x=(ab.cq id off).den G e:=by rw[bM hf,bh]
  rw[←jx]at dL
  split at h
  ·rename_i bu j af
   split at h
   ·rename_i p cU ak
    cases h;refine UX t x i ao ba (k:=bu) (j:=j) (by rw[bM hf,af];rfl) (fb cU) dL ?_
    have ai:=Ag (G:=G) (e:=e) ak
    rw[←ai,jx];rfl
   ·cases h
  ·cases h
   have jq:0≤cr ((S.a8 N i).dyn e)∧cr ((S.a8 N i).dyn e)<(len:Int):=DY hf hn
   obtain⟨j,af⟩: ∃j:Nat,cr ((S.a8 N i).dyn e)=(j:Int):=⟨_,(Int.toNat_of_nonneg jq.1).symm⟩;rw[←lD hi,af]at hh;refine UX t x i ao ba hh (by omega) dL ?_
   rw[jx];simp only[ab.den,iQ,af,Int.toNat_natCast]
 ·cases h
theorem UZ{o:Oper}{S:aq}{t:TypeId}{x:Operand}{lo hi:Option Operand}{r:dy}{e:Env}(ao:o.op= .slice t x lo hi none)(h:Fi P N S t (S.a8 N x) lo hi=some r)(hf:S.cA e)(hx: ∀(j:Nat) (x:bQ),r.xs[j]? =some x→Env.at e (S.k+j)=x.den M e)(hn: ∀n∈r.ns,n.ok M e):mf P G o (S.den G N B e) (r.v.den G e):=by
 unfold Fi at h
 split at h
 ·rename_i l h' c n ar bk ag lE
  split at h
  ·rename_i ad
   cases h;rw[Nat.eq_of_beq_eq_true ad]at lE
   have aP:Env.at e S.k=_:=hx 0 _ rfl
   simp only[ab.den,aP,bQ.den,cI];exact SU c _ ao lE ((bM hf x).trans (gd ag)) (xd hf ar) (xd hf bk) (hn _ (List.mem_singleton.2 rfl))
  ·cases h
 ·cases h
theorem zhg{ops:Array Oper}{o:Oper}{S:aq}{r:dy}{e:Env}(h:rD P N S o=some r)(hf:S.cA e)(hx: ∀(j:Nat) (x:bQ),r.xs[j]? =some x→Env.at e (S.k+j)=x.den M e)(hn: ∀n∈r.ns,n.ok M e)(ah:dO ops (S.den G N B e) o=some true):
 jO P G ops o (S.den G N B e) ((S.den G N B e).put o.dst (r.v.den G e)):=by
 have key:(match qd P N S o with
  |some r=>match xM r.v with
   |true=>some r
   |false=>none
  |none=>none)=some r→jO P G ops o (S.den G N B e) ((S.den G N B e).put o.dst (r.v.den G e)):=fun h=>by
  split at h
  ·rename_i eV ax
   split at h
   ·rename_i hc
    cases h
    have dH:=uR (G:=G) (B:=B) (M:=M) ax e hf hx hn
    obtain⟨c,zhh⟩:=zhd (G:=G) (e:=e) hc;rw[zhh]at dH⊢;exact jO.q6 dH ah
   ·cases h
  ·cases h
 unfold rD at h
 split at h
 ·rename_i x ao
  cases h
  have:j6 P G o (S.den G N B e)=some ((S.a8 N x).den G e):=by unfold j6;rw[ao,←bM hf]
  exact(hj.val this ah).l
 ·rename_i x ao
  cases h
  have:j6 P G o (S.den G N B e)=some ((S.a8 N x).den G e):=by unfold j6;rw[ao,←bM hf]
  exact(hj.val this ah).l
 ·rename_i x ao
  split at h
  ·rename_i ak
   cases h
   have:j6 P G o (S.den G N B e)=some ((S.a8 N x).den G e):=by
    unfold j6;rw[ao];simp only[bM hf,uM ak]
   exact(hj.val this ah).l
  ·cases h
 ·rename_i t x f ao
  split at h
  ·rename_i k aj ak
   split at h
   ·rename_i p ai
    cases h
    have:j6 P G o (S.den G N B e)=some (p.den G e):=by
     unfold j6;rw[ao];simp only[aj,bM hf,uM ak,Ag ai]
    exact(hj.val this ah).l
   ·cases h
  ·cases h
 ·rename_i t x ao
  split at h
  ·rename_i l ar
   split at h
   ·rename_i v ax
    cases h
    have hc:=Af (G:=G) (N:=N) (B:=B) (e:=e) ar
    have:DE P G o (S.den G N B e)=some (v.den G e):=by
     unfold DE;rw[ao];simp only[bM hf,hc]
     rcases Ug (G:=G) (e:=e) ax with⟨n,g1,g2,g3,g4⟩|⟨g1,g2,eV,g3⟩
     ·cases l with
      |nil=>simp at g2;omega
      |cons y l=>
       have ai:scalar P t=false:=zhe g1
       rw[g4];simp only[ab.bX,ai,g1];rw[if_pos ⟨by simpa[lZ]using g2,g3⟩]
     ·subst g3
      simp only[ab.bX,g2]
    exact jO.load this ah
   ·cases h
  ·exact key h
 ·rename_i t x i ao
  split at h
  ·rename_i id bh
   exact jO.rF (UW ao bh h hf hx hn) ah
  ·rename_i id off bh
   exact jO.rF (UY ao bh h hf hn) ah
  ·exact jO.rF (UU ao h hf hx hn) ah
 ·rename_i t x lo hi ao
  split at h
  ·rename_i eV ai
   cases h;exact jO.rF (UZ ao ai hf hx hn) ah
  ·exact key h
 ·exact key h
mutual
theorem U0{e:Env}: ∀{x:ab},ab.pure x=true→fH (x.den G e)=true:=fun {x} h=>by
 cases x with
 |bO l=>simp only[ab.den,fH];exact xO (l:=l) h
 |tp l=>simp only[ab.den,fH];exact xO (l:=l) h
 |fn f a b=>
  simp only[ab.pure,Bool.and_eq_true]at h;simp only[ab.den,fH,xO h.1,xO h.2,Bool.and_self]
 |cq k o=>cases h
 |gr k x o=>cases h
 |gq k o x n=>cases h
 |cY k n=>cases h
 |fl g i o=>cases h
 |aR k=>cases h
 |gR k=>cases h
 |fL g b x=>cases h
 |lB g o=>cases h
 |top=>cases h
 |_=>rfl
theorem xO{e:Env}: ∀{l:List ab},ab.e8 l=true→e8 (ab.bX G e l)=true:=fun {l} h=>by
 match l with
 |[]=>rfl
 |x::r=>
  simp only[ab.e8,Bool.and_eq_true]at h;simp only[ab.bX,e8,U0 h.1,xO h.2,Bool.and_self]
end
def s7(G:bd)(N B:Nat)(M:List aV)(t:aD)(e:Env)(a1:Nat):aU→Prop:=fun st=>
 ∃aZ aE,run M t e=some (.cp,aZ,aE)∧aZ.cz∧aZ.cA aE∧b3 a1 e aE∧a1≤aZ.k∧st=aZ.den G N B aE
theorem U1(b2:fE P G M inl){ops:Array Oper}{o:Oper}{S:aq}{e:Env}(ad:S.cz)(hf:S.cA e)(ai:(rE P N B T inl o S).safe M e)(ah:dO ops (S.den G N B e) o=some true):
 (m9 o=true→NC P G ops o (S.den G N B e) (s7 G N B M (rE P N B T inl o S) e S.k))∧(m9 o=false→kf P G ops o (S.den G N B e) (s7 G N B M (rE P N B T inl o S) e S.k)):=by
 refine⟨fun hw=>?_,fun hw=>?_⟩
 ·unfold rE at ai⊢
  rw[hw]at ai⊢;simp only at ai⊢
  split at ai
  ·rename_i r aN
   split at ai
   ·rename_i hc
    simp only[Bool.and_eq_true]at hc;obtain⟨gO,gg⟩:=lF ai
    have bZ:b3 S.k e (dq M e S.k r.xs):=jy (Nat.le_refl _)
    have dH:=TV (G:=G) (M:=M) aN (dq M e S.k r.xs) (ic bZ ad.g hf) (jz hc.1) gO
    rw[k2 bZ ad]at dH;obtain⟨dA,eW⟩:=T1 (M:=M) (o:=o) ad hf hc.1 hc.2.1 hc.2.2;exact fun E a w ag=>⟨nH ag ah,fun K Q hK=>dH E a w ag K Q fun bf w' dY=>hK _ ⟨(r.st S o.dst).eT S.k r.xs,_,k4,dA,eW,bZ,Nat.le_add_right _ _,rfl⟩ bf w' dY⟩
   ·exact ai.elim
  ·exact ai.elim
 ·unfold rE at ai⊢
  rw[hw]at ai⊢;simp only at ai⊢
  split at ai
  ·rename_i r ax
   split at ai
   ·rename_i hc
    simp only[Bool.and_eq_true]at hc;obtain⟨gO,gg⟩:=lF ai;obtain⟨cf,a2,a3⟩:=qj (M:=M) (G:=G) (N:=N) (B:=B) ad hf hc.1
    have bZ:b3 S.k e (dq M e S.k r.xs):=jy (Nat.le_refl _)
    have dH:=uR (G:=G) (B:=B) (M:=M) ax (dq M e S.k r.xs) (ic bZ ad.g hf) (jz hc.1) gO
    rw[k2 bZ ad]at dH;exact kf.v dH ah ⟨(S.eT S.k r.xs).put o.dst r.v,_,k4,je cf hc.2,jf a2,bZ,by rw[jg];exact Nat.le_add_right _ _,by rw[ff,a3]⟩
   ·exact ai.elim
  ·split at ai
   ·rename_i f aJ uB
    split at ai
    ·rename_i gE
     simp only[Bool.and_eq_true]at gE;obtain⟨gE,NN⟩:=gE;obtain⟨g1,g2,g3⟩:=jh (inl f aJ ⟨.emp,[],0,S.k,S.g⟩) none ai;obtain⟨p,q',args,mF,uU,bR⟩:=T3 (G:=G) (B:=B) uB hf ad
     have Hu:(⟨.emp,[],0,S.k,S.g⟩:aq).cz:=⟨fun i x hx=>by simp[bg.get]at hx,rfl,ad.g⟩
     have hg:=b2 f _ ⟨.emp,[],0,S.k,S.g⟩ e Hu bR hf g1
     have xP:=xO (G:=G) (e:=e) NN
     rw[mF]at hg xP;refine kf.call uU gE ah xP hg fun r b1 ⟨C,aB,aY,bW,cK,eo,iw,kp,jF⟩=>?_
     have ak:=(g3 C aB aY).1
     have kc:ab.pure (C.at 0)=true:=by
      unfold NH at ak
      split at ak
      ·assumption
      ·exact ak.elim
     refine⟨by rw[bW];exact U0 kc,(⟨S.l,S.h,S.n,C.k,C.g⟩:aq).put o.dst (C.at 0),aB,?_,?_,jf iw,kp,by rw[jg];exact jF,?_⟩
     ·rw[g2,aY]
      simp only[iF,NH,kc];rfl
     ·refine je ⟨fun i x hx=>gG jF (ad.l i x hx),sJ jF ad.h,eo.g⟩ ?_
      show(C.at 0).lt C.k=true;unfold aq.at
      cases gw:C.l.get 0 with
      |none=>rfl
      |some y=>exact eo.l 0 y gw
     ·rw[ff,bW]
      have:=k2 (G:=G) (N:=N) (B:=B) (S:=S) kp ad
      have ae:(aq.mk S.l S.h S.n C.k C.g).den G N B aB=S.den G N B e:=this
      rw[ae]
    ·exact ai.elim
   ·exact ai.elim
theorem zhi{o:Oper}{S:aq}{e:Env}(ad:S.cz)(hf:S.cA e):s7 G N B M (.cR .cp (S.put o.dst (.tp []))) e S.k ((S.den G N B e).put o.dst (.tuple [])):=
 ⟨S.put o.dst (.tp []),e,rfl,je ad rfl,jf hf,b3.refl _ _,by rw[jg];exact Nat.le_refl _,by rw[ff];rfl⟩
theorem kf.mono{ops:Array Oper}{o:Oper}{s:aU}{A U2:aU→Prop}(h:kf P G ops o s A)(dt: ∀t,A t→U2 t):kf P G ops o s U2:=fun E a w ag=>by
 rcases h E a w ag with⟨aa,ae⟩|⟨aa,t,ae,au⟩
 ·exact .inl ⟨aa,fun K Q hK=>ae K Q fun t aK=>hK t (dt t aK)⟩
 ·exact .inr ⟨aa,t,dt t ae,au⟩
theorem U3(b2:fE P G M inl){ops:Array Oper}{o:Oper}{S:aq}{e:Env}(ad:S.cz)(hf:S.cA e)(ai:(qn P N B T inl ops o S).safe M e):
 (m9 o=true→NC P G ops o (S.den G N B e) (s7 G N B M (qn P N B T inl ops o S) e S.k))∧(m9 o=false→kf P G ops o (S.den G N B e) (s7 G N B M (qn P N B T inl ops o S) e S.k)):=by
 have ah:=MY (G:=G) (N:=N) (B:=B) (ops:=ops) (o:=o) hf
 unfold qn at ai⊢
 cases iZ:guardOf N ops S o with
 |yes=>
  rw[iZ]at ah ai;exact U1 b2 ad hf ai ah
 |no=>
  rw[iZ]at ah ai;simp only at ai⊢
  split at ai
  ·rename_i hw
   exact⟨fun h=>(by rw[hw]at h;cases h),fun _=>.no ah (zhi ad hf)⟩
  ·exact ai.elim
 |bad=>rw[iZ]at ai;exact ai.elim
 |on gs=>
  rw[iZ]at ah ai;simp only at ai⊢;obtain⟨g1,g2⟩:=ah
  split at ai
  ·rename_i U4
   simp only[Bool.and_eq_true,Bool.not_eq_true']at U4;obtain⟨kB,hw⟩:=U4;refine⟨fun h=>(by rw[hw]at h;cases h),fun _=>?_⟩
   split at ai
   ·rename_i q ax
    split at ai
    ·rename_i hc
     simp only[Bool.and_eq_true]at hc;obtain⟨gO,gg⟩:=lF ai;obtain⟨cf,a2,a3⟩:=qj (M:=M) (G:=G) (N:=N) (B:=B) ad hf hc.1
     have bZ:b3 S.k e (dq M e S.k q.xs):=jy (Nat.le_refl _)
     have h4:fP (dq M e S.k q.xs) gs=fP e gs:=ES bZ kB
     have aj:S.k≤S.k+q.xs.length:=Nat.le_add_right _ _
     have fF:(kd gs q.v).lt (S.k+q.xs.length)=true:=EP (ER aj kB) hc.2
     have hI: ∀t,t=(S.den G N B e).put o.dst ((kd gs q.v).den G (dq M e S.k q.xs))→s7 G N B M (emit S.k q.xs (q.ns.map (qh gs)) (.cR .cp ((S.eT S.k q.xs).put o.dst (kd gs q.v)))) e S.k t:=fun t aK=>
      ⟨(S.eT S.k q.xs).put o.dst (kd gs q.v),_,k4,je cf fF,jf a2,bZ,by rw[jg];exact Nat.le_add_right _ _,by rw[ff,a3,aK]⟩
     cases fw:fP e gs with
     |true=>
      have hZ:=xy hf fw
      have ia:=xx ad kB
      have dH:=uR (G:=G) (B:=B) (M:=M) ax (dq M e S.k q.xs) (ic bZ ia.g hZ) (jz hc.1) fun n hn=>EV (gO (qh gs n) (List.mem_map.2 ⟨n,hn,rfl⟩)) (h4.trans fw)
      have xA:({S with g:=hp gs S.g}:aq).den G N B (dq M e S.k q.xs)=S.den G N B e:=k2 (S:={S with g:=hp gs S.g}) bZ ia
      rw[xA]at dH;exact kf.v dH (g1 fw) (hI _ (by rw[ET (h4.trans fw)]))
     |false=>exact kf.no (g2 fw) (hI _ (by rw[EU (h4.trans fw)]))
    ·exact ai.elim
   ·cases fw:fP e gs with
    |false=>
     obtain⟨gz,da,dm,gy⟩:=M1 (M:=M) (x:=rE P N B T inl o {S with g:=hp gs S.g}) (y:=rA S o.dst) (l:=S.g) fw kB ad.g hf
     obtain⟨aZ,rv,ph,M5,M6,M7⟩:=Ua (G:=G) (N:=N) (B:=B) (dst:=o.dst) ad dm gy;exact kf.no (g2 fw) ⟨aZ,e,by rw[da,rv];rfl,ph,M5,b3.refl _ _,M6,M7.symm⟩
    |true=>
     have hZ:=xy hf fw
     have ia:=xx ad kB
     obtain⟨f1,f2⟩:=M0 (M:=M) (x:=rE P N B T inl o {S with g:=hp gs S.g}) (y:=rA S o.dst) (l:=S.g) fw
     refine kf.mono ((U1 b2 (S:={S with g:=hp gs S.g}) ia hZ (f2 ai) (g1 fw)).2 hw) fun t ⟨aZ,aE,aa,ae⟩=>⟨aZ,aE,?_,ae⟩
     rw[f1];exact aa
  ·exact ai.elim
theorem U5{ops:Array Oper}{o:Oper}{S:aq}{e:Env}{k:aq→aD}(X:aU→aU→Prop)(c:aq→Prop)
 (ar: ∀(S:aq) (r:dy) (e:Env),c S→rD P N S o=some r→S.cA e→(∀(j:Nat) (x:bQ),r.xs[j]? =some x→Env.at e (S.k+j)=x.den M e)→(∀n∈r.ns,n.ok M e)→dO ops (S.den G N B e) o=some true→X (S.den G N B e) ((S.den G N B e).put o.dst (r.v.den G e)))
 (aj: ∀s,dO ops s o=some false→X s (s.put o.dst (.tuple [])))(gw:guardOf N ops S o= .yes→c S)(Dh: ∀gs,guardOf N ops S o= .on gs→c {S with g:=hp gs S.g})(ad:S.cz)(hf:S.cA e)(ai:(s6 P N ops o S k).safe M e):
 ∃aZ aE,aZ.cz∧aZ.cA aE∧b3 S.k e aE∧S.k≤aZ.k∧(k aZ).safe M aE∧run M (s6 P N ops o S k) e=run M (k aZ) aE∧X (S.den G N B e) (aZ.den G N B aE):=by
 have ah:=MY (G:=G) (N:=N) (B:=B) (ops:=ops) (o:=o) hf
 unfold s6 at ai⊢
 cases iZ:guardOf N ops S o with
 |bad=>rw[iZ]at ai;exact ai.elim
 |no=>
  rw[iZ]at ah ai
  have:=aj _ ah
  exact⟨S.put o.dst (.tp []),e,je ad rfl,jf hf,b3.refl _ _,by rw[jg];exact Nat.le_refl _,ai,rfl,by rw[ff];exact this⟩
 |yes=>
  rw[iZ]at ah ai;simp only at ai⊢
  split at ai
  ·rename_i q ax
   split at ai
   ·rename_i hc
    simp only[Bool.and_eq_true]at hc;obtain⟨gO,gg⟩:=lF ai;obtain⟨cf,a2,a3⟩:=qj (M:=M) (G:=G) (N:=N) (B:=B) ad hf hc.1
    have bZ:b3 S.k e (dq M e S.k q.xs):=jy (Nat.le_refl _)
    have hd:=k2 (G:=G) (N:=N) (B:=B) bZ ad
    have dH:=ar _ _ _ (gw iZ) ax (ic bZ ad.g hf) (jz hc.1) gO (by rw[hd];exact ah)
    rw[hd]at dH;exact⟨(S.eT S.k q.xs).put o.dst q.v,_,je cf hc.2,jf a2,bZ,by rw[jg];exact Nat.le_add_right _ _,gg,k4,by rw[ff,a3];exact dH⟩
   ·exact ai.elim
  ·exact ai.elim
 |on gs=>
  rw[iZ]at ah ai;simp only at ai⊢;obtain⟨g1,g2⟩:=ah
  split at ai
  ·rename_i kB
   split at ai
   ·rename_i q ax
    split at ai
    ·rename_i hc
     simp only[Bool.and_eq_true]at hc;obtain⟨gO,gg⟩:=lF ai;obtain⟨cf,a2,a3⟩:=qj (M:=M) (G:=G) (N:=N) (B:=B) ad hf hc.1
     have bZ:b3 S.k e (dq M e S.k q.xs):=jy (Nat.le_refl _)
     have h4:fP (dq M e S.k q.xs) gs=fP e gs:=ES bZ kB
     have qJ:S.k≤S.k+q.xs.length:=Nat.le_add_right _ _
     have fF:(kd gs q.v).lt (S.k+q.xs.length)=true:=EP (ER qJ kB) hc.2
     refine⟨(S.eT S.k q.xs).put o.dst (kd gs q.v),_,je cf fF,jf a2,bZ,by rw[jg];exact Nat.le_add_right _ _,gg,k4,?_⟩
     rw[ff,a3]
     cases fw:fP e gs with
     |true=>
      have hZ:=xy hf fw
      have ia:=xx ad kB
      have xA:({S with g:=hp gs S.g}:aq).den G N B (dq M e S.k q.xs)=S.den G N B e:=k2 (S:={S with g:=hp gs S.g}) bZ ia
      have dH:=ar _ _ _ (Dh gs iZ) ax (ic bZ ia.g hZ) (jz hc.1) (fun n hn=>EV (gO (qh gs n) (List.mem_map.2 ⟨n,hn,rfl⟩)) (h4.trans fw)) (by rw[xA];exact g1 fw)
      rw[xA]at dH;rw[ET (h4.trans fw)];exact dH
     |false=>
      rw[EU (h4.trans fw)];exact aj _ (g2 fw)
    ·exact ai.elim
   ·exact ai.elim
  ·exact ai.elim
theorem zhj{ops:Array Oper}{o:Oper}{S:aq}{e:Env}{k:aq→aD}(ad:S.cz)(hf:S.cA e)(ai:(s6 P N ops o S k).safe M e):
 ∃aZ aE,aZ.cz∧aZ.cA aE∧b3 S.k e aE∧S.k≤aZ.k∧(k aZ).safe M aE∧run M (s6 P N ops o S k) e=run M (k aZ) aE∧jO P G ops o (S.den G N B e) (aZ.den G N B aE):=
 U5 (jO P G ops o) (fun _=>True) (fun _ _ _ _ ax hf hx hn ah=>zhg ax hf hx hn ah) (fun _ h=>(hj.skip h).l) (fun _=>trivial) (fun _ _=>trivial) ad hf ai
theorem hj.rF{ops:Array Oper}{o:Oper}{s:aU}{v:aF}(h:mf P G o s v)(ah:dO ops s o=some true):hj P G ops o s (s.put o.dst v):=by
 intro E a w ⟨β,ro,ag⟩
 have hw:=nH (ops:=ops) ⟨β,ro,ag⟩ ah
 obtain⟨c,aa,ae⟩:=h E a w β ro ag
 exact⟨c,.inl ⟨hw,aa⟩,β,ro,ag.put _ _ _ ae⟩
theorem zhk{ops:Array Oper}{o:Oper}{S:aq}{r:dy}{e:Env}(ak:pop P N S o=true)(h:rD P N S o=some r)(hf:S.cA e)(hx: ∀(j:Nat) (x:bQ),r.xs[j]? =some x→Env.at e (S.k+j)=x.den M e)(hn: ∀n∈r.ns,n.ok M e)(ah:dO ops (S.den G N B e) o=some true):
 hj P G ops o (S.den G N B e) ((S.den G N B e).put o.dst (r.v.den G e)):=by
 unfold rD at h
 unfold pop at ak
 split at h
 ·rename_i x ao
  cases h
  have:j6 P G o (S.den G N B e)=some ((S.a8 N x).den G e):=by unfold j6;rw[ao,←bM hf]
  exact hj.val this ah
 ·rename_i x ao
  cases h
  have:j6 P G o (S.den G N B e)=some ((S.a8 N x).den G e):=by unfold j6;rw[ao,←bM hf]
  exact hj.val this ah
 ·rename_i x ao
  split at h
  ·rename_i aN
   cases h
   have:j6 P G o (S.den G N B e)=some ((S.a8 N x).den G e):=by
    unfold j6;rw[ao];simp only[bM hf,uM aN]
   exact hj.val this ah
  ·cases h
 ·rename_i t x f ao
  split at h
  ·rename_i k aj aN
   split at h
   ·rename_i p ai
    cases h
    have:j6 P G o (S.den G N B e)=some (p.den G e):=by
     unfold j6;rw[ao];simp only[aj,bM hf,uM aN,Ag ai]
    exact hj.val this ah
   ·cases h
  ·cases h
 ·rename_i t x ao
  rw[ao]at ak;cases ak
 ·rename_i t x i ao
  split at h
  ·rename_i id bh
   exact hj.rF (UW ao bh h hf hx hn) ah
  ·rename_i id off bh
   exact hj.rF (UY ao bh h hf hn) ah
  ·exact hj.rF (UU ao h hf hx hn) ah
 ·rename_i t x lo hi ao
  split at h
  ·rename_i eV ai
   cases h;exact hj.rF (UZ ao ai hf hx hn) ah
  ·rename_i ai
   rw[ao]at ak;simp only[ai,Option.isSome_none]at ak;cases ak
 ·rename_i aa ae au aW bN c5 eD
  split at ak
  ·rename_i x ao;exact absurd ao (aa x)
  ·rename_i x ao;exact absurd ao (ae x)
  ·rename_i x ao;exact absurd ao (au x)
  ·rename_i t x f ao;exact absurd ao (aW t x f)
  ·rename_i t x i ao;exact absurd ao (c5 t x i)
  ·rename_i t x lo hi ao;exact absurd ao (eD t x lo hi)
  ·cases ak
theorem zhl{ops:Array Oper}{o:Oper}{S:aq}{e:Env}{k:aq→aD}(ak:xN P N ops S o=true)(ad:S.cz)(hf:S.cA e)(ai:(s6 P N ops o S k).safe M e):
 ∃aZ aE,aZ.cz∧aZ.cA aE∧b3 S.k e aE∧S.k≤aZ.k∧(k aZ).safe M aE∧run M (s6 P N ops o S k) e=run M (k aZ) aE∧hj P G ops o (S.den G N B e) (aZ.den G N B aE):=
 U5 (hj P G ops o) (fun S=>pop P N S o=true) (fun _ _ _ hc ax hf hx hn ah=>zhk hc ax hf hx hn ah) (fun _ h=>hj.skip h)
  (fun ah=>by unfold xN at ak;rw[ah]at ak;exact ak) (fun gs ah=>by unfold xN at ak;rw[ah]at ak;exact ak) ad hf ai
theorem zhm{x y:cc}(h:NI x y=true):x=y:=by
 unfold NI at h
 split at h
 ·simp only[Bool.and_eq_true,decide_eq_true_eq]at h;rw[Nat.eq_of_beq_eq_true h.1,h.2.1,e4 h.2.2]
 ·simp only[Bool.and_eq_true,decide_eq_true_eq]at h
  obtain⟨⟨aa,ae⟩,au,aW⟩:=h
  cases Nat.eq_of_beq_eq_true aa;cases ae;rw[e4 au,e4 aW]
 ·simp only[Bool.and_eq_true]at h;rw[Nat.eq_of_beq_eq_true h.1,e4 h.2]
 ·simp only[Bool.and_eq_true,decide_eq_true_eq]at h;rw[e4 h.1,h.2]
 ·cases h
theorem U6: ∀{l m:List cc},Fk l m=true→l=m
 |[],[],_=>rfl
 |[],_::_,h=>by cases h
 |_::_,[],h=>by cases h
 |x::l,y::m,h=>by
  simp only[Fk,Bool.and_eq_true]at h;rw[zhm h.1,U6 h.2]
theorem zhn{x y:bK}(h:NJ x y=true):x=y:=by
 unfold NJ at h
 split at h
 ·simp only[Bool.and_eq_true]at h;rw[Nat.eq_of_beq_eq_true h.1,rr h.2]
 ·simp only[Bool.and_eq_true,decide_eq_true_eq]at h;rw[Nat.eq_of_beq_eq_true h.1,h.2.1,e4 h.2.2]
 ·simp only[Bool.and_eq_true,decide_eq_true_eq]at h;rw[h.1,e4 h.2.1,e4 h.2.2]
 ·cases h
theorem U7: ∀{l m:List (Nat × bK)},Fl l m=true→l=m
 |[],[],_=>rfl
 |[],_::_,h=>by cases h
 |_::_,[],h=>by cases h
 |(i,x)::l,(j,y)::m,h=>by
  simp only[Fl,Bool.and_eq_true]at h;rw[Nat.eq_of_beq_eq_true h.1,zhn h.2.1,U7 h.2.2]
theorem NO: ∀{l m:bg ab},AY l m=true→l=m
 | .emp,.emp,_=>rfl
 | .emp,.n _ _ _,h=>by cases h
 | .n _ _ _,.emp,h=>by cases h
 | .n v l r,.n w m s,h=>by
  simp only[AY,Bool.and_eq_true]at h;rw[NO h.2.1,NO h.2.2]
  have aa:=h.1
  cases v<;>cases w<;>first|rfl|(cases aa;done)|(rw[e4 aa])
theorem zho{S U:aq}(h:NK S U=true):S=U:=by
 obtain⟨cf,a2,a3,a4,a5⟩:=S
 obtain⟨fY,hr,gP,sR,xg⟩:=U
 simp only[NK,Bool.and_eq_true]at h
 obtain⟨⟨aa,ae⟩,⟨au,aW⟩,bN⟩:=h
 rw[NO aa,U7 ae,Nat.eq_of_beq_eq_true au,Nat.eq_of_beq_eq_true aW,U6 bN]
theorem zhp{x y:bQ}(h:NL x y=true):x=y:=by
 unfold NL at h
 split at h<;>(try simp only[Bool.and_eq_true,decide_eq_true_eq]at h)
 ·rw[Nat.eq_of_beq_eq_true h.1,rr h.2]
 ·rw[h.1,Nat.eq_of_beq_eq_true h.2.1,Nat.eq_of_beq_eq_true h.2.2]
 ·obtain⟨aa,ae⟩:=h;subst aa;rw[e4 ae]
 ·obtain⟨aa,ae,au⟩:=h;subst aa;rw[e4 ae,e4 au]
 ·obtain⟨⟨aa,ae⟩,au,aW⟩:=h;subst aa ae;rw[e4 au,e4 aW]
 ·obtain⟨⟨aa,ae⟩,au,aW⟩:=h;subst aa ae;rw[e4 au,e4 aW]
 ·cases h
theorem zhq{x y:fi}(h:NM x y=true):x=y:=by
 unfold NM at h
 split at h<;>(try simp only[Bool.and_eq_true,decide_eq_true_eq]at h)
 ·obtain⟨⟨aa,ae⟩,au,aW⟩:=h;subst ae;rw[Nat.eq_of_beq_eq_true aa,e4 au,e4 aW]
 ·rw[Nat.eq_of_beq_eq_true h.1,rr h.2]
 ·rw[Nat.eq_of_beq_eq_true h.1,e4 h.2]
 ·cases h
theorem zhr: ∀{t u:aD},qo t u=true→t=u:=fun {t}=>by
 induction t with
 |cR x S=>
  intro u h;unfold qo at h
  split at h<;>first|(cases h;done)|skip
  all_goals rename_i heq
  all_goals first|(cases heq;rw[zho h];done)|cases heq
 |lt i x t a7=>
  intro u h
  cases u with
  |lt j y u=>
   simp only[qo,Bool.and_eq_true]at h;rw[Nat.eq_of_beq_eq_true h.1,zhp h.2.1,a7 h.2.2]
  |_=>simp[qo]at h
 |eH n t a7=>
  intro u h
  cases u with
  |eH m u=>
   simp only[qo,Bool.and_eq_true]at h;rw[zhq h.1,a7 h.2]
  |_=>simp[qo]at h
 |_=>intro u h;simp[qo]at h
theorem zhs{l:List aD}{e:Env}(h:(AZ l).safe M e): ∃S,AZ l=S∧∀t∈l,t=S:=by
 unfold AZ at h⊢
 split at h
 ·rename_i t r
  split at h
  ·rename_i ai
   refine⟨t,by simp only[ai],fun u hu=>?_⟩
   rcases List.mem_cons.1 hu with rfl|hu
   ·rfl
   ·exact(zhr (List.all_eq_true.1 ai u hu)).symm
  ·exact h.elim
 ·exact h.elim
theorem A0(b2:fE P G M inl){L:List Oper}{wr:List Bool}(kY:Region.noSelect L.toArray=true){Q:Exit→aU→Prop}: ∀(n:Nat) (m:List Bool) {S:aq} {e:Env},S.cz→S.cA e→(qp P N B T inl L.toArray wr n m S).safe M e→(∀st,h1 G N B M (qp P N B T inl L.toArray wr n m S) e S.k .normal st→Q .normal st)→fK P G L Q wr n m (S.den G N B e)
 |0,m,S,e,ad,hf,ai,ek=>by
  unfold qp at ai ek
  split at ai
  ·rename_i ag
   rw[ag]at ek;exact fK.done (ek _ ⟨.cp,S,e,rfl,trivial,cu.refl _,ad,hf,b3.refl _ _,Nat.le_refl _⟩) ag
  ·exact ai.elim
 |n+1,m,S,e,ad,hf,ai,ek=>by
  unfold qp at ai ek;simp only[Fm]at ai ek
  cases ag:Region.ready .any L.toArray m.toArray with
  |nil=>
   rw[ag]at ek;exact fK.done (ek _ ⟨.cp,S,e,rfl,trivial,cu.refl _,ad,hf,b3.refl _ _,Nat.le_refl _⟩) ag
  |cons i rd=>
   rw[ag]at ai ek;simp only at ai ek
   split at ai
   ·rename_i j lr
    rw[lr]at ek;simp only at ek
    split at ai
    ·rename_i o ao hc
     rw[ao,hc]at ek;simp only[Bool.and_eq_true,Bool.not_eq_true']at hc;simp only at ek
     split at ai
     ·rename_i xP
      rw[xP]at ek;simp only at ek
      cases U8:xN P N L.toArray S o with
      |true=>
       obtain⟨aZ,aE,s1,s2,pc,pd,pe,pf,pg⟩:=zhl (G:=G) (B:=B) U8 ad hf ai;exact fK.zg8 j (by simpa using ao) pg (A0 b2 kY n (m.set j true) s1 s2 pe fun st ak=>ek st (ak.sub pf pc pd)) kY hc.2.1 (by rw[ag];exact hc.1) hc.2.2
      |false=>
       rw[U8,Bool.false_or]at xP;obtain⟨aZ,aE,s1,s2,pc,pd,pe,pf,pg⟩:=zhj (G:=G) (B:=B) ad hf ai;exact fK.zg7 j (by simpa using ao) pg (A0 b2 kY n (m.set j true) s1 s2 pe fun st ak=>ek st (ak.sub pf pc pd)) kY hc.2.1 (by rw[ag];exact hc.1) xP
     ·exact ai.elim
    ·exact ai.elim
   ·rename_i lr
    rw[lr]at ek;simp only at ek
    split at ai
    ·rename_i o ao
     rw[ao]at ek;simp only at ek
     split at ai
     ·rename_i qq
      rw[qq]at ek
      have qq:=of_decide_eq_true qq
      simp only at ek;obtain⟨t1,_,t3⟩:=MG (G:=G) (B:=B) ad hf ai
      have next: ∀t,s7 G N B M (qn P N B T inl L.toArray o S) e S.k t→fK P G L Q wr n (m.set i true) t:=fun t ⟨aZ,aE,aa,ae,au,aW,bN,c5⟩=>by
       subst c5;obtain⟨dP,bo,da,dm,gy,pj,A1,xQ,NP⟩:=t3 aZ aE aa ae au aW bN
       have:=A0 b2 kY n (m.set i true) dm gy xQ fun st ak=>ek st (ak.sub NP pj A1)
       exact fun E a w ag=>this E a w (da E G a w ag)
      obtain⟨an,aH⟩:=U3 (G:=G) (B:=B) (T:=T) b2 ad hf t1
      cases hw:m9 o with
      |true=>exact fK.zg9 (by simpa using ao) ag (qq.trans hw) (an hw) next
      |false=>exact fK.one (by simpa using ao) ag (qq.trans hw) (aH hw) next
     ·exact ai.elim
    ·rename_i _ rd _ _ gk
     have U9: ∀st,h1 G N B M (AZ ((i::rd).map fun j=>match L.toArray[j]? with
      |some o=>match decide (wr.getD j false=m9 o)with
       |true=>qf N S o.dst (Fj N L.toArray S o) (qn P N B T inl L.toArray o S) (qp P N B T inl L.toArray wr n (m.set j true))
       |false=>.bad 78
      |none=>.bad 77)) e S.k .normal st→Q .normal st:=fun st ak=>ek st (by
      split
      ·rename_i ct l4;exact(gk ct rfl l4).elim
      ·exact ak)
     clear ek;obtain⟨U,wZ,ec⟩:=zhs ai;rw[wZ]at U9 ai;refine fK.any (by rw[ag];simp) fun j af=>?_
     rw[ag]at af
     have xR:=ec _ (List.mem_map.2 ⟨j,af,rfl⟩)
     split at xR
     ·rename_i o ao
      split at xR
      ·rename_i qq
       have qq:=of_decide_eq_true qq
       have e2:(qf N S o.dst (Fj N L.toArray S o) (qn P N B T inl L.toArray o S) (qp P N B T inl L.toArray wr n (m.set j true))).safe M e:=by rw[xR];exact ai
       obtain⟨t1,_,t3⟩:=MG (G:=G) (B:=B) ad hf e2;refine⟨o,by simpa using ao,s7 G N B M (qn P N B T inl L.toArray o S) e S.k,fun t ⟨aZ,aE,aa,ae,au,aW,bN,c5⟩=>?_,fun E a w dD=>?_⟩
       ·subst c5
        obtain⟨dP,bo,da,dm,gy,pj,A1,xQ,NP⟩:=t3 aZ aE aa ae au aW bN
        have:=A0 b2 kY n (m.set j true) dm gy xQ fun st ak=>U9 st (by rw[←xR];exact ak.sub NP pj A1)
        exact fun E a w ag=>this E a w (da E G a w ag)
       ·obtain⟨an,aH⟩:=U3 (G:=G) (B:=B) (T:=T) b2 ad hf t1
        cases hw:m9 o with
        |true=>
         obtain⟨y1,rm⟩:=an hw E a w dD;exact .inl ⟨y1,fun K Q hK=>rm K Q fun t aK bf w' dY=>hK t aK bf w' dY (.inl (qq.trans hw))⟩
        |false=>
         rcases aH hw E a w dD with⟨y1,rm⟩|⟨y1,rm⟩
         ·exact .inl ⟨y1,fun K Q hK=>rm K Q fun t aK bf w' dY aj=>hK t aK bf w' dY (.inr aj)⟩
         ·exact .inr ⟨qq.trans hw,y1,rm⟩
      ·rw[←xR]at ai;exact ai.elim
     ·rw[←xR]at ai;exact ai.elim
theorem Va(b2:fE P G M inl):Nc P G N B M (Fo P N B T inl):=by
 intro id ops S e ad hf ai
 have il:ops=ops.toList.toArray:=by simp
 rw[il]at ai⊢
 generalize ops.toList=L at ai⊢
 unfold Fo at ai⊢
 split at ai
 ·rename_i hc
  simp only[Bool.and_eq_true]at hc;rw[Fm]at ai⊢;refine b6.zhb _ (A0 b2 hc.2 _ _ ad hf ai fun st ak=>ak) hc.1 (by simp)
 ·exact ai.elim
def h5.all(P:Program)(T:List (Nat × bJ)):h5:=⟨fun N B _=>Ff N B,fun N B inl=>Fo P N B T inl⟩
theorem Hs:EX P G M (h5.all P T):=fun _ b2 _ _=>⟨UO,Va b2⟩
end
end Go.aO
namespace Go.aO
open Go
section
variable {P:Program} {G:bd} {f:FuncId} {args:List aF} {σ:Heap} {n:Nat} {R:aF→Heap→Prop}
theorem dJ.arg{q9:List aF}(h:dJ P G f args σ n R)(ba:fW q9 args):dJ P G f q9 σ n R:=by
 intro w β ro ed aa ae au aW bN
 refine h w β ro ed (by rw[aa,ba.at.1]) (fun i x hx=>?_) au aW bN
 obtain⟨y,ay,ai⟩:=ba.at.2 i x hx
 exact ai _ _ _ _ _ _ (ae i y ay)
theorem dJ.res{qO:aF→Heap→Prop}(h:dJ P G f args σ n R)(aN: ∀r b1,R r b1→qO r b1):dJ P G f args σ n qO:=by
 intro w β ro ed aa ae au aW bN
 refine Calls.mono (h w β ro ed aa ae au aW bN) fun e w' ⟨v,dK,e0,dN,ro',cT,he,c5,oB⟩=>?_
 exact⟨v,dK,e0,dN,ro',cT,he,aN _ _ c5,oB⟩
theorem kT(β:Nat→Value)(b:Nat): ¬Own ([]:Heap) β b:=fun⟨_,_,ah,_⟩=>by simp[aG]at ah
theorem dJ.frame(h:dJ P G f args [] 0 R)(ak:e8 args=true)(fS: ∀r b1,R r b1→fH r=true):dJ P G f args σ n fun r b1=>b1=σ∧∃fI,R r fI:=by
 intro w β ro ed aa ae au aW bN
 refine Calls.mono (h w β ro ed aa (fun i x hx=>nC (ae i x hx) (mO ak hx)) ⟨by simp[aG],by simp[aG],fun b _=>kT β b,au.lt⟩ aW (by simp[aG])) fun e w' ⟨v,r,fI,dN,ro',cT,he,ag,dD,hL,cL⟩=>?_
 have lu: ∀b,b<w.heap.size→w'.heap[b]? =w.heap[b]? :=fun b ad=>cL.frame b ad (kT β b)
 have ir:df ⟨w,ro,σ,β,n,[]⟩ G ⟨[],σ,n,n⟩ ⟨#[],[]⟩ w β ro:=⟨rfl,rfl,by simp,au,aW,⟨rfl,rfl,rfl,Nat.le_refl _,fun _ _ _=>rfl,fun _ h=>.inl h,fun _ h=>h,fun _ h=>.inl h,fun id _ o ah=>⟨by simp[ah],rfl⟩,bN,Nat.le_refl _⟩,Nat.le_refl _⟩
 have c2:=ir.grow (w':=w') (ro':=ro') cL.os cL.tape cL.output cL.size lu cL.jZ (fun b ad=>by
  rcases cL.jk b ad with q|q|q
  ·exact .inl q
  ·exact absurd q (kT β b)
  ·exact .inr ⟨q,hL.lt b ad⟩)
 exact⟨v,r,σ,β,ro',n,he,⟨rfl,fI,ag⟩,nC dD (fS r fI ag),c2.heap,c2.trans⟩
theorem dJ.zht{q9:List aF}(h:dJ P G f args [] 0 R)(ba:fW (h0 σ q9) args)(ak:e8 (h0 σ q9)=true)(fS: ∀r b1,R r b1→jM r=true):dJ P G f q9 σ n fun r b1=>b1=σ∧∃fI,R r fI:=by
 have h:=h.arg ba
 intro w β ro ed aa ae au aW bN
 have nz: ∀b,Own σ β b→b<w.heap.size:=fun b ⟨k,p,aj,ak,bm⟩=>(au.dh k p aj).hG ak bm
 refine Calls.mono (h w β (uq ro σ β) ed (by rw[um];exact aa) (fun i x hx=>?_) ⟨by simp[aG],by simp[aG],fun b _=>kT β b,fun b ad=>ad.elim (au.lt b) (nz b)⟩
  (aW.keep (fun _ _=>rfl) fun _ h=>.inl h) (by simp[aG])) fun e w' ⟨v,r,fI,dN,ro',cT,he,ag,dD,hL,cL⟩=>?_
 ·obtain⟨z,aS,rfl⟩:=uo _ hx
  exact nC (KO au (ae i z aS)) (mO ak hx)
 have lu: ∀b,b<w.heap.size→w'.heap[b]? =w.heap[b]? :=fun b ad=>cL.frame b ad (kT β b)
 have ir:df ⟨w,ro,σ,β,n,[]⟩ G ⟨[],σ,n,n⟩ ⟨#[],[]⟩ w β ro:=⟨rfl,rfl,by simp,au,aW,⟨rfl,rfl,rfl,Nat.le_refl _,fun _ _ _=>rfl,fun _ h=>.inl h,fun _ h=>h,fun _ h=>.inl h,fun id _ o ah=>⟨by simp[ah],rfl⟩,bN,Nat.le_refl _⟩,Nat.le_refl _⟩
 have c2:=ir.grow (w':=w') (ro':=ro) cL.os cL.tape cL.output cL.size lu (fun _ h=>h) (fun _ h=>.inl h)
 exact⟨v,r,σ,β,ro,n,he,⟨rfl,fI,ag⟩,Dt dD (fS r fI ag),c2.heap,c2.trans⟩
end
def aI.fq(d:aI):aF:=
 match d with
 |⟨.st c,x⟩=>.agg ((cj c x).map .aw)
 |⟨r,x⟩=>.aw (fJ r x)
def na(rs:List a6)(x:(fg rs).den):List aF:=(dB rs x).map aI.fq
def k9(rs:List a6)(x:(fg rs).den):aF:=
 match na rs x with
 |[v]=>v
 |l=>.tuple l
structure iy where
 f:Nat
 j:Nat
 ps:List a6
 rs:List a6
 eU:Bool
def bG(P:Program)(G:bd)(f:Nat)(m:aV):Prop:=
 ∀x:(fg m.ps).den,k8 m.pre x→dJ P G f (na m.ps x) [] 0 fun v _=>v=k9 m.rs (m.m x)
def Vb(P:Program)(G:bd)(M:List aV)(c:iy):Prop:=
 (e7 aV.d M c.j).ps=c.ps∧(e7 aV.d M c.j).rs=c.rs∧bG P G c.f (e7 aV.d M c.j)∧(c.eU=true→(e7 aV.d M c.j).pre=none)
def qL(P:Program)(G:bd)(M:List aV)(C:List iy):Prop:=∀c∈C,Vb P G M c
def A2(f:Nat):List iy→Option iy
 |[]=>none
 |c::r=>match Nat.beq c.f f with
  |true=>some c
  |false=>A2 f r
def A3(r:a6)(i:Nat):ab:=
 match r with
 | .st c=>.bO (iV c i 0 (eR c))
 |r=>.aQ r i
def ht:Nat→List a6→List ab
 |_,[]=>[]
 |i,r::rs=>A3 r i::ht (i+1) rs
def nX(rs:List a6)(p:Nat):Nat→List a6→List bQ
 |_,[]=>[]
 |i,_::r=>.rf rs p i::nX rs p (i+1) r
def a6.iE:a6→Bool
 | .st _=>true
 |r=>r.one
def a6.s8:a6→Bool
 | .int _=>true
 | .bool=>true
 | .str=>true
 | .st c=>(eR c).all a6.cmp
 |_=>false
def NQ(S:aq)(r:a6)(a:ab):Option ab:=
 match r,a with
 | .st c,.bO l=>match hl (eR c) l with
  |true=>some a
  |false=>none
 | .li c,.aR id=>match dj S.h id with
  |some (.rw _ d x)=>match decide (c=d)&&x.ew (.li c)with
   |true=>some x
   |false=>none
  |_=>none
 | .mp k v,.gR id=>match dj S.h id with
  |some (.it (.mp bu bp) _ x)=>match(hO bu k&&hO bp v)&&x.ew (.mp k v)with
   |true=>some x
   |false=>none
  |_=>none
 |r,a=>match r.one&&a.ew r with
  |true=>some a
  |false=>none
def rG(S:aq):List a6→List ab→Option (List ab)
 |[],[]=>some []
 |r::rs,a::aJ=>match NQ S r a,rG S rs aJ with
  |some x,some l=>some (x::l)
  |_,_=>none
 |_,_=>none
def s9:List ab→Bool
 |[]=>true
 | .aR _::_=>false
 | .gR _::_=>false
 |_::r=>s9 r
def iI(c:iy)(aJ:List ab)(k:Nat):List bQ:=
 match c.rs with
 |[_]=>[.ca c.j aJ]
 |rs=>.ca c.j aJ::nX rs k 0 rs
def xS(c:iy)(k:Nat):ab:=
 match c.rs with
 |[r]=>A3 r k
 |rs=>.tp (ht (k+1) rs)
def Fp(S:aq)(xs:List bQ)(v:ab):aq:={S with l:=bg.put .emp 0 v,k:=S.k+xs.length}
def Fq(c:iy)(xs:List ab):List fi:=
 match c.eU with
 |true=>[]
 |false=>[.ca c.j xs]
def NR(C:List iy)(inl:Nat→List ab→aq→aD)(f:Nat)(aJ:List ab)(S:aq):aD:=
 match A2 f C with
 |none=>inl f aJ S
 |some c=>match rG S c.ps aJ with
  |none=>inl f aJ S
  |some xs=>match c.rs.all a6.iE&&(s9 aJ||c.rs.all a6.s8)&&(ab.cV S.k xs&&ab.rz S.n (xS c S.k))with
   |true=>emit S.k (iI c xs S.k) (Fq c xs) (.cR .cp (Fp S (iI c xs S.k) (xS c S.k)))
   |false=>inl f aJ S
theorem xT: ∀{rs:List a6} {ds:List aI},ds.map aI.r=rs→dB rs (cg rs ds)=ds
 |[],[],_=>rfl
 |[],_::_,h=>by cases h
 |[r],ds,h=>by
  obtain⟨d,oU,rfl,aa,ae⟩:=ly h
  cases me ae
  subst aa;show[⟨d.r,d.aJ d.r⟩]=[d];rw[zO]
 |r::s::l,ds,h=>by
  obtain⟨d,oU,rfl,aa,ae⟩:=ly h;subst aa;show(⟨d.r,d.aJ d.r⟩:aI)::dB (s::l) (cg (s::l) oU)=d::oU;rw[zO,xT ae]
theorem ta: ∀{rs:List a6} {x:(fg rs).den},(dB rs x).map aI.r=rs
 |[],_=>rfl
 |[_],_=>rfl
 |r::s::l,x=>by
  show r::(dB (s::l) x.2).map aI.r=_;rw[ta]
section
variable {G:bd} {e:Env} {S:aq}
theorem Vc{r:a6}{x:r.den}(h: ∀c,r≠ .st c):(⟨r,x⟩:aI).fq= .aw (fJ r x):=by
 cases r with
 |st c=>exact absurd rfl (h c)
 |_=>rfl
theorem Vd{r:a6}(h:r.one=true): ∀c,r≠ .st c:=fun c hc=>by subst hc;cases h
theorem Ve{r:a6}{a:ab}(h:a.ew r=true): ∃y,a.den G e= .aw y:=by
 unfold ab.ew at h
 split at h<;>first|exact⟨_,rfl⟩|cases h
theorem Vf: ∀{rs:List a6} {l:List ab},hl rs l=true→∃ys:List bb,ab.bX G e l=ys.map .aw
 |[],[],_=>⟨[],rfl⟩
 |[],_::_,h=>by cases h
 |_::_,[],h=>by cases h
 |r::rs,x::xs,h=>by
  simp only[hl,Bool.and_eq_true]at h;obtain⟨y,ay⟩:=Ve (G:=G) (e:=e) h.1;obtain⟨ys,l5⟩:=Vf (rs:=rs) h.2;exact⟨y::ys,by simp only[ab.bX,ay,l5,List.map_cons]⟩
theorem Vg{σ:Heap}: ∀{ys:List bb},h0 σ (ys.map .aw)=ys.map .aw
 |[]=>rfl
 |y::ys=>by simp only[List.map_cons,h0,jL,Vg]
theorem zhu{r:a6}{a x:ab}(h:NQ S r a=some x):
 Sub (jL (cH G e S.h) (a.den G e)) (aI.fq ⟨r,x.get e r⟩)∧fH (jL (cH G e S.h) (a.den G e))=true∧((∀id,a≠ .aR id∧a≠ .gR id)→jL (cH G e S.h) (a.den G e)=a.den G e):=by
 unfold NQ at h
 split at h
 ·rename_i c l
  split at h
  ·rename_i ar
   cases h;obtain⟨ys,ay⟩:=Vf (G:=G) (e:=e) ar
   have ai:=zW (G:=G) (e:=e) ar
   have hd:jL (cH G e S.h) ((ab.bO l).den G e)=(ab.bO l).den G e:=by simp only[ab.den,jL,ay,Vg]
   rw[hd];refine⟨?_,by simp only[ab.den,ay,fH,Db],fun _=>rfl⟩
   simp only[ab.den];exact ai.agg
  ·cases h
 ·rename_i c id
  split at h
  ·rename_i t d y ah
   split at h
   ·rename_i hc
    cases h;simp only[Bool.and_eq_true,decide_eq_true_eq]at hc;obtain⟨rfl,hx⟩:=hc
    have bk:aG (cH G e S.h) id=some (.row false t (b5 c) (List.map (cj c) (x.aC e (.li c)))):=by rw[eh,ah];rfl
    have hd:jL (cH G e S.h) ((ab.aR id).den G e)= .aw (.aR (b5 c) (List.map (cj c) (x.aC e (.li c)))):=by simp only[ab.den,jL,bk]
    rw[hd];exact⟨lA.fq fun _ _ _ h=>.li _ _ _ h,rfl,fun h=>absurd rfl (h id).1⟩
   ·cases h
  ·cases h
 ·rename_i k v id
  split at h
  ·rename_i bu bp dx y ah
   split at h
   ·rename_i hc
    cases h;simp only[Bool.and_eq_true]at hc
    cases hk hc.1.1
    cases hk hc.1.2
    have bk:aG (cH G e S.h) id=some (.bT (jN v.agg (gm (kV k) (iC v) (x.aC e (.mp k v))))):=by rw[eh,ah];rfl
    have hd:jL (cH G e S.h) ((ab.gR id).den G e)= .aw (wJ v.agg (gm (kV k) (iC v) (x.aC e (.mp k v)))):=by simp only[ab.den,jL,bk]<;>rfl
    rw[hd];refine⟨?_,rfl,fun h=>absurd rfl (h id).2⟩
    show Sub _ (.aw (fJ (.mp k v) (x.aC e (.mp k v))));rw[S7];exact Sub.refl _
   ·cases h
  ·cases h
 ·split at h
  ·rename_i hc
   cases h;simp only[Bool.and_eq_true]at hc;obtain⟨y,ay⟩:=Ve (G:=G) (e:=e) hc.2
   have hd:jL (cH G e S.h) (a.den G e)=a.den G e:=by rw[ay];rfl
   rw[hd];refine⟨?_,by rw[ay];rfl,fun _=>rfl⟩
   rw[Vc (Vd hc.1),D9 hc.1];exact uE hc.2
  ·cases h
theorem xU: ∀{rs:List a6} {aJ xs:List ab},rG S rs aJ=some xs→
 fW (h0 (cH G e S.h) (ab.bX G e aJ)) ((gF e rs xs).map aI.fq)∧e8 (h0 (cH G e S.h) (ab.bX G e aJ))=true∧(s9 aJ=true→h0 (cH G e S.h) (ab.bX G e aJ)=ab.bX G e aJ)∧(gF e rs xs).map aI.r=rs
 |[],[],_,h=>by cases h;exact⟨.nil,rfl,fun _=>rfl,rfl⟩
 |[],_::_,_,h=>by cases h
 |_::_,[],_,h=>by cases h
 |r::rs,a::aJ,xs,h=>by
  simp only[rG]at h
  split at h
  ·rename_i x l aa ae
   cases h;obtain⟨cf,a2,a3⟩:=zhu (G:=G) (e:=e) aa;obtain⟨fY,hr,gP,sR⟩:=xU ae;refine⟨.cons cf fY,by simp only[ab.bX,h0,e8,a2,hr,Bool.and_self],fun hn=>?_,by simp only[gF,List.map_cons,sR]⟩
   have:(∀id,a≠ .aR id∧a≠ .gR id)∧s9 aJ=true:=by
    cases a<;>first|(cases hn;done)|exact⟨fun id=>⟨fun bh=>(by cases bh),fun bh=>(by cases bh)⟩,hn⟩
   simp only[ab.bX,h0,a3 this.1,gP this.2]
  ·cases h
end
section
variable {G:bd} {e:Env}
theorem zhv(d:aI):fH d.fq=true:=by
 unfold aI.fq
 split
 ·simp only[fH,Db]
 ·rfl
theorem Fs: ∀l:List aI,e8 (l.map aI.fq)=true
 |[]=>rfl
 |d::l=>by simp only[List.map_cons,e8,zhv,Fs l,Bool.and_self]
theorem NS{rs:List a6}{x:(fg rs).den}:fH (k9 rs x)=true:=by
 have h:=Fs (dB rs x)
 unfold k9 na
 split
 ·rename_i v ax
  rw[ax]at h;simpa[e8]using h
 ·exact h
theorem Vh: ∀{ds:List aI},(∀d∈ds,d.r.s8=true∧∀c,d.r≠ .st c)→mT (ds.map fun d=>.aw d.aw)=true
 |[],_=>rfl
 |d::ds,h=>by
  have aa:=h d (List.mem_cons_self ..)
  have ae:=Vh (ds:=ds) fun x hx=>h x (List.mem_cons_of_mem _ hx)
  obtain⟨r,x⟩:=d
  cases r<;>first|(exact absurd rfl (aa.2 _))|(cases aa.1;done)|exact ae
theorem Vi{d:aI}(h:d.r.s8=true):jM d.fq=true:=by
 obtain⟨r,x⟩:=d
 cases r with
 |st c=>
  show jM (.agg ((cj c x).map .aw))=true
  have hc:cj c x=(lx c x).map aI.aw:=by unfold cj;rfl
  rw[hc,List.map_map];simp only[jM];refine Vh fun d hd=>?_
  have ag:d.r∈eR c:=by
   have:=KT c x
   rw[←this];exact List.mem_map_of_mem hd
  have ba:d.r.cmp=true:=List.all_eq_true.1 (show(eR c).all _=true from h) d.r ag
  cases hd:d.r<;>rw[hd]at ba<;>first|(cases ba;done)|exact⟨rfl,fun c hc=>by cases hc⟩
 |_=>first|rfl|cases h
theorem NT: ∀{l:List aI},(∀d∈l,d.r.s8=true)→mT (l.map aI.fq)=true
 |[],_=>rfl
 |d::l,h=>by
  simp only[List.map_cons,mT,Vi (h d (List.mem_cons_self ..)),NT (l:=l) fun x hx=>h x (List.mem_cons_of_mem _ hx),Bool.and_self]
theorem zhw{rs:List a6}{x:(fg rs).den}(h:rs.all a6.s8=true):jM (k9 rs x)=true:=by
 have h:=NT (l:=dB rs x) fun d hd=>by
  have ag:d.r∈rs:=by
   have:=ta (rs:=rs) (x:=x)
   rw[←this];exact List.mem_map_of_mem hd
  exact List.all_eq_true.1 h d.r ag
 unfold k9 na
 split
 ·rename_i v ax
  rw[ax]at h;simpa[mT]using h
 ·exact h
end
section
variable {P:Program} {G:bd} {M:List aV} {C:List iy} {inl:Nat→List ab→aq→aD}
theorem Vj{f:Nat}{c:iy}: ∀{C:List iy},A2 f C=some c→c∈C∧c.f=f
 |[],h=>by cases h
 |d::r,h=>by
  unfold A2 at h
  split at h
  ·rename_i hd;cases h;exact⟨List.mem_cons_self ..,Nat.eq_of_beq_eq_true hd⟩
  ·obtain⟨aa,ae⟩:=Vj h;exact⟨List.mem_cons_of_mem _ aa,ae⟩
theorem NU(rs:List a6)(p:Nat): ∀(l:List a6) (i j:Nat),(nX rs p i l)[j]? =if j<l.length then some (.rf rs p (i+j))else none
 |[],i,j=>by simp[nX]
 |_::l,i,0=>by simp[nX]
 |_::l,i,j+1=>by
  simp only[nX,List.getElem?_cons_succ,NU rs p l (i+1) j,List.length_cons,Nat.add_lt_add_iff_right]
  have:i+1+j=i+(j+1):=by omega
  rw[this]
theorem Vk(rs:List a6)(p:Nat): ∀(l:List a6) (i k:Nat),p<k→gS k (nX rs p i l)=true
 |[],_,_,_=>rfl
 |_::l,i,k,h=>by
  simp only[nX,gS,bQ.lt,jP h,Bool.true_and];exact Vk rs p l (i+1) (k+1) (by omega)
theorem Ft{c:iy}{xs:List ab}{k:Nat}(h:ab.cV k xs=true):gS k (iI c xs k)=true:=by
 unfold iI
 split
 ·simp only[gS,bQ.lt,h,Bool.and_self]
 ·simp only[gS,bQ.lt,h,Bool.true_and]
  exact Vk _ _ _ _ _ (Nat.lt_succ_self k)
theorem NV(rs:List a6)(p:Nat): ∀(l:List a6) (i:Nat),(nX rs p i l).length=l.length
 |[],_=>rfl
 |_::l,i=>by simp[nX,NV rs p l (i+1)]
theorem NW{e:Env}{r:a6}{i:Nat}{x:r.den}(h:Env.at e i=⟨r,x⟩):(A3 r i).den G e=aI.fq ⟨r,x⟩:=by
 have ba:(Env.at e i).aJ r=x:=by rw[h,cI]
 cases r with
 |st c=>
  show aF.agg (ab.bX G e (iV c i 0 (eR c)))= .agg ((cj c x).map .aw);rw[sC,ba]
 |_=>show aF.aw (fJ _ ((Env.at e i).aJ _))= .aw (fJ _ x);rw[ba]
theorem A4{e:Env}: ∀{rs:List a6} {i:Nat} {ds:List aI},ds.map aI.r=rs→(∀j d,ds[j]? =some d→Env.at e (i+j)=d)→ab.bX G e (ht i rs)=ds.map aI.fq
 |[],i,ds,h,_=>by cases me h;rfl
 |r::rs,i,ds,h,hd=>by
  obtain⟨d,oU,rfl,aa,ae⟩:=ly h;subst aa
  have aP:=hd 0 d rfl
  simp only[ht,ab.bX,List.map_cons,List.cons.injEq];refine⟨NW (x:=d.v) aP,A4 ae fun j zhx af=>?_⟩
  have:=hd (j+1) zhx (by simpa using af)
  rw[←this];congr 1;omega
theorem Fu{c:bJ}{i k:Nat}(h:i<k): ∀{rs:List a6} {j:Nat},ab.cV k (iV c i j rs)=true
 |[],_=>rfl
 |r::rs,j=>by simp only[iV,ab.cV,ab.lt,jP h,Fu h (rs:=rs),Bool.and_self]
theorem NY{r:a6}{i k:Nat}(h:i<k):(A3 r i).lt k=true:=by
 cases r with
 |st c=>exact Fu h
 |_=>exact jP h
theorem A5: ∀{rs:List a6} {i k:Nat},i+rs.length≤k→ab.cV k (ht i rs)=true
 |[],_,_,_=>rfl
 |r::rs,i,k,h=>by
  simp only[List.length_cons]at h;simp only[ht,ab.cV,NY (r:=r) (show i<k by omega),A5 (rs:=rs) (show i+1+rs.length≤k by omega),Bool.and_self]
theorem NZ{α:Type}{d:α}: ∀{l:List α} {i:Nat} {x:α},l[i]? =some x→e7 d l i=x
 |[],_,_,h=>by cases h
 |y::l,0,x,h=>by simpa[e7]using h
 |y::l,i+1,x,h=>by
  simp only[e7];exact NZ (by simpa using h)
theorem zhy{c:iy}{xs:List ab}{k:Nat}{e:Env}{y:(fg c.rs).den}(ar:ab.cV k xs=true)(aP:Env.at (dq M e k (iI c xs k)) k=⟨fg c.rs,y⟩):
 (xS c k).den G (dq M e k (iI c xs k))=k9 c.rs y:=by
 have eM:=jz (M:=M) (e:=e) (Ft (c:=c) ar)
 obtain⟨f,Fv,ps,rs,eU⟩:=c
 show(xS ⟨f,Fv,ps,rs,eU⟩ k).den G _=k9 rs y
 match rs,y,aP,eM with
 |[],y,aP,eM=>rfl
 |[r],y,aP,eM=>exact NW aP
 |r::s::l,y,aP,eM=>
  have mQ:(dB (r::s::l) y).map aI.r=r::s::l:=ta
  have qX:k9 (r::s::l) y= .tuple ((dB (r::s::l) y).map aI.fq):=by
   unfold k9 na
   split
   ·rename_i v ax
    have:=congrArg List.length mQ
    have ae:=congrArg List.length ax
    simp only[List.length_map,List.length_cons]at this ae;simp only[List.length_nil]at ae;omega
   ·rfl
  rw[qX];show aF.tuple (ab.bX G _ (ht (k+1) (r::s::l)))=_
  congr 1
  refine A4 mQ fun j d af=>?_
  have hlen:j<(r::s::l).length:=by
   have aa:=(List.getElem?_eq_some_iff.1 af).1
   have:=congrArg List.length mQ
   rw[List.length_map]at this;omega
  have aa:=eM (j+1) (.rf (r::s::l) k j) (by
   show(bQ.ca Fv xs::nX (r::s::l) k 0 (r::s::l))[j+1]? =_
   rw[List.getElem?_cons_succ,NU,if_pos hlen,Nat.zero_add])
  rw[show k+1+j=k+(j+1)by omega,aa]
  simp only[bQ.den,aP,cI];exact NZ af
theorem zhz(qy:qL P G M C)(b2:fE P G M inl):fE P G M (NR C inl):=fun f aJ S e ad ar hf ai=>by
 unfold NR at ai⊢
 cases hc:A2 f C with
 |none=>simp only[hc]at ai⊢;exact b2 f aJ S e ad ar hf ai
 |some c=>
  simp only[hc]at ai⊢
  cases hx:rG S c.ps aJ with
  |none=>simp only[hx]at ai⊢;exact b2 f aJ S e ad ar hf ai
  |some xs=>
   simp only[hx]at ai⊢
   split at ai
   rotate_left
   ·exact b2 f aJ S e ad ar hf ai
   rename_i aj;simp only[Bool.and_eq_true]at aj;obtain⟨⟨nY,mq⟩,A6,Ef⟩:=aj;obtain⟨hm,A7⟩:=Vj hc;obtain⟨g1,g2,g3,g4⟩:=qy c hm;obtain⟨hn,_⟩:=lF ai
   have ve:=Ft (c:=c) A6
   have bZ:b3 S.k e (dq M e S.k (iI c xs S.k)):=jy (Nat.le_refl _)
   have cb:c.eU=false→fi.ok M (dq M e S.k (iI c xs S.k)) (.ca c.j xs):=fun jn=>hn _ (by unfold Fq;rw[jn];exact List.mem_singleton.2 rfl)
   obtain⟨cf,a2,a3,a4⟩:=xU (G:=G) (e:=e) hx
   have eM:=jz (M:=M) (e:=e) ve 0 (.ca c.j xs) (by unfold iI;split<;>rfl)
   obtain⟨Vl,pn,zjV,zjW,Vm⟩:=c;simp only at g1 g2 g3 g4 A7 nY mq A6 Ef ve bZ cb cf a2 a3 a4 eM hx;subst g1 g2 A7;simp only[Nat.add_zero,bQ.den]at eM;simp only[fi.ok]at cb;rw[w1 bZ A6]at eM
   have hg:=g3 (cg _ (gF e (e7 aV.d M pn).ps xs)) (by
    cases Vm with
    |true=>rw[g4 rfl];trivial
    |false=>
     have:=cb rfl
     rw[w1 bZ A6]at this
     exact this)
   have u9:na (e7 aV.d M pn).ps (cg (e7 aV.d M pn).ps (gF e (e7 aV.d M pn).ps xs))=(gF e (e7 aV.d M pn).ps xs).map aI.fq:=by
    unfold na;rw[xT a4]
   rw[u9]at hg
   have ax:=zhy (G:=G) (c:=⟨Vl,pn,(e7 aV.d M pn).ps,(e7 aV.d M pn).rs,Vm⟩) A6 eM
   have lH:dJ P G Vl (ab.bX G e aJ) (cH G e S.h) S.n fun r b1=>b1=cH G e S.h∧∃_:Heap,r=k9 (e7 aV.d M pn).rs ((e7 aV.d M pn).m (cg _ (gF e (e7 aV.d M pn).ps xs))):=by
    cases Ak:s9 aJ with
    |true=>
     rw[a3 Ak]at cf a2;exact((hg.arg cf).frame a2 fun r b1 ag=>by rw[ag];exact NS).res fun r b1 ⟨aa,fI,ae⟩=>⟨aa,fI,ae⟩
    |false=>
     rw[Ak,Bool.false_or]at mq;exact(hg.zht cf a2 fun r b1 ag=>by rw[ag];exact zhw mq).res fun r b1 ⟨aa,fI,ae⟩=>⟨aa,fI,ae⟩
   refine lH.res fun r b1 ⟨aa,_,ae⟩=>⟨_,_,by rw[k4];rfl,?_,?_,?_,?_,bZ,Nat.le_add_right _ _⟩
   ·rw[ae,←ax]
    show _=ab.den G _ (aq.at (Fp S _ _) 0);unfold Fp aq.at
    simp only[bg.hV,if_true]
   ·rw[aa];exact(w0 bZ ad.h).symm
   ·refine⟨fun i x hi=>?_,sJ (Nat.le_add_right _ _) ad.h,nP (Nat.le_add_right _ _) ad.g⟩
    simp only[Fp,bg.hV]at hi
    split at hi
    ·cases hi
     show(xS _ S.k).lt (S.k+_)=true;unfold xS iI
     split
     ·exact NY (Nat.lt_succ_self _)
     ·simp only[ab.lt]
      refine A5 ?_
      simp only[List.length_cons,NV];omega
    ·simp[bg.get]at hi
   ·exact ic bZ ad.g hf
end
end Go.aO
namespace Go.aO
open Go
section
variable {P:Program} {G:bd} {f:FuncId} {args:List aF} {R:aF→Heap→Prop}
theorem dJ.ret(eV:Prop→aF→Prop)(h:dJ P G f args [] 0 R){Q:aF→Prop}(fS: ∀r b1,R r b1→∃v,Sub (jL b1 r) v∧fH v=true∧Q v):dJ P G f args [] 0 fun v _=>Q v:=by
 intro w β ro ed aa ae au aW bN
 refine Calls.mono (h w β ro ed aa ae au aW bN) fun e w' ⟨v,r,b1,dN,ro',cT,he,ag,dD,hL,cL⟩=>?_
 obtain⟨u,hu,ak,aN⟩:=fS r b1 ag
 have nz: ∀b,Own b1 dN b→b<w'.heap.size:=fun b ⟨k,p,aj,ak,bm⟩=>(hL.dh k p aj).hG ak bm
 refine⟨v,u,[],dN,uq ro' b1 dN,cT,he,aN,nC (hu _ _ _ _ _ _ (KO hL dD)) ak,⟨by simp[aG],by simp[aG],fun b _=>kT dN b,fun b ad=>ad.elim (hL.lt b) (nz b)⟩,
  ⟨cL.os,cL.tape,cL.output,cL.size,cL.frame,fun b ad=>?_,fun b ad=>.inl (cL.jZ b ad),fun b ad=>absurd ad (kT dN b),by simp[aG],by simp[aG],cL.le⟩⟩
 rcases ad with ad|ad
 ·exact cL.jk b ad
 ·exact .inr (cL.gZ b ad)
end
def gB:Nat→List aI→Env
 |_,[]=>.emp
 |i,d::ds=>bg.put (gB (i+1) ds) i d
theorem N0: ∀{ds:List aI} {i j:Nat} {d:aI},ds[j]? =some d→Env.at (gB i ds) (i+j)=d
 |[],_,_,_,h=>by cases h
 |x::ds,i,0,d,h=>by
  have h:x=d:=by simpa using h
  simp only[gB,Env.ib,Nat.add_zero,if_true,h]
 |x::ds,i,j+1,d,h=>by
  have:=N0 (i:=i+1) (show ds[j]? =some d by simpa using h)
  simp only[gB,Env.ib];rw[if_neg (by omega),←this]
  congr 1
  omega
def vf(rs:List a6)(v:ab):List ab:=
 match rs,v with
 |[_],v=>[v]
 |_,.tp l=>l
 |_,x=>[x]
def N1(rs:List a6)(v:ab):Bool:=
 match rs,v with
 |[_],_=>true
 |_,.tp _=>true
 |_,_=>false
def Fw(rs:List a6)(C:aq):Option (List ab):=
 match N1 rs (C.at 0)with
 |true=>rG C rs (vf rs (C.at 0))
 |false=>none
def tW(rs:List a6)(C:aq):Bool:=(Fw rs C).isSome
def N2(rs:List a6)(C:aq)(e:Env):(fg rs).den:=
 match Fw rs C with
 |some l=>cg rs (gF e rs l)
 |none=>(fg rs).fz
def N3(M:List aV)(t:aD)(rs:List a6)(e:Env):(fg rs).den:=t.fold M e (fun _ C aB=>N2 rs C aB) (fg rs).fz
def pN(n:Nat):aq:=⟨.emp,[],0,n,[]⟩
section
variable {P:Program} {G:bd} {M:List aV} {C:List iy} {inl:Nat→List ab→aq→aD}
theorem zhA{rs:List a6}{S:aq}{e:Env}{l:List ab}(h:Fw rs S=some l):Sub (jL (cH G e S.h) ((S.at 0).den G e)) (k9 rs (cg rs (gF e rs l))):=by
 unfold Fw at h
 split at h
 rotate_left
 ·cases h
 rename_i aK
 obtain⟨cf,_,_,a4⟩:=xU (G:=G) (e:=e) h
 have u9:na rs (cg rs (gF e rs l))=(gF e rs l).map aI.fq:=by unfold na;rw[xT a4]
 unfold k9
 rw[u9]
 match rs,cf,a4,aK with
 |[r],cf,a4,aK=>
  obtain⟨d,oU,ax,aa,ae⟩:=ly a4
  cases me ae
  rw[ax]at cf⊢;simp only[vf,ab.bX,h0,List.map_cons,List.map_nil]at cf⊢
  cases cf with
  |cons h _=>exact h
 |[],cf,a4,aK=>
  cases ax:S.at 0 with
  |tp m=>
   rw[ax]at cf;rw[me a4];rw[me a4]at cf;exact cf.tuple
  |_=>rw[ax]at aK;cases aK
 |r::s::q,cf,a4,aK=>
  cases ax:S.at 0 with
  |tp m=>
   rw[ax]at cf
   have ar:=congrArg List.length a4
   simp only[List.length_map,List.length_cons]at ar;generalize gF e (r::s::q) l=ds at cf ar⊢
   match ds,ar with
   |d::d2::ds,_=>exact cf.tuple
  |_=>rw[ax]at aK;cases aK
theorem Vn{t:aD}{p:aq→Bool}(h:t.gA.all p=true){e aB:Env}{S:aq}(ag:run M t e=some (.cp,S,aB)):p S=true:=List.all_eq_true.1 h S (m6 ag)
theorem N4(b2:fE P G M inl){f:Nat}{m:aV}(t:aD)(aK:inl f (ht 0 m.ps) (pN m.ps.length)=t)(he:t.gA.all (tW m.rs)=true)
 (ai: ∀x,k8 m.pre x→t.safe M (gB 0 (dB m.ps x)))(hm: ∀x,k8 m.pre x→N3 M t m.rs (gB 0 (dB m.ps x))=m.m x):bG P G f m:=fun x hx=>by
 subst aK
 have ar:m.ps.length=(dB m.ps x).length:=by have:=congrArg List.length (ta (rs:=m.ps) (x:=x));rw[List.length_map]at this;exact this.symm
 have h:=b2 f (ht 0 m.ps) (pN m.ps.length) (gB 0 (dB m.ps x)) ⟨fun i x hi=>by simp[pN,bg.get]at hi,rfl,rfl⟩ (A5 (by show 0+_≤m.ps.length;omega)) (fun c hc=>by cases hc) (ai x hx)
 have hd:ab.bX G (gB 0 (dB m.ps x)) (ht 0 m.ps)=na m.ps x:=A4 ta fun j d af=>N0 af
 rw[hd]at h
 refine(dJ.ret (fun _ _=>True) h (Q:=fun v=>v=k9 m.rs (m.m x)) fun r b1 ag=>?_)
 obtain⟨aZ,aB,cy,rfl,rfl,_⟩:=ag
 have nT:=Vn he cy
 obtain⟨l,l7⟩:=Option.isSome_iff_exists.1 nT
 refine⟨_,zhA l7,NS,?_⟩
 have:=hm x hx
 unfold N3 at this
 rw[kb cy]at this
 unfold N2 at this
 rw[l7]at this
 rw[←this]
theorem zhB(b2:fE P G M inl){f:Nat}{m:aV}(t:aD)(aK:inl f (ht 0 m.ps) (pN m.ps.length)=t)(he:(t.clean&&t.gA.all (tW m.rs))=true)
 (hm: ∀x,N3 M t m.rs (gB 0 (dB m.ps x))=m.m x):bG P G f m:=by
 simp only[Bool.and_eq_true]at he
 exact N4 b2 t aK he.2 (fun _ _=>rk M he.1) fun x _=>hm x
theorem qL.nil:qL P G M []:=fun _ h=>by cases h
theorem qL.cons{c:iy}(h:Vb P G M c)(qy:qL P G M C):qL P G M (c::C):=fun d hd=>by
 rcases List.mem_cons.1 hd with rfl|hd
 ·exact h
 ·exact qy d hd
end
end Go.aO
namespace Go.aO
open Go
def aD.kg(M:List aV):aD→{X:Type}→Env→(b7→aq→Env→X)→X→X
 | .cR x S,_,e,K,_=>K x S e
 | .lt i x t,_,e,K,d=>t.kg M (bg.put e i (x.den M e)) K d
 | .eH _ t,_,e,K,d=>t.kg M e K d
 | .it g a b,_,e,K,d=>bif g.aC e .bool then a.kg M e K d else b.kg M e K d
 | .dE n a ps k,_,e,K,d=>a.kg M e (fun x S aB=>bif x.b0 n then k.kg M (fT e (fun r p=>⟨r,(p.dp S).get aB r⟩) ps) K d else K x S aB) d
 | .dW m xid du b8 ca a k,X,e,K,d=>Sum.elim (fun r=>r) (fun v=>k.kg M (bw e ca v) K d)
  (bq (fun i (v:b4 ca)=>(a.kg M (bw (bg.put e b8 ⟨.int .i64,(i:Int)⟩) ca v) (eg m xid ca K) (.cN v):Step X (b4 ca))) 0 (cr (du.den M e)).toNat (cg _ (dI e ca)))
 | .ep m xid ca a k,X,e,K,d=>Sum.elim (fun r=>r) (fun v=>k.kg M (bw e ca v) K d)
  (c7 (fun v=>(a.kg M (bw e ca v) (eg m xid ca K) (.cN v):Step X (b4 ca))) dG (cg _ (dI e ca)))
 | .bad _,_,_,_,d=>d
section
variable {M:List aV}
theorem mr: ∀(t:aD) {X:Type} (e:Env) (K:b7→aq→Env→X) (d:X),t.kg M e K d=t.fold M e K d
 | .cR _ _,_,_,_,_=>rfl
 | .lt i x t,_,e,K,d=>mr t _ K d
 | .eH _ t,_,e,K,d=>mr t _ K d
 | .it g a b,_,e,K,d=>by simp only[aD.kg,aD.fold,mr a,mr b]
 | .dE n a ps k,X,e,K,d=>by
  show a.kg M e (fun x S aB=>bif x.b0 n then k.kg M (fT e (fun r p=>⟨r,(p.dp S).get aB r⟩) ps) K d else K x S aB) d=(aD.dE n a ps k).fold M e K d
  rw[mr a]
  cases ag:run M a e with
  |none=>rw[z1 ag,sG ag]
  |some l=>
   obtain⟨x,S,aB⟩:=l;rw[kb ag]
   cases hx:x.b0 n with
   |true=>rw[cond_true,p8 ag hx,mr k]
   |false=>rw[cond_false,m0 ag hx]
 | .dW m xid du b8 ca a k,X,e,K,d=>by
  rw[wY];simp only[aD.kg,mr a,mr k]
 | .ep m xid ca a k,X,e,K,d=>by
  simp only[aD.kg,aD.fold,mr a,mr k]
 | .bad _,_,_,_,_=>rfl
def aD.wp(M:List aV):aD→Env→(b7→aq→Env→Prop)→Prop
 | .cR x S,e,Q=>Q x S e
 | .lt i x t,e,Q=>t.wp M (bg.put e i (x.den M e)) Q
 | .eH n t,e,Q=>n.ok M e∧t.wp M e Q
 | .it g a b,e,Q=>(g.aC e .bool=true→a.wp M e Q)∧(g.aC e .bool=false→b.wp M e Q)
 | .dE n a ps k,e,Q=>a.wp M e fun x S aB=>bif x.b0 n then k.wp M (fT e (fun r p=>⟨r,(p.dp S).get aB r⟩) ps) Q else Q x S aB
 | .dW m xid du b8 ca a k,e,Q=>∃I:Nat→b4 ca→Prop,I 0 (cg _ (dI e ca))∧(∀(i:Nat) (v:b4 ca),i<(cr (du.den M e)).toNat→I i v→
  a.wp M (bw (bg.put e b8 ⟨.int .i64,(i:Int)⟩) ca v) fun x S aB=>bif x.b0 m then I (i+1) (cg _ (fB S aB ca))else bif x.c9 xid then k.wp M (bw e ca (cg _ (fB S aB ca))) Q else Q x S aB)∧
  ∀v,I (cr (du.den M e)).toNat v→k.wp M (bw e ca v) Q
 | .ep m xid ca a k,e,Q=>∃(I:b4 ca→Prop) (jB:b4 ca→Nat),I (cg _ (dI e ca))∧jB (cg _ (dI e ca))<dG∧∀(v:b4 ca),I v→
  a.wp M (bw e ca v) fun x S aB=>bif x.b0 m then I (cg _ (fB S aB ca))∧jB (cg _ (fB S aB ca))<jB v else bif x.c9 xid then k.wp M (bw e ca (cg _ (fB S aB ca))) Q else Q x S aB
 | .bad _,_,_=>False
theorem Vo{R A:Type}{b:Nat→A→Step R A}(I:Nat→A→Prop)(vg:R→Prop)(tc:A→Prop)(n:Nat)(h: ∀i v,i<n→I i v→(∀r,b i v= .ret r→vg r)∧(∀bp,b i v= .cN bp→tc bp)∧∀bp,b i v= .bn bp→I (i+1) bp)
 (he: ∀v,I n v→tc v): ∀(m k:Nat) (a:A),k+m=n→I k a→(∀r,bq b k m a= .inl r→vg r)∧∀v,bq b k m a= .inr v→tc v
 |0,k,a,hn,hi=>by
  have:k=n:=by omega
  subst this;exact⟨fun r ag=>(by cases ag),fun v ax=>(by cases ax;exact he a hi)⟩
 |m+1,k,a,hn,hi=>by
  obtain⟨aa,ae,au⟩:=h k a (by omega) hi
  simp only[bq]
  cases ad:b k a with
  |ret r=>exact⟨fun eV ag=>(by cases ag;exact aa r ad),fun v ax=>(by cases ax)⟩
  |cN v=>exact⟨fun eV ag=>(by cases ag),fun bp ax=>(by cases ax;exact ae v ad)⟩
  |bn v=>exact Vo I vg tc n h he m (k+1) v (by omega) (au v ad)
theorem Vp{R A:Type}{b:A→Step R A}(I:A→Prop)(jB:A→Nat)(vg:R→Prop)(tc:A→Prop)(h: ∀v,I v→(∀r,b v= .ret r→vg r)∧(∀bp,b v= .cN bp→tc bp)∧∀bp,b v= .bn bp→I bp∧jB bp<jB v):
 ∀(m:Nat) (a:A),jB a<m→I a→j7 b m a∧(∀r,c7 b m a= .inl r→vg r)∧∀v,c7 b m a= .inr v→tc v
 |0,a,hm,_=>absurd hm (Nat.not_lt_zero _)
 |m+1,a,hm,hi=>by
  obtain⟨aa,ae,au⟩:=h a hi;simp only[c7,j7]
  cases ad:b a with
  |ret r=>exact⟨trivial,fun eV ag=>(by cases ag;exact aa r ad),fun v ax=>(by cases ax)⟩
  |cN v=>exact⟨trivial,fun eV ag=>(by cases ag),fun bp ax=>(by cases ax;exact ae v ad)⟩
  |bn v=>
   obtain⟨g1,g2⟩:=au v ad;exact Vp I jB vg tc h m v (by omega) g1
def Fx(M:List aV)(t:aD)(e:Env)(Q:b7→aq→Env→Prop):Prop:=∃x S aB,run M t e=some (x,S,aB)∧Q x S aB
theorem Vq{m xid:Nat}{ca:List hz}{a:aD}{e:Env}{v:b4 ca}{J:b4 ca→Prop}{B:b4 ca→Prop}{Q:b7→aq→Env→Prop}
 (h:Fx M a e fun x S aB=>bif x.b0 m then J (cg _ (fB S aB ca))else bif x.c9 xid then B (cg _ (fB S aB ca))else Q x S aB):
 (∀r,dg M m xid ca a e v= .ret r→∃x S aB,r=some (x,S,aB)∧Q x S aB)∧(∀bp,dg M m xid ca a e v= .cN bp→B bp)∧∀bp,dg M m xid ca a e v= .bn bp→J bp:=by
 obtain⟨x,S,aB,ag,aN⟩:=h
 unfold dg
 rw[ag]
 simp only
 cases hx:x.b0 m with
 |true=>
  rw[hx,cond_true]at aN;rw[nM hx];exact⟨fun r bk=>(by cases bk),fun bp bk=>(by cases bk),fun bp bk=>(by cases bk;exact aN)⟩
 |false=>
  rw[hx,cond_false]at aN
  cases ay:x.c9 xid with
  |true=>
   rw[ay,cond_true]at aN;rw[nN hx ay];exact⟨fun r bk=>(by cases bk),fun bp bk=>(by cases bk;exact aN),fun bp bk=>(by cases bk)⟩
  |false=>
   rw[ay,cond_false]at aN;rw[ka hx ay];exact⟨fun r bk=>(by cases bk;exact⟨_,_,_,rfl,aN⟩),fun bp bk=>(by cases bk),fun bp bk=>(by cases bk)⟩
theorem kh: ∀(t:aD) {e:Env} {Q:b7→aq→Env→Prop},t.wp M e Q→t.safe M e∧Fx M t e Q
 | .cR x S,e,Q,h=>⟨trivial,x,S,e,rfl,h⟩
 | .lt i x t,e,Q,h=>kh t (e:=bg.put e i (x.den M e)) h
 | .eH n t,e,Q,h=>⟨⟨h.1,(kh t h.2).1⟩,(kh t h.2).2⟩
 | .it g a b,e,Q,h=>by
  refine⟨⟨fun ah=>(kh a (h.1 ah)).1,fun ah=>(kh b (h.2 ah)).1⟩,?_⟩
  cases ah:g.aC e .bool with
  |true=>
   obtain⟨x,S,aB,aa,ae⟩:=(kh a (h.1 ah)).2;exact⟨x,S,aB,by rw[sW ah];exact aa,ae⟩
  |false=>
   obtain⟨x,S,aB,aa,ae⟩:=(kh b (h.2 ah)).2;exact⟨x,S,aB,by rw[sW ah];exact aa,ae⟩
 | .dE n a ps k,e,Q,h=>by
  obtain⟨aa,x,aZ,aE,ag,au⟩:=kh a h
  cases hx:x.b0 n with
  |true=>
   rw[hx,cond_true]at au;obtain⟨eP,iP,dn,aB,fx,iv⟩:=kh k au;refine⟨⟨aa,fun _=>?_⟩,iP,dn,aB,by unfold run;rw[p8 ag hx];exact fx,iv⟩
   have:(fun(r:a6) (p:ey)=>(⟨r,bif a.jv n
    then a.fold M e (fun _ S aB=>(p.dp S).get aB r) r.fz
    else a.fold M e (fun x S aB=>bif x.b0 n then(p.dp S).get aB r else r.fz) r.fz⟩:aI))=fun r p=>⟨r,(p.dp aZ).get aE r⟩:=by
    funext r p
    simp only[kb ag,hx]
    cases a.jv n<;>rfl
   rw[this];exact eP
  |false=>
   rw[hx,cond_false]at au;exact⟨⟨aa,fun af=>by rw[kb ag,hx]at af;cases af⟩,x,aZ,aE,by unfold run;rw[m0 ag hx],au⟩
 | .dW m xid du b8 ca a k,e,Q,h=>by
  obtain⟨I,aP,ad,he⟩:=h
  have p3:=fun(i:Nat) (v:b4 ca) hi ax=>kh a (ad i v hi ax)
  have A8:=fun(i:Nat) (v:b4 ca) hi ax=>Vq (v:=v) (J:=I (i+1)) (B:=fun bp=>k.wp M (bw e ca bp) Q) (Q:=Q) (p3 i v hi ax).2
  obtain⟨dA,eW⟩:=Vo I (fun r=>∃x S aB,r=some (x,S,aB)∧Q x S aB) (fun v=>k.wp M (bw e ca v) Q) (cr (du.den M e)).toNat A8 (fun v ax=>he v ax) (cr (du.den M e)).toNat 0 _ (Nat.zero_add _) aP
  have hN:(fun(i:Nat) (v:b4 ca)=>(a.fold M (bw (bg.put e b8 ⟨.int .i64,(i:Int)⟩) ca v) (eg m xid ca fun _ _ _=>()) (.cN v):Step Unit (b4 ca)))=fun(i:Nat) v=>iW (fun _=>()) (dg M m xid ca a (bw (bg.put e b8 ⟨.int .i64,(i:Int)⟩) ca v) v):=by
   funext i v
   exact iX ..
  have xv:=wU (fun _:Option mZ=>()) (b:=fun(i:Nat) v=>dg M m xid ca a (bw (bg.put e b8 ⟨.int .i64,(i:Int)⟩) ca v) v) (c:=fun(i:Nat) v=>iW (fun _=>()) (dg M m xid ca a (bw (bg.put e b8 ⟨.int .i64,(i:Int)⟩) ca v) v)) (fun _ _=>rfl) (cr (du.den M e)).toNat 0 (cg _ (dI e ca))
  refine⟨⟨⟨I,aP,fun i v hi ax=>⟨(p3 i v hi ax).1,fun bp hn=>(A8 i v hi ax).2.2 bp ?_⟩⟩,?_⟩,?_⟩
  ·rw[iX]at hn
   exact sH hn
  ·rw[hN,xv]
   cases ar:bq (fun(i:Nat) v=>dg M m xid ca a (bw (bg.put e b8 ⟨.int .i64,(i:Int)⟩) ca v) v) 0 (cr (du.den M e)).toNat (cg _ (dI e ca))with
   |inl r=>trivial
   |inr v=>exact(kh k (eW v ar)).1
  ·unfold Fx
   rw[Er]
   cases ar:bq (fun(i:Nat) v=>dg M m xid ca a (bw (bg.put e b8 ⟨.int .i64,(i:Int)⟩) ca v) v) 0 (cr (du.den M e)).toNat (cg _ (dI e ca))with
   |inl r=>exact dA r ar
   |inr v=>exact(kh k (eW v ar)).2
 | .ep m xid ca a k,e,Q,h=>by
  obtain⟨I,jB,aP,hm,ad⟩:=h
  have p3:=fun(v:b4 ca) ax=>kh a (ad v ax)
  have A8:=fun(v:b4 ca) ax=>Vq (v:=v) (J:=fun bp=>I bp∧jB bp<jB v) (B:=fun bp=>k.wp M (bw e ca bp) Q) (Q:=Q) (p3 v ax).2
  obtain⟨zhC,dA,eW⟩:=Vp I jB (fun r=>∃x S aB,r=some (x,S,aB)∧Q x S aB) (fun v=>k.wp M (bw e ca v) Q) A8 dG _ hm aP
  have hN:(fun(v:b4 ca)=>(a.fold M (bw e ca v) (eg m xid ca fun _ _ _=>()) (.cN v):Step Unit (b4 ca)))=fun v=>iW (fun _=>()) (dg M m xid ca a (bw e ca v) v):=by
   funext v
   exact iX ..
  have xv:=wV (fun _:Option mZ=>()) (b:=fun v=>dg M m xid ca a (bw e ca v) v) (c:=fun v=>iW (fun _=>()) (dg M m xid ca a (bw e ca v) v)) (fun _=>rfl) dG (cg _ (dI e ca))
  have zhD:=Lg (fun _:Option mZ=>()) (b:=fun v=>dg M m xid ca a (bw e ca v) v) (c:=fun v=>iW (fun _=>()) (dg M m xid ca a (bw e ca v) v)) (fun _=>rfl) dG (cg _ (dI e ca))
  refine⟨⟨⟨I,aP,fun v ax=>⟨(p3 v ax).1,fun bp hn=>((A8 v ax).2.2 bp ?_).1⟩⟩,?_,?_⟩,?_⟩
  ·rw[iX]at hn
   exact sH hn
  ·rw[hN]
   exact zhD.2 zhC
  ·rw[hN,xv]
   cases ar:c7 (fun v=>dg M m xid ca a (bw e ca v) v) dG (cg _ (dI e ca))with
   |inl r=>trivial
   |inr v=>exact(kh k (eW v ar)).1
  ·unfold Fx
   rw[Es]
   cases ar:c7 (fun v=>dg M m xid ca a (bw e ca v) v) dG (cg _ (dI e ca))with
   |inl r=>exact dA r ar
   |inr v=>exact(kh k (eW v ar)).2
 | .bad _,_,_,h=>h.elim
end
def vY(M:List aV)(t:aD)(rs:List a6)(e:Env):(fg rs).den:=t.kg M e (fun _ C aB=>N2 rs C aB) (fg rs).fz
section
variable {P:Program} {G:bd} {M:List aV} {inl:Nat→List ab→aq→aD}
theorem fR(b2:fE P G M inl){f:Nat}{m:aV}(t:aD)(aK:inl f (ht 0 m.ps) (pN m.ps.length)=t)(he:(t.clean&&t.gA.all (tW m.rs))=true)
 (hm: ∀x,vY M t m.rs (gB 0 (dB m.ps x))=m.m x):bG P G f m:=
 zhB b2 t aK he fun x=>by rw[←hm x];exact(mr t _ _ _).symm
theorem zhE(b2:fE P G M inl){f:Nat}{m:aV}(t:aD)(aK:inl f (ht 0 m.ps) (pN m.ps.length)=t)(he:t.gA.all (tW m.rs)=true)
 (ai: ∀x,k8 m.pre x→t.wp M (gB 0 (dB m.ps x)) fun _ _ _=>True)(hm: ∀x,vY M t m.rs (gB 0 (dB m.ps x))=m.m x):bG P G f m:=
 N4 b2 t aK he (fun x hx=>(kh t (ai x hx)).1) fun x _=>by rw[←hm x];exact(mr t _ _ _).symm
end
end Go.aO
namespace Go.aO
open Go
section
variable {P:Program} {G:bd} {f:FuncId} {args:List aF} {σ:Heap} {n:Nat}
theorem dJ.zhF{t:TypeId}{cs k7:List aF}{R:aF→List aF→Prop}(h:dJ P G f (.ptr 0 0::args) [(0,.box t cs)] 1 fun r b1=>∃cs',b1=[(0,.box t cs')]∧R r cs')(ak:e8 args=true)(dL:e8 cs=true)
 (fS: ∀r cs',R r cs'→jM r=true∧mT cs'=true){id:Nat}(bh:aG σ id=some (.box t k7))(gC:fW k7 cs):
 dJ P G f (.ptr id 0::args) σ n fun r b1=>∃cs',b1=eQ σ id (.box t cs')∧R r cs':=by
 intro w β ro ed aa ae au aW bN
 have dr:=au.dh id _ bh
 cases dr with
 |box _ _ b arr aE bo cv eC=>
  have Vr: ∀k,Own [(0,ei.box t cs)] (fun _=>β id) k→b9 (β id)=some k:=fun k ⟨i,o,ah,_,ad⟩=>ad
  have kM:gY w ro [(0,.box t cs)] (fun _=>β id) 1:=by
   refine⟨fun i o ah=>?_,fun i zx o ct k ah dX _ _ _ _=>?_,fun k aj ao=>au.fk k aj ⟨id,_,bh,rfl,Vr k ao⟩,au.lt⟩
   ·simp only[aG]at ah
    split at ah
    ·rename_i hi
     subst hi;cases ah;refine .box t cs b arr aE bo (by rw[cv,gC.at.1]) fun j x af=>?_
     obtain⟨y,ay,ai⟩:=gC.at.2 j x af;exact nC (ai _ _ _ _ _ _ (eC j y ay)) (mO dL af)
    ·cases ah
   ·simp only[aG]at ah dX
    split at ah
    ·split at dX
     ·rename_i cf a2;rw[←cf,←a2]
     ·cases dX
    ·cases ah
  refine Calls.mono (h w (fun _=>β id) ro ed aa (fun i x hx=>?_) kM aW (fun i o ah=>?_)) fun e w' ⟨v,r,fI,dN,ro',cT,he,⟨cs',Ko,ag⟩,dD,hL,cL⟩=>?_
  ·cases i with
   |zero=>
    simp only[List.getElem?_cons_zero,Option.some.injEq]at hx
    subst hx
    have:=ae 0 _ rfl
    generalize ed.getD 0 undef=bl at this⊢
    cases this with
    |ptr _ _ _ ar kc=>
     refine .ptr 0 0 bl Nat.one_pos fun bI cs' ah=>?_
     exact kc t k7 bh
   |succ i=>exact nC (ae (i+1) x (by simpa using hx)) (mO ak (by simpa using hx))
  ·simp only[aG]at ah
   split at ah
   ·rename_i hi;rw[←hi];exact Nat.one_pos
   ·cases ah
  ·subst Ko
   obtain⟨zhG,zhH⟩:=fS r cs' ag
   have ir:df ⟨w,ro,σ,β,n,[]⟩ G ⟨[],σ,n,n⟩ ⟨#[],[]⟩ w β ro:=⟨rfl,rfl,by simp,au,aW,⟨rfl,rfl,rfl,Nat.le_refl _,fun _ _ _=>rfl,fun _ h=>.inl h,fun _ h=>h,fun _ h=>.inl h,fun id _ o ah=>⟨by simp[ah],rfl⟩,bN,Nat.le_refl _⟩,Nat.le_refl _⟩
   have zhI:dN 0=β id:=(cL.dM 0 Nat.one_pos (.box t cs') (by simp[aG])).2
   have hw:=ir.write (w':=w') id _ (.box t cs') bh rfl rfl (.inl ⟨t,k7,cs',rfl,rfl⟩) cL.os cL.tape cL.output cL.size (fun k aj cb=>cL.frame k aj fun ao=>cb (Vr k ao)) (by
    have zhJ:=hL.dh 0 (.box t cs') (by simp[aG])
    cases zhJ with
    |box _ _ b' zhK g1 g2 g3 g4=>
     exact .box t cs' b' zhK (by rw[←zhI];exact g1) g2 g3 fun j x af=>Dt (g4 j x af) (Ds zhH af))
   exact⟨v,r,eQ σ id (.box t cs'),β,ro,n,he,⟨cs',rfl,ag⟩,Dt dD zhG,hw.heap,hw.trans⟩
end
def xV(ds:List aI):List aF:=
 match ds with
 |⟨.st c,x⟩::_=>(cj c x).map .aw
 |_=>[]
def Fy(ds:List aI):aF:=
 match ds.tail.map aI.fq with
 |[v]=>v
 |l=>.tuple l
def mJ(P:Program)(G:bd)(f:Nat)(t:TypeId)(m:aV):Prop:=
 ∀x:(fg m.ps).den,k8 m.pre x→dJ P G f (.ptr 0 0::(dB m.ps x).tail.map aI.fq) [(0,.box t (xV (dB m.ps x)))] 1 fun v b1=>∃cs',b1=[(0,.box t cs')]∧v=Fy (dB m.rs (m.m x))∧cs'=xV (dB m.rs (m.m x))
structure jY where
 f:Nat
 j:Nat
 t:TypeId
 c:bJ
 ps:List a6
 rs:List a6
 eU:Bool
def jY.po(b:jY):iy:=⟨b.f,b.j,.st b.c::b.ps,.st b.c::b.rs,b.eU⟩
def zhL(P:Program)(G:bd)(M:List aV)(b:jY):Prop:=
 (e7 aV.d M b.j).ps= .st b.c::b.ps∧(e7 aV.d M b.j).rs= .st b.c::b.rs∧mJ P G b.f b.t (e7 aV.d M b.j)∧(b.eU=true→(e7 aV.d M b.j).pre=none)
def J9(P:Program)(G:bd)(M:List aV)(C:List jY):Prop:=∀b∈C,zhL P G M b
def Fz(f:Nat):List jY→Option jY
 |[]=>none
 |c::r=>match Nat.beq c.f f with
  |true=>some c
  |false=>Fz f r
theorem Vs{f:Nat}{c:jY}: ∀{C:List jY},Fz f C=some c→c∈C∧c.f=f
 |[],h=>by cases h
 |d::r,h=>by
  unfold Fz at h
  split at h
  ·rename_i hd;cases h;exact⟨List.mem_cons_self ..,Nat.eq_of_beq_eq_true hd⟩
  ·obtain⟨aa,ae⟩:=Vs h;exact⟨List.mem_cons_of_mem _ aa,ae⟩
def pq(rs:List a6)(k:Nat):Nat:=
 match rs with
 |[_]=>k
 |_=>k+1
def FA(rs:List a6)(k:Nat):ab:=
 match rs with
 |[r]=>A3 r k
 |rs=>.tp (ht k rs)
def FB(b:jY)(S:aq)(id:Nat)(xs:List ab):aq:=
 ⟨bg.put .emp 0 (FA b.rs (pq b.po.rs S.k+1)),ju S.h id (.cQ b.t (iV b.c (pq b.po.rs S.k) 0 (eR b.c))),S.n,S.k+(iI b.po xs S.k).length,S.g⟩
def Vt(b:jY)(S:aq)(t:TypeId)(l rest xs:List ab):Bool:=
 (Nat.beq t b.t&&(hl (eR b.c) l&&ab.cV S.k l))&&((s9 rest&&ab.cV S.k xs)&&((a6.st b.c).s8&&(b.rs.all a6.s8&&b.rs.all a6.iE)))
def N5(C:List jY)(inl:Nat→List ab→aq→aD)(f:Nat)(aJ:List ab)(S:aq):aD:=
 match Fz f C,aJ with
 |some b,.cq id 0::rest=>match dj S.h id,rG S b.ps rest with
  |some (.cQ t l),some xs=>match Vt b S t l rest xs with
   |true=>emit S.k (iI b.po (.bO l::xs) S.k) (Fq b.po (.bO l::xs)) (.cR .cp (FB b S id (.bO l::xs)))
   |false=>inl f aJ S
  |_,_=>inl f aJ S
 |_,_=>inl f aJ S
section
variable {P:Program} {G:bd} {M:List aV} {C:List jY} {inl:Nat→List ab→aq→aD}
theorem zhM{c:iy}{xs:List ab}{k:Nat}{e:Env}{y:(fg c.rs).den}(ar:ab.cV k xs=true)(aP:Env.at (dq M e k (iI c xs k)) k=⟨fg c.rs,y⟩):
 ∀(j:Nat) (d:aI),(dB c.rs y)[j]? =some d→Env.at (dq M e k (iI c xs k)) (pq c.rs k+j)=d:=by
 have eM:=jz (M:=M) (e:=e) (Ft (c:=c) ar)
 obtain⟨f,Fv,ps,rs,eU⟩:=c
 simp only at y aP eM⊢
 match rs,y,aP,eM with
 |[],y,aP,eM=>intro j d af;cases af
 |[r],y,aP,eM=>
  intro j d af
  cases j with
  |zero=>
   have af:(⟨r,y⟩:aI)=d:=by simpa[dB]using af
   rw[←af];exact aP
  |succ j=>simp[dB]at af
 |r::s::l,y,aP,eM=>
  intro j d af
  have hlen:j<(r::s::l).length:=by
   have aa:=(List.getElem?_eq_some_iff.1 af).1
   have:=congrArg List.length (ta (rs:=r::s::l) (x:=y))
   rw[List.length_map]at this;omega
  have aa:=eM (j+1) (.rf (r::s::l) k j) (by
   show(bQ.ca Fv xs::nX (r::s::l) k 0 (r::s::l))[j+1]? =_
   rw[List.getElem?_cons_succ,NU,if_pos hlen,Nat.zero_add])
  show Env.at _ (k+1+j)=d;rw[show k+1+j=k+(j+1)by omega,aa]
  simp only[bQ.den,aP,cI];exact NZ af
theorem zhN{e:Env}{rs:List a6}{k:Nat}{ds:List aI}(ag:ds.map aI.r=rs)(h: ∀j d,ds[j]? =some d→Env.at e (k+j)=d):(FA rs k).den G e=(match ds.map aI.fq with|[v]=>v|l=>.tuple l):=by
 match rs,ds,ag,h with
 |[],ds,ag,h=>cases me ag;rfl
 |[r],ds,ag,h=>
  obtain⟨d,oU,rfl,aa,ae⟩:=ly ag
  cases me ae
  subst aa;exact NW (x:=d.v) (h 0 d rfl)
 |r::s::l,ds,ag,h=>
  have:=A4 (G:=G) (i:=k) ag h
  obtain⟨d,oU,rfl,aa,ae⟩:=ly ag;obtain⟨d2,zjX,rfl,au,aW⟩:=ly ae;show aF.tuple (ab.bX G e (ht k (r::s::l)))=_;rw[this];rfl
theorem zhO{ds:List aI}{c:bJ}{x:fQ c}{r:List aI}(h:ds=⟨.st c,x⟩::r)(hc:(a6.st c).s8=true):mT (xV ds)=true:=by
 subst h
 have:=Vi (d:=⟨.st c,x⟩) hc
 exact this
theorem zhP(qy:J9 P G M C)(b2:fE P G M inl):fE P G M (N5 C inl):=fun f aJ S e ad ar hf ai=>by
 unfold N5 at ai⊢
 split at ai
 rotate_left
 ·exact b2 _ _ S e ad ar hf ai
 rename_i b id rest hc
 split at ai
 rotate_left
 ·exact b2 _ _ S e ad ar hf ai
 rename_i t l xs ah hx
 split at ai
 rotate_left
 ·exact b2 _ _ S e ad ar hf ai
 rename_i aj
 simp only[Vt,Bool.and_eq_true]at aj
 obtain⟨⟨eP,fx,iv⟩,⟨lY,zc⟩,ua,wc,N6⟩:=aj
 have eP:=Nat.eq_of_beq_eq_true eP
 subst eP
 obtain⟨hm,A7⟩:=Vs hc
 obtain⟨g1,g2,g3,g4⟩:=qy b hm
 have zhQ:ab.lt S.k (.bO l)=true:=iv
 have FC:ab.cV S.k (.bO l::xs)=true:=by simp only[ab.cV,zhQ,zc,Bool.and_self]
 obtain⟨hn,_⟩:=lF ai
 have ve:=Ft (c:=b.po) FC
 have bZ:b3 S.k e (dq M e S.k (iI b.po (.bO l::xs) S.k)):=jy (Nat.le_refl _)
 have cb:b.eU=false→fi.ok M (dq M e S.k (iI b.po (.bO l::xs) S.k)) (.ca b.j (.bO l::xs)):=fun jn=>hn _ (by unfold Fq;rw[show b.po.eU=b.eU from rfl,jn];exact List.mem_singleton.2 rfl)
 obtain⟨cf,a2,a3,a4⟩:=xU (G:=G) (e:=e) hx
 have eM:=jz (M:=M) (e:=e) ve 0 (.ca b.j (.bO l::xs)) (by unfold iI;split<;>rfl)
 have dH:=zW (G:=G) (e:=e) fx
 obtain⟨FD,A9,bt,hQ,rH,nb,Ba⟩:=b
 simp only[jY.po]at g1 g2 g3 g4 A7 ve bZ cb cf a2 a3 a4 eM fx ua wc N6 dH hx⊢
 subst A7
 simp only[Nat.add_zero,bQ.den]at eM
 simp only[fi.ok]at cb
 clear ai hn
 generalize e7 aV.d M A9=m at g1 g2 g3 g4 eM cb
 obtain⟨zjY,zjZ,zj0,nZ⟩:=m
 simp only at g1 g2 g3 g4 eM cb
 subst g1 g2
 rw[w1 bZ FC]at eM
 have vc:(gF e (.st hQ::rH) (.bO l::xs)).map aI.r= .st hQ::rH:=by simp only[gF,List.map_cons,a4]
 have Bb:=xT vc
 have hg:=g3 (cg _ (gF e (.st hQ::rH) (.bO l::xs))) (by
  cases Ba with
  |true=>rw[g4 rfl];trivial
  |false=>
   have:=cb rfl
   rw[w1 bZ FC]at this
   exact this)
 simp only at hg
 rw[Bb]at hg
 generalize ay:nZ (cg (.st hQ::rH) (gF e (.st hQ::rH) (.bO l::xs)))=y at hg eM
 have Eh:=zhM (M:=M) (c:=⟨FD,A9,.st hQ::rH,.st hQ::nb,Ba⟩) FC eM
 obtain⟨d0,td,mQ,n5,hdr⟩:=ly (ta (rs:=.st hQ::nb) (x:=y))
 obtain⟨zhR,di⟩:=d0
 simp only at n5
 subst n5
 simp only[mQ]at hg Eh
 rw[a3 lY]at cf a2
 have hg:=hg.arg (.cons (Sub.refl _) cf)
 have bh:aG (cH G e S.h) id=some (.box bt (ab.bX G e l)):=by rw[eh,ah];rfl
 have lH:=dJ.zhF (R:=fun r cs'=>r=Fy (⟨.st hQ,di⟩::td)∧cs'=xV (⟨.st hQ,di⟩::td)) (σ:=cH G e S.h) (n:=S.n) hg a2 (Db _) (fun r cs' ⟨da,dm⟩=>⟨by
  rw[da]
  have hsc:mT (td.map aI.fq)=true:=NT fun d hd=>by
   have:d.r∈nb:=by rw[←hdr];exact List.mem_map_of_mem hd
   exact List.all_eq_true.1 wc d.r this
  unfold Fy;simp only[List.tail_cons]
  split
  ·rename_i v ax
   rw[ax]at hsc;simpa[mT]using hsc
  ·exact hsc,by rw[dm];exact zhO rfl ua⟩) bh dH
 have aP:=Eh 0 ⟨.st hQ,di⟩ rfl
 rw[Nat.add_zero]at aP
 have hlen:pq (.st hQ::nb) S.k+1+nb.length≤S.k+(iI ⟨FD,A9,.st hQ::rH,.st hQ::nb,Ba⟩ (.bO l::xs) S.k).length:=by
  cases nb with
  |nil=>simp[pq,iI]
  |cons r q=>simp only[pq,iI,List.length_cons,NV];omega
 have zhS:pq (.st hQ::nb) S.k<S.k+(iI ⟨FD,A9,.st hQ::rH,.st hQ::nb,Ba⟩ (.bO l::xs) S.k).length:=by omega
 refine lH.res fun r b1 ⟨cs',aa,ae,au⟩=>⟨_,_,by rw[k4];rfl,?_,?_,?_,?_,bZ,Nat.le_add_right _ _⟩
 ·rw[ae]
  have:=zhN (G:=G) (k:=pq (.st hQ::nb) S.k+1) hdr fun j d af=>by
   have:=Eh (j+1) d (by simpa using af)
   rw[←this]
   congr 1
   omega
  show _=ab.den G _ (aq.at (FB _ S id _) 0);unfold FB aq.at
  simp only[bg.hV,if_true];exact this.symm
 ·rw[aa,au]
  show _=cH G _ (ju S.h id _);rw[sI,w0 bZ ad.h];simp only[bK.den,jY.po];rw[sC,aP,cI];rfl
 ·refine⟨fun i x hi=>?_,EN (o:=.cQ bt (iV hQ (pq (.st hQ::nb) S.k) 0 (eR hQ))) (Fu zhS) (sJ (Nat.le_add_right _ _) ad.h),nP (Nat.le_add_right _ _) ad.g⟩
  simp only[FB,bg.hV]at hi
  split at hi
  ·cases hi
   show(FA nb (pq (.st hQ::nb) S.k+1)).lt (S.k+_)=true;unfold FA
   split
   ·have Ku:pq (.st hQ::[_]) S.k+1<S.k+(iI ⟨FD,A9,.st hQ::rH,.st hQ::[_],Ba⟩ (.bO l::xs) S.k).length:=hlen
    exact NY Ku
   ·simp only[ab.lt]
    exact A5 hlen
  ·simp[bg.get]at hi
 ·exact ic bZ ad.g hf
end
end Go.aO
