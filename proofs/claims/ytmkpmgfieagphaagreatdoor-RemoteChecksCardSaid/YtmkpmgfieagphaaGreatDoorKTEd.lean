/- TD, part Z: regions of drawn order, sound. Conditions: none. -/
import Derived.Test.YtmkpmgfieagphaaGreatDoorKTDy
namespace Go.aK
open Go
def yf(v:ab):Bool:=
 match v.rt with
 |some (.int _)=>true
 |some .bool=>true
 |some .str=>true
 |_=>false
def Nv(P:Program)(S:ao)(t:TypeId)(id:Nat)(i:ab):Option dr:=
 match i.rt,j6 P t,c9 S.h id with
 |some (.int k),some n,some (.rw _ c y)=>match Nat.beq n (bY c)with
  |true=>some ⟨[],pr S.g (.iT c) (.kb c k) y i,.gM id i 0⟩
  |false=>none
 |_,_,_=>none
def Nw(P:Program)(S:ao)(t:TypeId)(x i:ab):Option dr:=
 match i.rt,j6 P t,vp x with
 |some (.int k),some n,some c=>match Nat.beq n (bY c)with
  |true=>some ⟨[.f2 (.kb c k) x i],pr S.g (.iT c) (.kb c k) x i,.ip c S.k 0⟩
  |false=>none
 |_,_,_=>none
def Nx(P:Program)(S:ao)(t:TypeId)(id off:Nat)(i:ab):Option dr:=
 match i.rt,uU P t,vl S (.ed id off)with
 |some (.int _),some (len,n),some _=>match i with
  | .cs (.int _ (.ofNat j))=>match Nat.blt j len,xz (j*n) (.ed id off)with
   |true,some p=>some ⟨[],[],p⟩
   |_,_=>none
  |i=>some ⟨[],xx S.g len i,.gW id off i n⟩
 |_,_,_=>none
def Fy(P:Program)(N:Nat)(S:ao)(t:TypeId)(x:ab)(lo hi:Option Operand):Option dr:=
 match xE N S lo,xE N S hi,x.rt,j6 P t with
 |some l,some h,some (.li c),some n=>match Nat.beq n (bY c)with
  |true=>some ⟨[.eB c x l h],[.eB c x l h],.aT (.li c) S.k⟩
  |false=>none
 |_,_,_,_=>none
def sa(P:Program)(N:Nat)(S:ao)(o:Oper):Option dr:=
 match o.op with
 | .move x=>some ⟨[],[],S.aY N x⟩
 | .assign x=>some ⟨[],[],S.aY N x⟩
 | .nilCheck x=>match tl S (S.aY N x)with
  |true=>some ⟨[],[],S.aY N x⟩
  |false=>none
 | .fieldAddr t x f=>match sS P t f,tl S (S.aY N x)with
  |some k,true=>match xz k (S.aY N x)with
   |some p=>some ⟨[],[],p⟩
   |none=>none
  |_,_=>none
 | .load t x=>match vl S (S.aY N x)with
  |some l=>match qd P t l with
   |some v=>some ⟨[],[],v⟩
   |none=>none
  |none=>match qI P N S o with
   |some r=>match yf r.v with
    |true=>some r
    |false=>none
   |none=>none
 | .indexAddr t x i=>match S.aY N x with
  | .aN id=>Nv P S t id (S.aY N i)
  | .ed id off=>Nx P S t id off (S.aY N i)
  |y=>Nw P S t y (S.aY N i)
 | .slice t x lo hi none=>match Fy P N S t (S.aY N x) lo hi with
  |some r=>some r
  |none=>match qI P N S o with
   |some r=>match yf r.v with
    |true=>some r
    |false=>none
   |none=>none
 |_=>match qI P N S o with
  |some r=>match yf r.v with
   |true=>some r
   |false=>none
  |none=>none
def nt(o:Oper):Bool:=
 match o.op with
 | .store _ _ _=>true
 | .alloc _=>true
 | .box _ _=>true
 | .buildSlice _ _ _=>true
 | .mapUpdate _ _ _ _=>true
 | .call c=>match c.callee with
  | .builtin .append=>true
  | .builtin .copy=>true
  |_=>false
 |_=>false
mutual
def ab.pure:ab→Bool
 | .aT _ _=>true
 | .fd _ _ _ _=>true
 | .cs _=>true
 | .ip _ _ _=>true
 | .cg l=>ab.e3 l
 | .tp l=>ab.e3 l
 | .fn _ a b=>ab.e3 a&&ab.e3 b
 |_=>false
def ab.e3:List ab→Bool
 |[]=>true
 |x::r=>ab.pure x&&ab.e3 r
end
def Ny(S:ao)(dst:Option Nat)(C:ao):aC:=
 match ab.pure (C.at 0)with
 |true=>.cG .ch ((⟨S.l,S.h,S.n,C.k,C.g⟩:ao).put dst (C.at 0))
 |false=>.bad 74
def sb(P:Program)(N B:Nat)(T:List (Nat × bK))(inl:Nat→List ab→ao→aC)(o:Oper)(S:ao):aC:=
 match nt o with
 |true=>match EY P N B T S o with
  |some r=>match hv S.k r.xs&&(r.v.lt (S.k+r.xs.length)&&eG (S.k+r.xs.length) r.h)with
   |true=>emit S.k r.xs r.ns (.cG .ch ((r.st S o.dst).e1 S.k r.xs))
   |false=>.bad 31
  |none=>.bad (100+MF o)
 |false=>match qI P N S o with
  |some r=>match hv S.k r.xs&&r.v.lt (S.k+r.xs.length)with
   |true=>emit S.k r.xs r.ns (.cG .ch ((S.e1 S.k r.xs).put o.dst r.v))
   |false=>.bad 30
  |none=>match AX P N S o with
   |some (f,as)=>match m4 P f&&ab.e3 as with
    |true=>(inl f as ⟨.emp,[],0,S.k,S.g⟩).eI (Ny S o.dst) none
    |false=>.bad 32
   |none=>.bad (100+MF o)
def qR(P:Program)(N B:Nat)(T:List (Nat × bK))(inl:Nat→List ab→ao→aC)(ops:Array Oper)(o:Oper)(S:ao):aC:=
 match guardOf N ops S o with
 | .yes=>sb P N B T inl o S
 | .no=>match nt o with
  |false=>.cG .ch (S.put o.dst (.tp []))
  |true=>.bad 73
 | .on gs=>match lV S.k gs&& !(nt o)with
  |true=>match qI P N {S with g:=hy gs S.g} o with
   |some r=>match hv S.k r.xs&&r.v.lt (S.k+r.xs.length)with
    |true=>emit S.k r.xs (r.ns.map (qM gs)) (.cG .ch ((S.e1 S.k r.xs).put o.dst (kg gs r.v)))
    |false=>.bad 35
   |none=>tA (r6 S o.dst) gs (sb P N B T inl o {S with g:=hy gs S.g}) S.g
  |false=>.bad 36
 | .bad=>.bad 37
def tI(P:Program)(N:Nat)(ops:Array Oper)(o:Oper)(S:ao)(k:ao→aC):aC:=
 match guardOf N ops S o with
 | .yes=>match sa P N S o with
  |some r=>match hv S.k r.xs&&r.v.lt (S.k+r.xs.length)with
   |true=>emit S.k r.xs r.ns (k ((S.e1 S.k r.xs).put o.dst r.v))
   |false=>.bad 30
  |none=>.bad 76
 | .no=>k (S.put o.dst (.tp []))
 | .on gs=>match lV S.k gs with
  |true=>match sa P N {S with g:=hy gs S.g} o with
   |some r=>match hv S.k r.xs&&r.v.lt (S.k+r.xs.length)with
    |true=>emit S.k r.xs (r.ns.map (qM gs)) (k ((S.e1 S.k r.xs).put o.dst (kg gs r.v)))
    |false=>.bad 35
   |none=>.bad 76
  |false=>.bad 36
 | .bad=>.bad 37
def pop(P:Program)(N:Nat)(S:ao)(o:Oper):Bool:=
 match o.op with
 | .move _=>true
 | .assign _=>true
 | .nilCheck _=>true
 | .fieldAddr _ _ _=>true
 | .indexAddr _ _ _=>true
 | .slice t x lo hi none=>(Fy P N S t (S.aY N x) lo hi).isSome
 |_=>false
def yg(P:Program)(N:Nat)(ops:Array Oper)(S:ao)(o:Oper):Bool:=
 match guardOf N ops S o with
 | .yes=>pop P N S o
 | .no=>true
 | .on gs=>pop P N {S with g:=hy gs S.g} o
 | .bad=>false
def zhm(P:Program)(N:Nat)(ops:Array Oper)(wr m:List Bool)(S:ao)(i:Nat):Bool:=
 match ops[i]? with
 |some o=>(Region.free .any ops m.toArray i&&(!(wr.getD i false)&&(yg P N ops S o||Fx ops wr m i)))&&(match guardOf N ops S o with
  | .yes=>(sa P N S o).isSome
  | .no=>true
  | .on gs=>(sa P N {S with g:=hy gs S.g} o).isSome
  | .bad=>false)
 |none=>false
def UO(P:Program)(N:Nat)(ops:Array Oper)(wr m:List Bool)(S:ao):List Nat→Option Nat
 |[]=>none
 |i::r=>match zhm P N ops wr m S i with
  |true=>some i
  |false=>UO P N ops wr m S r
def Fz(N:Nat)(ops:Array Oper)(S:ao)(o:Oper):List (ab × Bool):=
 match guardOf N ops S o with
 | .on gs=>gs
 |_=>[]
def Nz:b4→b4→Bool
 | .d1 i f x,.d1 j g y=>Nat.beq i j&&(decide (f=g)&&eH x y)
 | .d2 i f x y,.d2 j g u v=>(Nat.beq i j&&decide (f=g))&&(eH x u&&eH y v)
 | .rg i b,.rg j c=>Nat.beq i j&&eH b c
 | .dT g b,.dT h c=>eH g h&&decide (b=c)
 |_,_=>false
def FA:List b4→List b4→Bool
 |[],[]=>true
 |x::l,y::m=>Nz x y&&FA l m
 |_,_=>false
def NA:bF→bF→Bool
 | .di t l,.di u m=>Nat.beq t u&&py l m
 | .rw t c x,.rw u d y=>Nat.beq t u&&(decide (c=d)&&eH x y)
 | .it u x p,.it v y q=>decide (u=v)&&(eH x y&&eH p q)
 |_,_=>false
def FB:List (Nat × bF)→List (Nat × bF)→Bool
 |[],[]=>true
 |(i,x)::l,(j,y)::m=>Nat.beq i j&&(NA x y&&FB l m)
 |_,_=>false
def Bj:a8 ab→a8 ab→Bool
 | .emp,.emp=>true
 | .n v l r,.n w m s=>(match v,w with
  |some x,some y=>eH x y
  |none,none=>true
  |_,_=>false)&&(Bj l m&&Bj r s)
 |_,_=>false
def NB(S U:ao):Bool:=(Bj S.l U.l&&FB S.h U.h)&&((Nat.beq S.n U.n&&Nat.beq S.k U.k)&&FA S.g U.g)
def NC:bJ→bJ→Bool
 | .ca j as,.ca i cB=>Nat.beq j i&&py as cB
 | .rS rs p i,.rS qs q j=>decide (rs=qs)&&(Nat.beq p q&&Nat.beq i j)
 | .f1 f x,.f1 g y=>decide (f=g)&&eH x y
 | .f2 f x y,.f2 g u v=>decide (f=g)&&(eH x u&&eH y v)
 | .xn k v m x,.xn bj bg vM iM=>(decide (k=bj)&&decide (v=bg))&&(eH m vM&&eH x iM)
 | .vi k v m x,.vi bj bg vM iM=>(decide (k=bj)&&decide (v=bg))&&(eH m vM&&eH x iM)
 |_,_=>false
def ND:fe→fe→Bool
 | .f2 n f x y,.f2 m g u v=>(Nat.beq n m&&decide (f=g))&&(eH x u&&eH y v)
 | .ca j as,.ca i cB=>Nat.beq j i&&py as cB
 | .nth n x,.nth m y=>Nat.beq n m&&eH x y
 |_,_=>false
def qS:aC→aC→Bool
 | .cG .ch S,.cG .ch U=>NB S U
 | .lt i x t,.lt j y u=>Nat.beq i j&&(NC x y&&qS t u)
 | .eF n t,.eF m u=>ND n m&&qS t u
 |_,_=>false
def Bk:List aC→aC
 |t::r=>match r.all (qS t)with
  |true=>t
  |false=>.bad 71
 |[]=>.bad 71
def qT(P:Program)(N B:Nat)(T:List (Nat × bK))(inl:Nat→List ab→ao→aC)(ops:Array Oper)(wr:List Bool):Nat→List Bool→ao→aC
 |0,m,S=>match Region.ready .any ops m.toArray with
  |[]=>.cG .ch S
  |_=>.bad 70
 |n+1,m,S=>match Region.ready .any ops m.toArray with
  |[]=>.cG .ch S
  |i::rd=>match UO P N ops wr m S (i::rd)with
   |some j=>match ops[j]?,(Region.ready .any ops m.toArray).contains j&&(Region.free .any ops m.toArray j&& !(wr.getD j false))with
    |some o,true=>match yg P N ops S o||Fx ops wr m j with
     |true=>tI P N ops o S (qT P N B T inl ops wr n (m.set j true))
     |false=>.bad 79
    |_,_=>.bad 77
   |none=>match rd,ops[i]? with
    |[],some o=>match decide (wr.getD i false=nt o)with
     |true=>qK N S o.dst (Fz N ops S o) (qR P N B T inl ops o S) (qT P N B T inl ops wr n (m.set i true))
     |false=>.bad 78
    |_,_=>Bk ((i::rd).map fun j=>match ops[j]? with
     |some o=>match decide (wr.getD j false=nt o)with
      |true=>qK N S o.dst (Fz N ops S o) (qR P N B T inl ops o S) (qT P N B T inl ops wr n (m.set j true))
      |false=>.bad 78
     |none=>.bad 77)
def NF(P:Program)(N B:Nat)(T:List (Nat × bK))(inl:Nat→List ab→ao→aC)(ops:Array Oper)(S:ao):aC:=
 match P.follows .mixedOrders&&Region.noSelect ops with
 |true=>qT P N B T inl ops (ops.toList.map nt) ops.size (List.replicate ops.size false) S
 |false=>.bad 75
section
variable {P:Program} {G:a7} {N B:Nat} {M:List aQ} {T:List (Nat × bK)} {inl:Nat→List ab→ao→aC}
theorem zhn{v:ab}{e:Env}(h:yf v=true): ∃c,v.den G e= .av (.v c):=by
 unfold yf at h
 split at h
 ·rename_i ag;exact⟨_,fX ag⟩
 ·rename_i ag;exact⟨_,fX ag⟩
 ·rename_i ag;exact⟨_,fX ag⟩
 ·cases h
theorem zho{t:TypeId}{n:Nat}(h:mh P t=some n):scalar P t=false:=by
 unfold mh at h
 unfold scalar
 split at h<;>simp_all
theorem jQ.sc{ops:Array Oper}{o:Oper}{s:aO}{v:aD}(h:my P G o s v)(ah:dN ops s o=some true):jQ P G ops o s (s.put o.dst v):=by
 intro E a w ⟨β,ro,ag⟩
 have hw:=n1 (ops:=ops) ⟨β,ro,ag⟩ ah
 obtain⟨c,aa,ae⟩:=h E a w β ro ag
 exact⟨c,.inl ⟨hw,fun cJ _=>aa cJ⟩,β,ro,ag.put _ _ _ ae⟩
theorem UP{o:Oper}{S:ao}{t:TypeId}{x i:Operand}{r:dr}{e:Env}(an:o.op= .indexAddr t x i)(h:Nw P S t (S.aY N x) (S.aY N i)=some r)(hf:S.ct e)(hx: ∀(j:Nat) (x:bJ),r.xs[j]? =some x→Env.at e (S.k+j)=x.den M e)(hn: ∀n∈r.ns,n.ok M e):my P G o (S.den G N B e) (r.v.den G e):=by
 unfold Nw at h
 split at h
 ·rename_i k n c hi lT hc
  split at h
  ·rename_i ad
   cases h
   have ad:=Nat.eq_of_beq_eq_true ad
   rw[ad]at lT
   have hp:aI G (S.den G N B e) i=_:=(bH hf i).trans (jw hi)
   obtain⟨hd,AH⟩:=Es (G:=G) (e:=e) hc;obtain⟨g1,g2⟩:=xy hf hi hn
   have:=SD c _ k _ an lT hp ((bH hf x).trans hd) g1 g2
   have aL:Env.at e S.k=_:=hx 0 _ rfl
   have aa:=S9 (G:=G) (x:=List.getD ((S.aY N x).az e (.li c)) (Int.toNat ((S.aY N i).az e (.int k))) (aA c)) aL
   show my P G o _ ((ab.ip c S.k 0).den G e);rw[aa];exact this
  ·cases h
 ·cases h
theorem zhp{o:Oper}{s:aO}(t:TypeId)(x i:Operand)(an:o.op= .indexAddr t x i){n:Nat}(aG:j6 P t=some n){k:IntKind}{j:Nat}(hi:aI G s i= .av (.v (.int k (j:Int)))){p:aD}(ak:mn s.heap n j (aI G s x)=some p):
 my P G o s p:=
 fun _ a w β ro ag=>by
  obtain⟨cW,len,cap,hc,af,dA⟩:=RB ag.heap (ag.eval x) ak;obtain⟨e,hu,bM⟩:=zT aG;refine⟨_,fun cJ=>?_,dA⟩
  have oN:(0:Int)≤j∧(j:Int)<len:=⟨by omega,by omega⟩
  simp[execOp,an,hc,ag.ee hi,Instr.indexAt,asIntOf,run_underlying hu,af,bM]
theorem UQ{o:Oper}{S:ao}{t:TypeId}{x i:Operand}{id:Nat}{r:dr}{e:Env}(an:o.op= .indexAddr t x i)(bc:S.aY N x= .aN id)(h:Nv P S t id (S.aY N i)=some r)(hf:S.ct e)(hx: ∀(j:Nat) (x:bJ),r.xs[j]? =some x→Env.at e (S.k+j)=x.den M e)(hn: ∀n∈r.ns,n.ok M e):my P G o (S.den G N B e) (r.v.den G e):=by
 unfold Nv at h
 split at h
 ·rename_i k n bC c y hi lT ah
  split at h
  ·rename_i ad
   cases h
   have ad:=Nat.eq_of_beq_eq_true ad
   have hp:aI G (S.den G N B e) i=_:=(bH hf i).trans (jw hi)
   obtain⟨g1,g2⟩:=xy hf hi hn;obtain⟨j,af⟩: ∃j:Nat,(S.aY N i).az e (.int k)=(j:Int):=⟨_,(Int.toNat_of_nonneg g1).symm⟩;rw[af]at hp g2
   have g2:(j:Int)<((List.length (y.az e (.li c)):Nat):Int):=g2
   have:=zhp (P:=P) (o:=o) t x i an lT hp (p:=.cV id j 0) (by
    rw[bH hf,bc];simp only[ab.den,mn,ao.den,eh,ah,Option.map_some,bF.den]
    rw[if_pos ⟨ad.symm,by rw[List.length_map];omega⟩])
   simp only[ab.den,lS hi,af,Int.toNat_natCast];exact this
  ·cases h
 ·cases h
theorem UR{o:Oper}{s:aO}(t:TypeId)(x i:Operand)(an:o.op= .indexAddr t x i){len n:Nat}(aG:uU P t=some (len,n)){k:IntKind}{j:Nat}(hi:aI G s i= .av (.v (.int k (j:Int))))(af:j<len)
 {cs:List aD}(dI:fo s.heap (aI G s x)=some cs){p:aD}(ak:iO (j*n) (aI G s x)=some p):
 my P G o s p:=
 fun _ a w β ro ag=>by
  obtain⟨cW,hc,dA⟩:=QW ak dI (ag.eval x);unfold uU at aG
  split at aG
  ·rename_i m e hu
   cases uV:P.info? e with
   |none=>simp[uV]at aG
   |some zdw=>
    simp[uV]at aG;obtain⟨rfl,rfl⟩:=aG;refine⟨_,fun cJ=>?_,dA⟩
    simp[execOp,an,hc,ag.ee hi,Instr.indexAt,asIntOf,run_underlying hu,Instr.sureAddr,af,sizeOf,typeInfo,uV]
  ·cases aG
theorem US{o:Oper}{S:ao}{t:TypeId}{x i:Operand}{id off:Nat}{r:dr}{e:Env}(an:o.op= .indexAddr t x i)(bc:S.aY N x= .ed id off)(h:Nx P S t id off (S.aY N i)=some r)(hf:S.ct e)(hn: ∀n∈r.ns,n.ok M e):my P G o (S.den G N B e) (r.v.den G e):=by
 unfold Nx at h
 split at h
 ·rename_i k len n l hi aZ aq
  have hp:aI G (S.den G N B e) i=_:=(bH hf i).trans (jw hi)
  have dI:=AD (G:=G) (N:=N) (B:=B) (e:=e) aq
  have jx:aI G (S.den G N B e) x=(ab.ed id off).den G e:=by rw[bH hf,bc]
  rw[←jx]at dI
  split at h
  ·rename_i bj j af
   split at h
   ·rename_i p cL ak
    cases h;refine UR t x i an aZ (k:=bj) (j:=j) (by rw[bH hf,af];rfl) (e6 cL) dI ?_
    have ai:=AE (G:=G) (e:=e) ak
    rw[←ai,jx];rfl
   ·cases h
  ·cases h
   have jq:0≤cl ((S.aY N i).dyn e)∧cl ((S.aY N i).dyn e)<(len:Int):=Ee hf hn
   obtain⟨j,af⟩: ∃j:Nat,cl ((S.aY N i).dyn e)=(j:Int):=⟨_,(Int.toNat_of_nonneg jq.1).symm⟩;rw[←lS hi,af]at hp;refine UR t x i an aZ hp (by omega) dI ?_
   rw[jx];simp only[ab.den,iO,af,Int.toNat_natCast]
 ·cases h
theorem UT{o:Oper}{S:ao}{t:TypeId}{x:Operand}{lo hi:Option Operand}{r:dr}{e:Env}(an:o.op= .slice t x lo hi none)(h:Fy P N S t (S.aY N x) lo hi=some r)(hf:S.ct e)(hx: ∀(j:Nat) (x:bJ),r.xs[j]? =some x→Env.at e (S.k+j)=x.den M e)(hn: ∀n∈r.ns,n.ok M e):my P G o (S.den G N B e) (r.v.den G e):=by
 unfold Fy at h
 split at h
 ·rename_i l h' c n aq ba ag lT
  split at h
  ·rename_i ad
   cases h;rw[Nat.eq_of_beq_eq_true ad]at lT
   have aL:Env.at e S.k=_:=hx 0 _ rfl
   simp only[ab.den,aL,bJ.den,cA];exact SR c _ an lT ((bH hf x).trans (fX ag)) (xG hf aq) (xG hf ba) (hn _ (List.mem_singleton.2 rfl))
  ·cases h
 ·cases h
theorem zhq{ops:Array Oper}{o:Oper}{S:ao}{r:dr}{e:Env}(h:sa P N S o=some r)(hf:S.ct e)(hx: ∀(j:Nat) (x:bJ),r.xs[j]? =some x→Env.at e (S.k+j)=x.den M e)(hn: ∀n∈r.ns,n.ok M e)(ah:dN ops (S.den G N B e) o=some true):
 jQ P G ops o (S.den G N B e) ((S.den G N B e).put o.dst (r.v.den G e)):=by
 have key:(match qI P N S o with
  |some r=>match yf r.v with
   |true=>some r
   |false=>none
  |none=>none)=some r→jQ P G ops o (S.den G N B e) ((S.den G N B e).put o.dst (r.v.den G e)):=fun h=>by
  split at h
  ·rename_i eP aw
   split at h
   ·rename_i hc
    cases h
    have dC:=vt (G:=G) (B:=B) (M:=M) aw e hf hx hn
    obtain⟨c,zhr⟩:=zhn (G:=G) (e:=e) hc;rw[zhr]at dC⊢;exact jQ.rL dC ah
   ·cases h
  ·cases h
 unfold sa at h
 split at h
 ·rename_i x an
  cases h
  have:j9 P G o (S.den G N B e)=some ((S.aY N x).den G e):=by unfold j9;rw[an,←bH hf]
  exact(hq.val this ah).l
 ·rename_i x an
  cases h
  have:j9 P G o (S.den G N B e)=some ((S.aY N x).den G e):=by unfold j9;rw[an,←bH hf]
  exact(hq.val this ah).l
 ·rename_i x an
  split at h
  ·rename_i ak
   cases h
   have:j9 P G o (S.den G N B e)=some ((S.aY N x).den G e):=by
    unfold j9;rw[an];simp only[bH hf,vn ak]
   exact(hq.val this ah).l
  ·cases h
 ·rename_i t x f an
  split at h
  ·rename_i k aj ak
   split at h
   ·rename_i p ai
    cases h
    have:j9 P G o (S.den G N B e)=some (p.den G e):=by
     unfold j9;rw[an];simp only[aj,bH hf,vn ak,AE ai]
    exact(hq.val this ah).l
   ·cases h
  ·cases h
 ·rename_i t x an
  split at h
  ·rename_i l aq
   split at h
   ·rename_i v aw
    cases h
    have hc:=AD (G:=G) (N:=N) (B:=B) (e:=e) aq
    have:DU P G o (S.den G N B e)=some (v.den G e):=by
     unfold DU;rw[an];simp only[bH hf,hc]
     rcases Ud (G:=G) (e:=e) aw with⟨n,g1,g2,g3,g4⟩|⟨g1,g2,eP,g3⟩
     ·cases l with
      |nil=>simp at g2;omega
      |cons y l=>
       have ai:scalar P t=false:=zho g1
       rw[g4];simp only[ab.bP,ai,g1];rw[if_pos ⟨by simpa[mc]using g2,g3⟩]
     ·subst g3
      simp only[ab.bP,g2]
    exact jQ.load this ah
   ·cases h
  ·exact key h
 ·rename_i t x i an
  split at h
  ·rename_i id bc
   exact jQ.sc (UQ an bc h hf hx hn) ah
  ·rename_i id off bc
   exact jQ.sc (US an bc h hf hn) ah
  ·exact jQ.sc (UP an h hf hx hn) ah
 ·rename_i t x lo hi an
  split at h
  ·rename_i eP ai
   cases h;exact jQ.sc (UT an ai hf hx hn) ah
  ·exact key h
 ·exact key h
mutual
theorem UU{e:Env}: ∀{x:ab},ab.pure x=true→fE (x.den G e)=true:=fun {x} h=>by
 cases x with
 |cg l=>simp only[ab.den,fE];exact yh (l:=l) h
 |tp l=>simp only[ab.den,fE];exact yh (l:=l) h
 |fn f a b=>
  simp only[ab.pure,Bool.and_eq_true]at h;simp only[ab.den,fE,yh h.1,yh h.2,Bool.and_self]
 |ed k o=>cases h
 |gM k x o=>cases h
 |gW k o x n=>cases h
 |cB k n=>cases h
 |fi g i o=>cases h
 |aN k=>cases h
 |gY k=>cases h
 |fI g b x=>cases h
 |lQ g o=>cases h
 |top=>cases h
 |_=>rfl
theorem yh{e:Env}: ∀{l:List ab},ab.e3 l=true→e3 (ab.bP G e l)=true:=fun {l} h=>by
 match l with
 |[]=>rfl
 |x::r=>
  simp only[ab.e3,Bool.and_eq_true]at h;simp only[ab.bP,e3,UU h.1,yh h.2,Bool.and_self]
end
def tJ(G:a7)(N B:Nat)(M:List aQ)(t:aC)(e:Env)(aW:Nat):aO→Prop:=fun st=>
 ∃aS aB,run M t e=some (.ch,aS,aB)∧aS.cr∧aS.ct aB∧bW aW e aB∧aW≤aS.k∧st=aS.den G N B aB
theorem UW(bV:fO P G M inl){ops:Array Oper}{o:Oper}{S:ao}{e:Env}(ad:S.cr)(hf:S.ct e)(ai:(sb P N B T inl o S).safe M e)(ah:dN ops (S.den G N B e) o=some true):
 (nt o=true→Nu P G ops o (S.den G N B e) (tJ G N B M (sb P N B T inl o S) e S.k))∧(nt o=false→ki P G ops o (S.den G N B e) (tJ G N B M (sb P N B T inl o S) e S.k)):=by
 refine⟨fun hw=>?_,fun hw=>?_⟩
 ·unfold sb at ai⊢
  rw[hw]at ai⊢;simp only at ai⊢
  split at ai
  ·rename_i r aH
   split at ai
   ·rename_i hc
    simp only[Bool.and_eq_true]at hc;obtain⟨gU,gu⟩:=mF ai
    have bQ:bW S.k e (de M e S.k r.xs):=jS (Nat.le_refl _)
    have dC:=TS (G:=G) (M:=M) aH (de M e S.k r.xs) (ij bQ ad.g hf) (jy hc.1) gU
    rw[lu bQ ad]at dC;obtain⟨cJ,dH⟩:=TY (M:=M) (o:=o) ad hf hc.1 hc.2.1 hc.2.2;exact fun E a w ag=>⟨n1 ag ah,fun K Q hK=>dC E a w ag K Q fun bb w' dW=>hK _ ⟨(r.st S o.dst).e1 S.k r.xs,_,lU,cJ,dH,bQ,Nat.le_add_right _ _,rfl⟩ bb w' dW⟩
   ·exact ai.elim
  ·exact ai.elim
 ·unfold sb at ai⊢
  rw[hw]at ai⊢;simp only at ai⊢
  split at ai
  ·rename_i r aw
   split at ai
   ·rename_i hc
    simp only[Bool.and_eq_true]at hc;obtain⟨gU,gu⟩:=mF ai;obtain⟨b5,a2,a3⟩:=r7 (M:=M) (G:=G) (N:=N) (B:=B) ad hf hc.1
    have bQ:bW S.k e (de M e S.k r.xs):=jS (Nat.le_refl _)
    have dC:=vt (G:=G) (B:=B) (M:=M) aw (de M e S.k r.xs) (ij bQ ad.g hf) (jy hc.1) gU
    rw[lu bQ ad]at dC;exact ki.v dC ah ⟨(S.e1 S.k r.xs).put o.dst r.v,_,lU,jc b5 hc.2,jd a2,bQ,by rw[je];exact Nat.le_add_right _ _,by rw[fa,a3]⟩
   ·exact ai.elim
  ·split at ai
   ·rename_i f as vc
    split at ai
    ·rename_i gB
     simp only[Bool.and_eq_true]at gB;obtain⟨gB,NG⟩:=gB;obtain⟨g1,g2,g3⟩:=jf (inl f as ⟨.emp,[],0,S.k,S.g⟩) none ai;obtain⟨p,q',args,mV,vw,bG⟩:=T0 (G:=G) (B:=B) vc hf ad
     have Hw:(⟨.emp,[],0,S.k,S.g⟩:ao).cr:=⟨fun i x hx=>by simp[a8.get]at hx,rfl,ad.g⟩
     have ho:=bV f _ ⟨.emp,[],0,S.k,S.g⟩ e Hw bG hf g1
     have yi:=yh (G:=G) (e:=e) NG
     rw[mV]at ho yi;refine ki.call vw gB ah yi ho fun r bU ⟨C,ay,aV,dp,c7,gi,iN,kC,jH⟩=>?_
     have ak:=(g3 C ay aV).1
     have kf:ab.pure (C.at 0)=true:=by
      unfold Ny at ak
      split at ak
      ·assumption
      ·exact ak.elim
     refine⟨by rw[dp];exact UU kf,(⟨S.l,S.h,S.n,C.k,C.g⟩:ao).put o.dst (C.at 0),ay,?_,?_,jd iN,kC,by rw[je];exact jH,?_⟩
     ·rw[g2,aV]
      simp only[iA,Ny,kf];rfl
     ·refine jc ⟨fun i x hx=>gD jH (ad.l i x hx),tj jH ad.h,gi.g⟩ ?_
      show(C.at 0).lt C.k=true;unfold ao.at
      cases hC:C.l.get 0 with
      |none=>rfl
      |some y=>exact gi.l 0 y hC
     ·rw[fa,dp]
      have:=lu (G:=G) (N:=N) (B:=B) (S:=S) kC ad
      have ae:(ao.mk S.l S.h S.n C.k C.g).den G N B ay=S.den G N B e:=this
      rw[ae]
    ·exact ai.elim
   ·exact ai.elim
theorem zhs{o:Oper}{S:ao}{e:Env}(ad:S.cr)(hf:S.ct e):tJ G N B M (.cG .ch (S.put o.dst (.tp []))) e S.k ((S.den G N B e).put o.dst (.tuple [])):=
 ⟨S.put o.dst (.tp []),e,rfl,jc ad rfl,jd hf,bW.refl _ _,by rw[je];exact Nat.le_refl _,by rw[fa];rfl⟩
theorem ki.mono{ops:Array Oper}{o:Oper}{s:aO}{A UX:aO→Prop}(h:ki P G ops o s A)(dn: ∀t,A t→UX t):ki P G ops o s UX:=fun E a w ag=>by
 rcases h E a w ag with⟨aa,ae⟩|⟨aa,t,ae,au⟩
 ·exact .inl ⟨aa,fun K Q hK=>ae K Q fun t aG=>hK t (dn t aG)⟩
 ·exact .inr ⟨aa,t,dn t ae,au⟩
theorem UY(bV:fO P G M inl){ops:Array Oper}{o:Oper}{S:ao}{e:Env}(ad:S.cr)(hf:S.ct e)(ai:(qR P N B T inl ops o S).safe M e):
 (nt o=true→Nu P G ops o (S.den G N B e) (tJ G N B M (qR P N B T inl ops o S) e S.k))∧(nt o=false→ki P G ops o (S.den G N B e) (tJ G N B M (qR P N B T inl ops o S) e S.k)):=by
 have ah:=ML (G:=G) (N:=N) (B:=B) (ops:=ops) (o:=o) hf
 unfold qR at ai⊢
 cases iW:guardOf N ops S o with
 |yes=>
  rw[iW]at ah ai;exact UW bV ad hf ai ah
 |no=>
  rw[iW]at ah ai;simp only at ai⊢
  split at ai
  ·rename_i hw
   exact⟨fun h=>(by rw[hw]at h;cases h),fun _=>.no ah (zhs ad hf)⟩
  ·exact ai.elim
 |bad=>rw[iW]at ai;exact ai.elim
 |on gs=>
  rw[iW]at ah ai;simp only at ai⊢;obtain⟨g1,g2⟩:=ah
  split at ai
  ·rename_i UZ
   simp only[Bool.and_eq_true,Bool.not_eq_true']at UZ;obtain⟨kM,hw⟩:=UZ;refine⟨fun h=>(by rw[hw]at h;cases h),fun _=>?_⟩
   split at ai
   ·rename_i q aw
    split at ai
    ·rename_i hc
     simp only[Bool.and_eq_true]at hc;obtain⟨gU,gu⟩:=mF ai;obtain⟨b5,a2,a3⟩:=r7 (M:=M) (G:=G) (N:=N) (B:=B) ad hf hc.1
     have bQ:bW S.k e (de M e S.k q.xs):=jS (Nat.le_refl _)
     have hW:fM (de M e S.k q.xs) gs=fM e gs:=E8 bQ kM
     have aj:S.k≤S.k+q.xs.length:=Nat.le_add_right _ _
     have fC:(kg gs q.v).lt (S.k+q.xs.length)=true:=E6 (E7 aj kM) hc.2
     have hM: ∀t,t=(S.den G N B e).put o.dst ((kg gs q.v).den G (de M e S.k q.xs))→tJ G N B M (emit S.k q.xs (q.ns.map (qM gs)) (.cG .ch ((S.e1 S.k q.xs).put o.dst (kg gs q.v)))) e S.k t:=fun t aG=>
      ⟨(S.e1 S.k q.xs).put o.dst (kg gs q.v),_,lU,jc b5 fC,jd a2,bQ,by rw[je];exact Nat.le_add_right _ _,by rw[fa,a3,aG]⟩
     cases ft:fM e gs with
     |true=>
      have h4:=x1 hf ft
      have ig:=xZ ad kM
      have dC:=vt (G:=G) (B:=B) (M:=M) aw (de M e S.k q.xs) (ij bQ ig.g h4) (jy hc.1) fun n hn=>Fb (gU (qM gs n) (List.mem_map.2 ⟨n,hn,rfl⟩)) (hW.trans ft)
      have x3:({S with g:=hy gs S.g}:ao).den G N B (de M e S.k q.xs)=S.den G N B e:=lu (S:={S with g:=hy gs S.g}) bQ ig
      rw[x3]at dC;exact ki.v dC (g1 ft) (hM _ (by rw[E9 (hW.trans ft)]))
     |false=>exact ki.no (g2 ft) (hM _ (by rw[Fa (hW.trans ft)]))
    ·exact ai.elim
   ·cases ft:fM e gs with
    |false=>
     obtain⟨h1,c0,df,gX⟩:=MO (M:=M) (x:=sb P N B T inl o {S with g:=hy gs S.g}) (y:=r6 S o.dst) (l:=S.g) ft kM ad.g hf
     obtain⟨aS,r3,pC,MR,MS,MT⟩:=T7 (G:=G) (N:=N) (B:=B) (dst:=o.dst) ad df gX;exact ki.no (g2 ft) ⟨aS,e,by rw[c0,r3];rfl,pC,MR,bW.refl _ _,MS,MT.symm⟩
    |true=>
     have h4:=x1 hf ft
     have ig:=xZ ad kM
     obtain⟨f1,f2⟩:=MN (M:=M) (x:=sb P N B T inl o {S with g:=hy gs S.g}) (y:=r6 S o.dst) (l:=S.g) ft
     refine ki.mono ((UW bV (S:={S with g:=hy gs S.g}) ig h4 (f2 ai) (g1 ft)).2 hw) fun t ⟨aS,aB,aa,ae⟩=>⟨aS,aB,?_,ae⟩
     rw[f1];exact aa
  ·exact ai.elim
theorem U0{ops:Array Oper}{o:Oper}{S:ao}{e:Env}{k:ao→aC}(X:aO→aO→Prop)(c:ao→Prop)
 (aq: ∀(S:ao) (r:dr) (e:Env),c S→sa P N S o=some r→S.ct e→(∀(j:Nat) (x:bJ),r.xs[j]? =some x→Env.at e (S.k+j)=x.den M e)→(∀n∈r.ns,n.ok M e)→dN ops (S.den G N B e) o=some true→X (S.den G N B e) ((S.den G N B e).put o.dst (r.v.den G e)))
 (aj: ∀s,dN ops s o=some false→X s (s.put o.dst (.tuple [])))(hC:guardOf N ops S o= .yes→c S)(Dx: ∀gs,guardOf N ops S o= .on gs→c {S with g:=hy gs S.g})(ad:S.cr)(hf:S.ct e)(ai:(tI P N ops o S k).safe M e):
 ∃aS aB,aS.cr∧aS.ct aB∧bW S.k e aB∧S.k≤aS.k∧(k aS).safe M aB∧run M (tI P N ops o S k) e=run M (k aS) aB∧X (S.den G N B e) (aS.den G N B aB):=by
 have ah:=ML (G:=G) (N:=N) (B:=B) (ops:=ops) (o:=o) hf
 unfold tI at ai⊢
 cases iW:guardOf N ops S o with
 |bad=>rw[iW]at ai;exact ai.elim
 |no=>
  rw[iW]at ah ai
  have:=aj _ ah
  exact⟨S.put o.dst (.tp []),e,jc ad rfl,jd hf,bW.refl _ _,by rw[je];exact Nat.le_refl _,ai,rfl,by rw[fa];exact this⟩
 |yes=>
  rw[iW]at ah ai;simp only at ai⊢
  split at ai
  ·rename_i q aw
   split at ai
   ·rename_i hc
    simp only[Bool.and_eq_true]at hc;obtain⟨gU,gu⟩:=mF ai;obtain⟨b5,a2,a3⟩:=r7 (M:=M) (G:=G) (N:=N) (B:=B) ad hf hc.1
    have bQ:bW S.k e (de M e S.k q.xs):=jS (Nat.le_refl _)
    have hd:=lu (G:=G) (N:=N) (B:=B) bQ ad
    have dC:=aq _ _ _ (hC iW) aw (ij bQ ad.g hf) (jy hc.1) gU (by rw[hd];exact ah)
    rw[hd]at dC;exact⟨(S.e1 S.k q.xs).put o.dst q.v,_,jc b5 hc.2,jd a2,bQ,by rw[je];exact Nat.le_add_right _ _,gu,lU,by rw[fa,a3];exact dC⟩
   ·exact ai.elim
  ·exact ai.elim
 |on gs=>
  rw[iW]at ah ai;simp only at ai⊢;obtain⟨g1,g2⟩:=ah
  split at ai
  ·rename_i kM
   split at ai
   ·rename_i q aw
    split at ai
    ·rename_i hc
     simp only[Bool.and_eq_true]at hc;obtain⟨gU,gu⟩:=mF ai;obtain⟨b5,a2,a3⟩:=r7 (M:=M) (G:=G) (N:=N) (B:=B) ad hf hc.1
     have bQ:bW S.k e (de M e S.k q.xs):=jS (Nat.le_refl _)
     have hW:fM (de M e S.k q.xs) gs=fM e gs:=E8 bQ kM
     have rk:S.k≤S.k+q.xs.length:=Nat.le_add_right _ _
     have fC:(kg gs q.v).lt (S.k+q.xs.length)=true:=E6 (E7 rk kM) hc.2
     refine⟨(S.e1 S.k q.xs).put o.dst (kg gs q.v),_,jc b5 fC,jd a2,bQ,by rw[je];exact Nat.le_add_right _ _,gu,lU,?_⟩
     rw[fa,a3]
     cases ft:fM e gs with
     |true=>
      have h4:=x1 hf ft
      have ig:=xZ ad kM
      have x3:({S with g:=hy gs S.g}:ao).den G N B (de M e S.k q.xs)=S.den G N B e:=lu (S:={S with g:=hy gs S.g}) bQ ig
      have dC:=aq _ _ _ (Dx gs iW) aw (ij bQ ig.g h4) (jy hc.1) (fun n hn=>Fb (gU (qM gs n) (List.mem_map.2 ⟨n,hn,rfl⟩)) (hW.trans ft)) (by rw[x3];exact g1 ft)
      rw[x3]at dC;rw[E9 (hW.trans ft)];exact dC
     |false=>
      rw[Fa (hW.trans ft)];exact aj _ (g2 ft)
    ·exact ai.elim
   ·exact ai.elim
  ·exact ai.elim
theorem zht{ops:Array Oper}{o:Oper}{S:ao}{e:Env}{k:ao→aC}(ad:S.cr)(hf:S.ct e)(ai:(tI P N ops o S k).safe M e):
 ∃aS aB,aS.cr∧aS.ct aB∧bW S.k e aB∧S.k≤aS.k∧(k aS).safe M aB∧run M (tI P N ops o S k) e=run M (k aS) aB∧jQ P G ops o (S.den G N B e) (aS.den G N B aB):=
 U0 (jQ P G ops o) (fun _=>True) (fun _ _ _ _ aw hf hx hn ah=>zhq aw hf hx hn ah) (fun _ h=>(hq.skip h).l) (fun _=>trivial) (fun _ _=>trivial) ad hf ai
theorem hq.sc{ops:Array Oper}{o:Oper}{s:aO}{v:aD}(h:my P G o s v)(ah:dN ops s o=some true):hq P G ops o s (s.put o.dst v):=by
 intro E a w ⟨β,ro,ag⟩
 have hw:=n1 (ops:=ops) ⟨β,ro,ag⟩ ah
 obtain⟨c,aa,ae⟩:=h E a w β ro ag
 exact⟨c,.inl ⟨hw,aa⟩,β,ro,ag.put _ _ _ ae⟩
theorem zhu{ops:Array Oper}{o:Oper}{S:ao}{r:dr}{e:Env}(ak:pop P N S o=true)(h:sa P N S o=some r)(hf:S.ct e)(hx: ∀(j:Nat) (x:bJ),r.xs[j]? =some x→Env.at e (S.k+j)=x.den M e)(hn: ∀n∈r.ns,n.ok M e)(ah:dN ops (S.den G N B e) o=some true):
 hq P G ops o (S.den G N B e) ((S.den G N B e).put o.dst (r.v.den G e)):=by
 unfold sa at h
 unfold pop at ak
 split at h
 ·rename_i x an
  cases h
  have:j9 P G o (S.den G N B e)=some ((S.aY N x).den G e):=by unfold j9;rw[an,←bH hf]
  exact hq.val this ah
 ·rename_i x an
  cases h
  have:j9 P G o (S.den G N B e)=some ((S.aY N x).den G e):=by unfold j9;rw[an,←bH hf]
  exact hq.val this ah
 ·rename_i x an
  split at h
  ·rename_i aH
   cases h
   have:j9 P G o (S.den G N B e)=some ((S.aY N x).den G e):=by
    unfold j9;rw[an];simp only[bH hf,vn aH]
   exact hq.val this ah
  ·cases h
 ·rename_i t x f an
  split at h
  ·rename_i k aj aH
   split at h
   ·rename_i p ai
    cases h
    have:j9 P G o (S.den G N B e)=some (p.den G e):=by
     unfold j9;rw[an];simp only[aj,bH hf,vn aH,AE ai]
    exact hq.val this ah
   ·cases h
  ·cases h
 ·rename_i t x an
  rw[an]at ak;cases ak
 ·rename_i t x i an
  split at h
  ·rename_i id bc
   exact hq.sc (UQ an bc h hf hx hn) ah
  ·rename_i id off bc
   exact hq.sc (US an bc h hf hn) ah
  ·exact hq.sc (UP an h hf hx hn) ah
 ·rename_i t x lo hi an
  split at h
  ·rename_i eP ai
   cases h;exact hq.sc (UT an ai hf hx hn) ah
  ·rename_i ai
   rw[an]at ak;simp only[ai,Option.isSome_none]at ak;cases ak
 ·rename_i aa ae au aP bE cF dZ
  split at ak
  ·rename_i x an;exact absurd an (aa x)
  ·rename_i x an;exact absurd an (ae x)
  ·rename_i x an;exact absurd an (au x)
  ·rename_i t x f an;exact absurd an (aP t x f)
  ·rename_i t x i an;exact absurd an (cF t x i)
  ·rename_i t x lo hi an;exact absurd an (dZ t x lo hi)
  ·cases ak
theorem zhv{ops:Array Oper}{o:Oper}{S:ao}{e:Env}{k:ao→aC}(ak:yg P N ops S o=true)(ad:S.cr)(hf:S.ct e)(ai:(tI P N ops o S k).safe M e):
 ∃aS aB,aS.cr∧aS.ct aB∧bW S.k e aB∧S.k≤aS.k∧(k aS).safe M aB∧run M (tI P N ops o S k) e=run M (k aS) aB∧hq P G ops o (S.den G N B e) (aS.den G N B aB):=
 U0 (hq P G ops o) (fun S=>pop P N S o=true) (fun _ _ _ hc aw hf hx hn ah=>zhu hc aw hf hx hn ah) (fun _ h=>hq.skip h)
  (fun ah=>by unfold yg at ak;rw[ah]at ak;exact ak) (fun gs ah=>by unfold yg at ak;rw[ah]at ak;exact ak) ad hf ai
theorem zhw{x y:b4}(h:Nz x y=true):x=y:=by
 unfold Nz at h
 split at h
 ·simp only[Bool.and_eq_true,decide_eq_true_eq]at h;rw[Nat.eq_of_beq_eq_true h.1,h.2.1,e0 h.2.2]
 ·simp only[Bool.and_eq_true,decide_eq_true_eq]at h
  obtain⟨⟨aa,ae⟩,au,aP⟩:=h
  cases Nat.eq_of_beq_eq_true aa;cases ae;rw[e0 au,e0 aP]
 ·simp only[Bool.and_eq_true]at h;rw[Nat.eq_of_beq_eq_true h.1,e0 h.2]
 ·simp only[Bool.and_eq_true,decide_eq_true_eq]at h;rw[e0 h.1,h.2]
 ·cases h
theorem U1: ∀{l m:List b4},FA l m=true→l=m
 |[],[],_=>rfl
 |[],_::_,h=>by cases h
 |_::_,[],h=>by cases h
 |x::l,y::m,h=>by
  simp only[FA,Bool.and_eq_true]at h;rw[zhw h.1,U1 h.2]
theorem zhx{x y:bF}(h:NA x y=true):x=y:=by
 unfold NA at h
 split at h
 ·simp only[Bool.and_eq_true]at h;rw[Nat.eq_of_beq_eq_true h.1,r1 h.2]
 ·simp only[Bool.and_eq_true,decide_eq_true_eq]at h;rw[Nat.eq_of_beq_eq_true h.1,h.2.1,e0 h.2.2]
 ·simp only[Bool.and_eq_true,decide_eq_true_eq]at h;rw[h.1,e0 h.2.1,e0 h.2.2]
 ·cases h
theorem U2: ∀{l m:List (Nat × bF)},FB l m=true→l=m
 |[],[],_=>rfl
 |[],_::_,h=>by cases h
 |_::_,[],h=>by cases h
 |(i,x)::l,(j,y)::m,h=>by
  simp only[FB,Bool.and_eq_true]at h;rw[Nat.eq_of_beq_eq_true h.1,zhx h.2.1,U2 h.2.2]
theorem NH: ∀{l m:a8 ab},Bj l m=true→l=m
 | .emp,.emp,_=>rfl
 | .emp,.n _ _ _,h=>by cases h
 | .n _ _ _,.emp,h=>by cases h
 | .n v l r,.n w m s,h=>by
  simp only[Bj,Bool.and_eq_true]at h;rw[NH h.2.1,NH h.2.2]
  have aa:=h.1
  cases v<;>cases w<;>first|rfl|(cases aa;done)|(rw[e0 aa])
theorem zhy{S U:ao}(h:NB S U=true):S=U:=by
 obtain⟨b5,a2,a3,a4,a5⟩:=S
 obtain⟨gp,im,hU,tu,xJ⟩:=U
 simp only[NB,Bool.and_eq_true]at h
 obtain⟨⟨aa,ae⟩,⟨au,aP⟩,bE⟩:=h
 rw[NH aa,U2 ae,Nat.eq_of_beq_eq_true au,Nat.eq_of_beq_eq_true aP,U1 bE]
theorem zhz{x y:bJ}(h:NC x y=true):x=y:=by
 unfold NC at h
 split at h<;>(try simp only[Bool.and_eq_true,decide_eq_true_eq]at h)
 ·rw[Nat.eq_of_beq_eq_true h.1,r1 h.2]
 ·rw[h.1,Nat.eq_of_beq_eq_true h.2.1,Nat.eq_of_beq_eq_true h.2.2]
 ·obtain⟨aa,ae⟩:=h;subst aa;rw[e0 ae]
 ·obtain⟨aa,ae,au⟩:=h;subst aa;rw[e0 ae,e0 au]
 ·obtain⟨⟨aa,ae⟩,au,aP⟩:=h;subst aa ae;rw[e0 au,e0 aP]
 ·obtain⟨⟨aa,ae⟩,au,aP⟩:=h;subst aa ae;rw[e0 au,e0 aP]
 ·cases h
theorem zhA{x y:fe}(h:ND x y=true):x=y:=by
 unfold ND at h
 split at h<;>(try simp only[Bool.and_eq_true,decide_eq_true_eq]at h)
 ·obtain⟨⟨aa,ae⟩,au,aP⟩:=h;subst ae;rw[Nat.eq_of_beq_eq_true aa,e0 au,e0 aP]
 ·rw[Nat.eq_of_beq_eq_true h.1,r1 h.2]
 ·rw[Nat.eq_of_beq_eq_true h.1,e0 h.2]
 ·cases h
theorem zhB: ∀{t u:aC},qS t u=true→t=u:=fun {t}=>by
 induction t with
 |cG x S=>
  intro u h;unfold qS at h
  split at h<;>first|(cases h;done)|skip
  all_goals rename_i heq
  all_goals first|(cases heq;rw[zhy h];done)|cases heq
 |lt i x t aX=>
  intro u h
  cases u with
  |lt j y u=>
   simp only[qS,Bool.and_eq_true]at h;rw[Nat.eq_of_beq_eq_true h.1,zhz h.2.1,aX h.2.2]
  |_=>simp[qS]at h
 |eF n t aX=>
  intro u h
  cases u with
  |eF m u=>
   simp only[qS,Bool.and_eq_true]at h;rw[zhA h.1,aX h.2]
  |_=>simp[qS]at h
 |_=>intro u h;simp[qS]at h
theorem zhC{l:List aC}{e:Env}(h:(Bk l).safe M e): ∃S,Bk l=S∧∀t∈l,t=S:=by
 unfold Bk at h⊢
 split at h
 ·rename_i t r
  split at h
  ·rename_i ai
   refine⟨t,by simp only[ai],fun u hu=>?_⟩
   rcases List.mem_cons.1 hu with rfl|hu
   ·rfl
   ·exact(zhB (List.all_eq_true.1 ai u hu)).symm
  ·exact h.elim
 ·exact h.elim
theorem Bl(bV:fO P G M inl){L:List Oper}{wr:List Bool}(ln:Region.noSelect L.toArray=true){Q:Exit→aO→Prop}: ∀(n:Nat) (m:List Bool) {S:ao} {e:Env},S.cr→S.ct e→(qT P N B T inl L.toArray wr n m S).safe M e→(∀st,jA G N B M (qT P N B T inl L.toArray wr n m S) e S.k .normal st→Q .normal st)→fH P G L Q wr n m (S.den G N B e)
 |0,m,S,e,ad,hf,ai,eu=>by
  unfold qT at ai eu
  split at ai
  ·rename_i ag
   rw[ag]at eu;exact fH.done (eu _ ⟨.ch,S,e,rfl,trivial,cm.refl _,ad,hf,bW.refl _ _,Nat.le_refl _⟩) ag
  ·exact ai.elim
 |n+1,m,S,e,ad,hf,ai,eu=>by
  unfold qT at ai eu
  cases ag:Region.ready .any L.toArray m.toArray with
  |nil=>
   rw[ag]at eu;exact fH.done (eu _ ⟨.ch,S,e,rfl,trivial,cm.refl _,ad,hf,bW.refl _ _,Nat.le_refl _⟩) ag
  |cons i rd=>
   rw[ag]at ai eu;simp only at ai eu
   split at ai
   ·rename_i j lK
    rw[lK]at eu;simp only at eu
    split at ai
    ·rename_i o an hc
     rw[an,hc]at eu;simp only[Bool.and_eq_true,Bool.not_eq_true']at hc;simp only at eu
     split at ai
     ·rename_i yi
      rw[yi]at eu;simp only at eu
      cases U3:yg P N L.toArray S o with
      |true=>
       obtain⟨aS,aB,s1,s2,kv,ky,kz,kA,kW⟩:=zhv (G:=G) (B:=B) U3 ad hf ai;exact fH.zhi j (by simpa using an) kW (Bl bV ln n (m.set j true) s1 s2 kz fun st ak=>eu st (ak.sub kA kv ky)) ln hc.2.1 (by rw[ag];exact hc.1) hc.2.2
      |false=>
       rw[U3,Bool.false_or]at yi;obtain⟨aS,aB,s1,s2,kv,ky,kz,kA,kW⟩:=zht (G:=G) (B:=B) ad hf ai;exact fH.zhh j (by simpa using an) kW (Bl bV ln n (m.set j true) s1 s2 kz fun st ak=>eu st (ak.sub kA kv ky)) ln hc.2.1 (by rw[ag];exact hc.1) yi
     ·exact ai.elim
    ·exact ai.elim
   ·rename_i lK
    rw[lK]at eu;simp only at eu
    split at ai
    ·rename_i o an
     rw[an]at eu;simp only at eu
     split at ai
     ·rename_i qU
      rw[qU]at eu
      have qU:=of_decide_eq_true qU
      simp only at eu;obtain⟨t1,_,t3⟩:=Mu (G:=G) (B:=B) ad hf ai
      have next: ∀t,tJ G N B M (qR P N B T inl L.toArray o S) e S.k t→fH P G L Q wr n (m.set i true) t:=fun t ⟨aS,aB,aa,ae,au,aP,bE,cF⟩=>by
       subst cF;obtain⟨dO,bd,c0,df,gX,pD,Bm,yj,NI⟩:=t3 aS aB aa ae au aP bE
       have:=Bl bV ln n (m.set i true) df gX yj fun st ak=>eu st (ak.sub NI pD Bm)
       exact fun E a w ag=>this E a w (c0 E G a w ag)
      obtain⟨ar,b6⟩:=UY (G:=G) (B:=B) (T:=T) bV ad hf t1
      cases hw:nt o with
      |true=>exact fH.zhj (by simpa using an) ag (qU.trans hw) (ar hw) next
      |false=>exact fH.one (by simpa using an) ag (qU.trans hw) (b6 hw) next
     ·exact ai.elim
    ·rename_i _ rd _ _ gd
     have U4: ∀st,jA G N B M (Bk ((i::rd).map fun j=>match L.toArray[j]? with
      |some o=>match decide (wr.getD j false=nt o)with
       |true=>qK N S o.dst (Fz N L.toArray S o) (qR P N B T inl L.toArray o S) (qT P N B T inl L.toArray wr n (m.set j true))
       |false=>.bad 78
      |none=>.bad 77)) e S.k .normal st→Q .normal st:=fun st ak=>eu st (by
      split
      ·rename_i cz lB;exact(gd cz rfl lB).elim
      ·exact ak)
     clear eu;obtain⟨U,sx,eb⟩:=zhC ai;rw[sx]at U4 ai;refine fH.any (by rw[ag];simp) fun j af=>?_
     rw[ag]at af
     have yk:=eb _ (List.mem_map.2 ⟨j,af,rfl⟩)
     split at yk
     ·rename_i o an
      split at yk
      ·rename_i qU
       have qU:=of_decide_eq_true qU
       have eW:(qK N S o.dst (Fz N L.toArray S o) (qR P N B T inl L.toArray o S) (qT P N B T inl L.toArray wr n (m.set j true))).safe M e:=by rw[yk];exact ai
       obtain⟨t1,_,t3⟩:=Mu (G:=G) (B:=B) ad hf eW;refine⟨o,by simpa using an,tJ G N B M (qR P N B T inl L.toArray o S) e S.k,fun t ⟨aS,aB,aa,ae,au,aP,bE,cF⟩=>?_,fun E a w dA=>?_⟩
       ·subst cF
        obtain⟨dO,bd,c0,df,gX,pD,Bm,yj,NI⟩:=t3 aS aB aa ae au aP bE
        have:=Bl bV ln n (m.set j true) df gX yj fun st ak=>U4 st (by rw[←yk];exact ak.sub NI pD Bm)
        exact fun E a w ag=>this E a w (c0 E G a w ag)
       ·obtain⟨ar,b6⟩:=UY (G:=G) (B:=B) (T:=T) bV ad hf t1
        cases hw:nt o with
        |true=>
         obtain⟨y1,rX⟩:=ar hw E a w dA;exact .inl ⟨y1,fun K Q hK=>rX K Q fun t aG bb w' dW=>hK t aG bb w' dW (.inl (qU.trans hw))⟩
        |false=>
         rcases b6 hw E a w dA with⟨y1,rX⟩|⟨y1,rX⟩
         ·exact .inl ⟨y1,fun K Q hK=>rX K Q fun t aG bb w' dW aj=>hK t aG bb w' dW (.inr aj)⟩
         ·exact .inr ⟨qU.trans hw,y1,rX⟩
      ·rw[←yk]at ai;exact ai.elim
     ·rw[←yk]at ai;exact ai.elim
theorem zhD(bV:fO P G M inl):MZ P G N B M (NF P N B T inl):=by
 intro id ops S e ad hf ai
 have iX:ops=ops.toList.toArray:=by simp
 rw[iX]at ai⊢
 generalize ops.toList=L at ai⊢
 unfold NF at ai⊢
 split at ai
 ·rename_i hc
  simp only[Bool.and_eq_true]at hc;refine b1.zhl _ (Bl bV hc.2 _ _ ad hf ai fun st ak=>ak) hc.1 (by simp)
 ·exact ai.elim
def jG.all(P:Program)(T:List (Nat × bK)):jG:=⟨fun N B _=>Np N B,fun N B inl=>NF P N B T inl⟩
theorem Hu:M4 P G M (jG.all P T):=fun _ bV _ _=>⟨zhd,zhD bV⟩
end
end Go.aK
namespace Go.aK
open Go
section
variable {P:Program} {G:a7} {f:FuncId} {args:List aD} {σ:Heap} {n:Nat} {R:aD→Heap→Prop}
theorem dF.arg{rO:List aD}(h:dF P G f args σ n R)(aZ:fT rO args):dF P G f rO σ n R:=by
 intro w β ro ec aa ae au aP bE
 refine h w β ro ec (by rw[aa,aZ.at.1]) (fun i x hx=>?_) au aP bE
 obtain⟨y,ax,ai⟩:=aZ.at.2 i x hx
 exact ai _ _ _ _ _ _ (ae i y ax)
theorem dF.res{rp:aD→Heap→Prop}(h:dF P G f args σ n R)(aH: ∀r bU,R r bU→rp r bU):dF P G f args σ n rp:=by
 intro w β ro ec aa ae au aP bE
 refine Calls.mono (h w β ro ec aa ae au aP bE) fun e w' ⟨v,dG,eU,dL,ro',cI,he,cF,mO⟩=>?_
 exact⟨v,dG,eU,dL,ro',cI,he,aH _ _ cF,mO⟩
theorem lf(β:Nat→Value)(b:Nat): ¬Own ([]:Heap) β b:=fun⟨_,_,ah,_⟩=>by simp[aE]at ah
theorem dF.frame(h:dF P G f args [] 0 R)(ak:e3 args=true)(fP: ∀r bU,R r bU→fE r=true):dF P G f args σ n fun r bU=>bU=σ∧∃fF,R r fF:=by
 intro w β ro ec aa ae au aP bE
 refine Calls.mono (h w β ro ec aa (fun i x hx=>nV (ae i x hx) (m3 ak hx)) ⟨by simp[aE],by simp[aE],fun b _=>lf β b,au.lt⟩ aP (by simp[aE])) fun e w' ⟨v,r,fF,dL,ro',cI,he,ag,dA,hO,cD⟩=>?_
 have lL: ∀b,b<w.heap.size→w'.heap[b]? =w.heap[b]? :=fun b ad=>cD.frame b ad (lf β b)
 have e2:c2 ⟨w,ro,σ,β,n⟩ G ⟨[],σ,n,n⟩ ⟨#[],[]⟩ w β ro:=⟨rfl,rfl,by simp,au,aP,⟨rfl,rfl,rfl,Nat.le_refl _,fun _ _ _=>rfl,fun _ h=>.inl h,fun _ h=>h,fun _ h=>.inl h,fun id _ o ah=>⟨by simp[ah],rfl⟩,bE,Nat.le_refl _⟩,Nat.le_refl _⟩
 have cT:=e2.grow (w':=w') (ro':=ro') cD.os cD.tape cD.output cD.size lL cD.j1 (fun b ad=>by
  rcases cD.jk b ad with q|q|q
  ·exact .inl q
  ·exact absurd q (lf β b)
  ·exact .inr ⟨q,hO.lt b ad⟩)
 exact⟨v,r,σ,β,ro',n,he,⟨rfl,fF,ag⟩,nV dA (fP r fF ag),cT.heap,cT.trans⟩
theorem dF.zhE{rO:List aD}(h:dF P G f args [] 0 R)(aZ:fT (h5 σ rO) args)(ak:e3 (h5 σ rO)=true)(fP: ∀r bU,R r bU→jO r=true):dF P G f rO σ n fun r bU=>bU=σ∧∃fF,R r fF:=by
 have h:=h.arg aZ
 intro w β ro ec aa ae au aP bE
 have nS: ∀b,Own σ β b→b<w.heap.size:=fun b ⟨k,p,aj,ak,bf⟩=>(au.c5 k p aj).hJ ak bf
 refine Calls.mono (h w β (u1 ro σ β) ec (by rw[uZ];exact aa) (fun i x hx=>?_) ⟨by simp[aE],by simp[aE],fun b _=>lf β b,fun b ad=>ad.elim (au.lt b) (nS b)⟩
  (aP.keep (fun _ _=>rfl) fun _ h=>.inl h) (by simp[aE])) fun e w' ⟨v,r,fF,dL,ro',cI,he,ag,dA,hO,cD⟩=>?_
 ·obtain⟨z,aR,rfl⟩:=u0 _ hx
  exact nV (KC au (ae i z aR)) (m3 ak hx)
 have lL: ∀b,b<w.heap.size→w'.heap[b]? =w.heap[b]? :=fun b ad=>cD.frame b ad (lf β b)
 have e2:c2 ⟨w,ro,σ,β,n⟩ G ⟨[],σ,n,n⟩ ⟨#[],[]⟩ w β ro:=⟨rfl,rfl,by simp,au,aP,⟨rfl,rfl,rfl,Nat.le_refl _,fun _ _ _=>rfl,fun _ h=>.inl h,fun _ h=>h,fun _ h=>.inl h,fun id _ o ah=>⟨by simp[ah],rfl⟩,bE,Nat.le_refl _⟩,Nat.le_refl _⟩
 have cT:=e2.grow (w':=w') (ro':=ro) cD.os cD.tape cD.output cD.size lL (fun _ h=>h) (fun _ h=>.inl h)
 exact⟨v,r,σ,β,ro,n,he,⟨rfl,fF,ag⟩,DI dA (fP r fF ag),cT.heap,cT.trans⟩
end
def aF.fm(d:aF):aD:=
 match d with
 |⟨.st c,x⟩=>.agg ((b9 c x).map .av)
 |⟨r,x⟩=>.av (fG r x)
def nu(rs:List aU)(x:(fb rs).den):List aD:=(dx rs x).map aF.fm
def kP(rs:List aU)(x:(fb rs).den):aD:=
 match nu rs x with
 |[v]=>v
 |l=>.tuple l
structure h9 where
 f:Nat
 j:Nat
 ps:List aU
 rs:List aU
 eO:Bool
def bI(P:Program)(G:a7)(f:Nat)(m:aQ):Prop:=
 ∀x:(fb m.ps).den,kO m.pre x→dF P G f (nu m.ps x) [] 0 fun v _=>v=kP m.rs (m.m x)
def U5(P:Program)(G:a7)(M:List aQ)(c:h9):Prop:=
 (eT aQ.d M c.j).ps=c.ps∧(eT aQ.d M c.j).rs=c.rs∧bI P G c.f (eT aQ.d M c.j)∧(c.eO=true→(eT aQ.d M c.j).pre=none)
def rn(P:Program)(G:a7)(M:List aQ)(C:List h9):Prop:=∀c∈C,U5 P G M c
def Bn(f:Nat):List h9→Option h9
 |[]=>none
 |c::r=>match Nat.beq c.f f with
  |true=>some c
  |false=>Bn f r
def Bo(r:aU)(i:Nat):ab:=
 match r with
 | .st c=>.cg (iS c i 0 (eX c))
 |r=>.aT r i
def hz:Nat→List aU→List ab
 |_,[]=>[]
 |i,r::rs=>Bo r i::hz (i+1) rs
def oj(rs:List aU)(p:Nat):Nat→List aU→List bJ
 |_,[]=>[]
 |i,_::r=>.rS rs p i::oj rs p (i+1) r
def aU.iz:aU→Bool
 | .st _=>true
 |r=>r.one
def aU.tK:aU→Bool
 | .int _=>true
 | .bool=>true
 | .str=>true
 | .st c=>(eX c).all aU.cmp
 |_=>false
def NJ(S:ao)(r:aU)(a:ab):Option ab:=
 match r,a with
 | .st c,.cg l=>match hs (eX c) l with
  |true=>some a
  |false=>none
 | .li c,.aN id=>match c9 S.h id with
  |some (.rw _ d x)=>match decide (c=d)&&x.ey (.li c)with
   |true=>some x
   |false=>none
  |_=>none
 | .mp k v,.gY id=>match c9 S.h id with
  |some (.it (.mp bj bg) _ x)=>match(hR bj k&&hR bg v)&&x.ey (.mp k v)with
   |true=>some x
   |false=>none
  |_=>none
 |r,a=>match r.one&&a.ey r with
  |true=>some a
  |false=>none
def sd(S:ao):List aU→List ab→Option (List ab)
 |[],[]=>some []
 |r::rs,a::as=>match NJ S r a,sd S rs as with
  |some x,some l=>some (x::l)
  |_,_=>none
 |_,_=>none
def tL:List ab→Bool
 |[]=>true
 | .aN _::_=>false
 | .gY _::_=>false
 |_::r=>tL r
def iD(c:h9)(as:List ab)(k:Nat):List bJ:=
 match c.rs with
 |[_]=>[.ca c.j as]
 |rs=>.ca c.j as::oj rs k 0 rs
def yl(c:h9)(k:Nat):ab:=
 match c.rs with
 |[r]=>Bo r k
 |rs=>.tp (hz (k+1) rs)
def FC(S:ao)(xs:List bJ)(v:ab):ao:={S with l:=a8.put .emp 0 v,k:=S.k+xs.length}
def FD(c:h9)(xs:List ab):List fe:=
 match c.eO with
 |true=>[]
 |false=>[.ca c.j xs]
def NK(C:List h9)(inl:Nat→List ab→ao→aC)(f:Nat)(as:List ab)(S:ao):aC:=
 match Bn f C with
 |none=>inl f as S
 |some c=>match sd S c.ps as with
  |none=>inl f as S
  |some xs=>match c.rs.all aU.iz&&(tL as||c.rs.all aU.tK)&&(ab.cK S.k xs&&ab.r5 S.n (yl c S.k))with
   |true=>emit S.k (iD c xs S.k) (FD c xs) (.cG .ch (FC S (iD c xs S.k) (yl c S.k)))
   |false=>inl f as S
theorem ym: ∀{rs:List aU} {ds:List aF},ds.map aF.r=rs→dx rs (b8 rs ds)=ds
 |[],[],_=>rfl
 |[],_::_,h=>by cases h
 |[r],ds,h=>by
  obtain⟨d,pf,rfl,aa,ae⟩:=lN h
  cases mw ae
  subst aa;show[⟨d.r,d.as d.r⟩]=[d];rw[Ah]
 |r::s::l,ds,h=>by
  obtain⟨d,pf,rfl,aa,ae⟩:=lN h;subst aa;show(⟨d.r,d.as d.r⟩:aF)::dx (s::l) (b8 (s::l) pf)=d::pf;rw[Ah,ym ae]
theorem tM: ∀{rs:List aU} {x:(fb rs).den},(dx rs x).map aF.r=rs
 |[],_=>rfl
 |[_],_=>rfl
 |r::s::l,x=>by
  show r::(dx (s::l) x.2).map aF.r=_;rw[tM]
section
variable {G:a7} {e:Env} {S:ao}
theorem U6{r:aU}{x:r.den}(h: ∀c,r≠ .st c):(⟨r,x⟩:aF).fm= .av (fG r x):=by
 cases r with
 |st c=>exact absurd rfl (h c)
 |_=>rfl
theorem U7{r:aU}(h:r.one=true): ∀c,r≠ .st c:=fun c hc=>by subst hc;cases h
theorem U8{r:aU}{a:ab}(h:a.ey r=true): ∃y,a.den G e= .av y:=by
 unfold ab.ey at h
 split at h<;>first|exact⟨_,rfl⟩|cases h
theorem U9: ∀{rs:List aU} {l:List ab},hs rs l=true→∃ys:List a1,ab.bP G e l=ys.map .av
 |[],[],_=>⟨[],rfl⟩
 |[],_::_,h=>by cases h
 |_::_,[],h=>by cases h
 |r::rs,x::xs,h=>by
  simp only[hs,Bool.and_eq_true]at h;obtain⟨y,ax⟩:=U8 (G:=G) (e:=e) h.1;obtain⟨ys,mj⟩:=U9 (rs:=rs) h.2;exact⟨y::ys,by simp only[ab.bP,ax,mj,List.map_cons]⟩
theorem Va{σ:Heap}: ∀{ys:List a1},h5 σ (ys.map .av)=ys.map .av
 |[]=>rfl
 |y::ys=>by simp only[List.map_cons,h5,jN,Va]
theorem zhF{r:aU}{a x:ab}(h:NJ S r a=some x):
 Sub (jN (cx G e S.h) (a.den G e)) (aF.fm ⟨r,x.get e r⟩)∧fE (jN (cx G e S.h) (a.den G e))=true∧((∀id,a≠ .aN id∧a≠ .gY id)→jN (cx G e S.h) (a.den G e)=a.den G e):=by
 unfold NJ at h
 split at h
 ·rename_i c l
  split at h
  ·rename_i aq
   cases h;obtain⟨ys,ax⟩:=U9 (G:=G) (e:=e) aq
   have ai:=Ap (G:=G) (e:=e) aq
   have hd:jN (cx G e S.h) ((ab.cg l).den G e)=(ab.cg l).den G e:=by simp only[ab.den,jN,ax,Va]
   rw[hd];refine⟨?_,by simp only[ab.den,ax,fE,Dr],fun _=>rfl⟩
   simp only[ab.den];exact ai.agg
  ·cases h
 ·rename_i c id
  split at h
  ·rename_i t d y ah
   split at h
   ·rename_i hc
    cases h;simp only[Bool.and_eq_true,decide_eq_true_eq]at hc;obtain⟨rfl,hx⟩:=hc
    have ba:aE (cx G e S.h) id=some (.row false t (bY c) (List.map (b9 c) (x.az e (.li c)))):=by rw[eh,ah];rfl
    have hd:jN (cx G e S.h) ((ab.aN id).den G e)= .av (.aN (bY c) (List.map (b9 c) (x.az e (.li c)))):=by simp only[ab.den,jN,ba]
    rw[hd];exact⟨lP.fm fun _ _ _ h=>.li _ _ _ h,rfl,fun h=>absurd rfl (h id).1⟩
   ·cases h
  ·cases h
 ·rename_i k v id
  split at h
  ·rename_i bj bg dq y ah
   split at h
   ·rename_i hc
    cases h;simp only[Bool.and_eq_true]at hc
    cases hr hc.1.1
    cases hr hc.1.2
    have ba:aE (cx G e S.h) id=some (.bL (jP v.agg (gf (lh k) (ix v) (x.az e (.mp k v))))):=by rw[eh,ah];rfl
    have hd:jN (cx G e S.h) ((ab.gY id).den G e)= .av (xd v.agg (gf (lh k) (ix v) (x.az e (.mp k v)))):=by simp only[ab.den,jN,ba];rfl
    rw[hd];refine⟨?_,rfl,fun h=>absurd rfl (h id).2⟩
    show Sub _ (.av (fG (.mp k v) (x.az e (.mp k v))));rw[S5];exact Sub.refl _
   ·cases h
  ·cases h
 ·split at h
  ·rename_i hc
   cases h;simp only[Bool.and_eq_true]at hc;obtain⟨y,ax⟩:=U8 (G:=G) (e:=e) hc.2
   have hd:jN (cx G e S.h) (a.den G e)=a.den G e:=by rw[ax];rfl
   rw[hd];refine⟨?_,by rw[ax];rfl,fun _=>rfl⟩
   rw[U6 (U7 hc.1),Ep hc.1];exact vf hc.2
  ·cases h
theorem yn: ∀{rs:List aU} {as xs:List ab},sd S rs as=some xs→
 fT (h5 (cx G e S.h) (ab.bP G e as)) ((gC e rs xs).map aF.fm)∧e3 (h5 (cx G e S.h) (ab.bP G e as))=true∧(tL as=true→h5 (cx G e S.h) (ab.bP G e as)=ab.bP G e as)∧(gC e rs xs).map aF.r=rs
 |[],[],_,h=>by cases h;exact⟨.nil,rfl,fun _=>rfl,rfl⟩
 |[],_::_,_,h=>by cases h
 |_::_,[],_,h=>by cases h
 |r::rs,a::as,xs,h=>by
  simp only[sd]at h
  split at h
  ·rename_i x l aa ae
   cases h;obtain⟨b5,a2,a3⟩:=zhF (G:=G) (e:=e) aa;obtain⟨gp,im,hU,tu⟩:=yn ae;refine⟨.cons b5 gp,by simp only[ab.bP,h5,e3,a2,im,Bool.and_self],fun hn=>?_,by simp only[gC,List.map_cons,tu]⟩
   have:(∀id,a≠ .aN id∧a≠ .gY id)∧tL as=true:=by
    cases a<;>first|(cases hn;done)|exact⟨fun id=>⟨fun bc=>(by cases bc),fun bc=>(by cases bc)⟩,hn⟩
   simp only[ab.bP,h5,a3 this.1,hU this.2]
  ·cases h
end
section
variable {G:a7} {e:Env}
theorem zhG(d:aF):fE d.fm=true:=by
 unfold aF.fm
 split
 ·simp only[fE,Dr]
 ·rfl
theorem FE: ∀l:List aF,e3 (l.map aF.fm)=true
 |[]=>rfl
 |d::l=>by simp only[List.map_cons,e3,zhG,FE l,Bool.and_self]
theorem NL{rs:List aU}{x:(fb rs).den}:fE (kP rs x)=true:=by
 have h:=FE (dx rs x)
 unfold kP nu
 split
 ·rename_i v aw
  rw[aw]at h;simpa[e3]using h
 ·exact h
theorem Vb: ∀{ds:List aF},(∀d∈ds,d.r.tK=true∧∀c,d.r≠ .st c)→m8 (ds.map fun d=>.av d.av)=true
 |[],_=>rfl
 |d::ds,h=>by
  have aa:=h d (List.mem_cons_self ..)
  have ae:=Vb (ds:=ds) fun x hx=>h x (List.mem_cons_of_mem _ hx)
  obtain⟨r,x⟩:=d
  cases r<;>first|(exact absurd rfl (aa.2 _))|(cases aa.1;done)|exact ae
theorem Vc{d:aF}(h:d.r.tK=true):jO d.fm=true:=by
 obtain⟨r,x⟩:=d
 cases r with
 |st c=>
  show jO (.agg ((b9 c x).map .av))=true
  have hc:b9 c x=(k1 c x).map aF.av:=by unfold b9;rfl
  rw[hc,List.map_map];simp only[jO];refine Vb fun d hd=>?_
  have ag:d.r∈eX c:=by
   have:=KH c x
   rw[←this];exact List.mem_map_of_mem hd
  have aZ:d.r.cmp=true:=List.all_eq_true.1 (show(eX c).all _=true from h) d.r ag
  cases hd:d.r<;>rw[hd]at aZ<;>first|(cases aZ;done)|exact⟨rfl,fun c hc=>by cases hc⟩
 |_=>first|rfl|cases h
theorem NM: ∀{l:List aF},(∀d∈l,d.r.tK=true)→m8 (l.map aF.fm)=true
 |[],_=>rfl
 |d::l,h=>by
  simp only[List.map_cons,m8,Vc (h d (List.mem_cons_self ..)),NM (l:=l) fun x hx=>h x (List.mem_cons_of_mem _ hx),Bool.and_self]
theorem zhH{rs:List aU}{x:(fb rs).den}(h:rs.all aU.tK=true):jO (kP rs x)=true:=by
 have h:=NM (l:=dx rs x) fun d hd=>by
  have ag:d.r∈rs:=by
   have:=tM (rs:=rs) (x:=x)
   rw[←this];exact List.mem_map_of_mem hd
  exact List.all_eq_true.1 h d.r ag
 unfold kP nu
 split
 ·rename_i v aw
  rw[aw]at h;simpa[m8]using h
 ·exact h
end
section
variable {P:Program} {G:a7} {M:List aQ} {C:List h9} {inl:Nat→List ab→ao→aC}
theorem Vd{f:Nat}{c:h9}: ∀{C:List h9},Bn f C=some c→c∈C∧c.f=f
 |[],h=>by cases h
 |d::r,h=>by
  unfold Bn at h
  split at h
  ·rename_i hd;cases h;exact⟨List.mem_cons_self ..,Nat.eq_of_beq_eq_true hd⟩
  ·obtain⟨aa,ae⟩:=Vd h;exact⟨List.mem_cons_of_mem _ aa,ae⟩
theorem NN(rs:List aU)(p:Nat): ∀(l:List aU) (i j:Nat),(oj rs p i l)[j]? =if j<l.length then some (.rS rs p (i+j))else none
 |[],i,j=>by simp[oj]
 |_::l,i,0=>by simp[oj]
 |_::l,i,j+1=>by
  simp only[oj,List.getElem?_cons_succ,NN rs p l (i+1) j,List.length_cons,Nat.add_lt_add_iff_right]
  have:i+1+j=i+(j+1):=by omega
  rw[this]
theorem Ve(rs:List aU)(p:Nat): ∀(l:List aU) (i k:Nat),p<k→hv k (oj rs p i l)=true
 |[],_,_,_=>rfl
 |_::l,i,k,h=>by
  simp only[oj,hv,bJ.lt,jR h,Bool.true_and];exact Ve rs p l (i+1) (k+1) (by omega)
theorem FF{c:h9}{xs:List ab}{k:Nat}(h:ab.cK k xs=true):hv k (iD c xs k)=true:=by
 unfold iD
 split
 ·simp only[hv,bJ.lt,h,Bool.and_self]
 ·simp only[hv,bJ.lt,h,Bool.true_and]
  exact Ve _ _ _ _ _ (Nat.lt_succ_self k)
theorem NO(rs:List aU)(p:Nat): ∀(l:List aU) (i:Nat),(oj rs p i l).length=l.length
 |[],_=>rfl
 |_::l,i=>by simp[oj,NO rs p l (i+1)]
theorem NP{e:Env}{r:aU}{i:Nat}{x:r.den}(h:Env.at e i=⟨r,x⟩):(Bo r i).den G e=aF.fm ⟨r,x⟩:=by
 have aZ:(Env.at e i).as r=x:=by rw[h,cA]
 cases r with
 |st c=>
  show aD.agg (ab.bP G e (iS c i 0 (eX c)))= .agg ((b9 c x).map .av);rw[ta,aZ]
 |_=>show aD.av (fG _ ((Env.at e i).as _))= .av (fG _ x);rw[aZ]
theorem Bp{e:Env}: ∀{rs:List aU} {i:Nat} {ds:List aF},ds.map aF.r=rs→(∀j d,ds[j]? =some d→Env.at e (i+j)=d)→ab.bP G e (hz i rs)=ds.map aF.fm
 |[],i,ds,h,_=>by cases mw h;rfl
 |r::rs,i,ds,h,hd=>by
  obtain⟨d,pf,rfl,aa,ae⟩:=lN h;subst aa
  have aL:=hd 0 d rfl
  simp only[hz,ab.bP,List.map_cons,List.cons.injEq];refine⟨NP (x:=d.v) aL,Bp ae fun j zhI af=>?_⟩
  have:=hd (j+1) zhI (by simpa using af)
  rw[←this];congr 1;omega
theorem FG{c:bK}{i k:Nat}(h:i<k): ∀{rs:List aU} {j:Nat},ab.cK k (iS c i j rs)=true
 |[],_=>rfl
 |r::rs,j=>by simp only[iS,ab.cK,ab.lt,jR h,FG h (rs:=rs),Bool.and_self]
theorem NQ{r:aU}{i k:Nat}(h:i<k):(Bo r i).lt k=true:=by
 cases r with
 |st c=>exact FG h
 |_=>exact jR h
theorem Bq: ∀{rs:List aU} {i k:Nat},i+rs.length≤k→ab.cK k (hz i rs)=true
 |[],_,_,_=>rfl
 |r::rs,i,k,h=>by
  simp only[List.length_cons]at h;simp only[hz,ab.cK,NQ (r:=r) (show i<k by omega),Bq (rs:=rs) (show i+1+rs.length≤k by omega),Bool.and_self]
theorem NR{α:Type}{d:α}: ∀{l:List α} {i:Nat} {x:α},l[i]? =some x→eT d l i=x
 |[],_,_,h=>by cases h
 |y::l,0,x,h=>by simpa[eT]using h
 |y::l,i+1,x,h=>by
  simp only[eT];exact NR (by simpa using h)
theorem zhJ{c:h9}{xs:List ab}{k:Nat}{e:Env}{y:(fb c.rs).den}(aq:ab.cK k xs=true)(aL:Env.at (de M e k (iD c xs k)) k=⟨fb c.rs,y⟩):
 (yl c k).den G (de M e k (iD c xs k))=kP c.rs y:=by
 have eJ:=jy (M:=M) (e:=e) (FF (c:=c) aq)
 obtain⟨f,FH,ps,rs,eO⟩:=c
 show(yl ⟨f,FH,ps,rs,eO⟩ k).den G _=kP rs y
 match rs,y,aL,eJ with
 |[],y,aL,eJ=>rfl
 |[r],y,aL,eJ=>exact NP aL
 |r::s::l,y,aL,eJ=>
  have m5:(dx (r::s::l) y).map aF.r=r::s::l:=tM
  have rC:kP (r::s::l) y= .tuple ((dx (r::s::l) y).map aF.fm):=by
   unfold kP nu
   split
   ·rename_i v aw
    have:=congrArg List.length m5
    have ae:=congrArg List.length aw
    simp only[List.length_map,List.length_cons]at this ae;simp only[List.length_nil]at ae;omega
   ·rfl
  rw[rC];show aD.tuple (ab.bP G _ (hz (k+1) (r::s::l)))=_
  congr 1
  refine Bp m5 fun j d af=>?_
  have hlen:j<(r::s::l).length:=by
   have aa:=(List.getElem?_eq_some_iff.1 af).1
   have:=congrArg List.length m5
   rw[List.length_map]at this;omega
  have aa:=eJ (j+1) (.rS (r::s::l) k j) (by
   show(bJ.ca FH xs::oj (r::s::l) k 0 (r::s::l))[j+1]? =_
   rw[List.getElem?_cons_succ,NN,if_pos hlen,Nat.zero_add])
  rw[show k+1+j=k+(j+1)by omega,aa]
  simp only[bJ.den,aL,cA];exact NR af
theorem zhK(q2:rn P G M C)(bV:fO P G M inl):fO P G M (NK C inl):=fun f as S e ad aq hf ai=>by
 unfold NK at ai⊢
 cases hc:Bn f C with
 |none=>simp only[hc]at ai⊢;exact bV f as S e ad aq hf ai
 |some c=>
  simp only[hc]at ai⊢
  cases hx:sd S c.ps as with
  |none=>simp only[hx]at ai⊢;exact bV f as S e ad aq hf ai
  |some xs=>
   simp only[hx]at ai⊢
   split at ai
   rotate_left
   ·exact bV f as S e ad aq hf ai
   rename_i aj;simp only[Bool.and_eq_true]at aj;obtain⟨⟨om,mI⟩,Br,Ew⟩:=aj;obtain⟨hm,Bs⟩:=Vd hc;obtain⟨g1,g2,g3,g4⟩:=q2 c hm;obtain⟨hn,_⟩:=mF ai
   have vO:=FF (c:=c) Br
   have bQ:bW S.k e (de M e S.k (iD c xs S.k)):=jS (Nat.le_refl _)
   have b3:c.eO=false→fe.ok M (de M e S.k (iD c xs S.k)) (.ca c.j xs):=fun jn=>hn _ (by unfold FD;rw[jn];exact List.mem_singleton.2 rfl)
   obtain⟨b5,a2,a3,a4⟩:=yn (G:=G) (e:=e) hx
   have eJ:=jy (M:=M) (e:=e) vO 0 (.ca c.j xs) (by unfold iD;split<;>rfl)
   obtain⟨Vf,pG,zj5,zj6,Vg⟩:=c;simp only at g1 g2 g3 g4 Bs om mI Br Ew vO bQ b3 b5 a2 a3 a4 eJ hx;subst g1 g2 Bs;simp only[Nat.add_zero,bJ.den]at eJ;simp only[fe.ok]at b3;rw[xu bQ Br]at eJ
   have ho:=g3 (b8 _ (gC e (eT aQ.d M pG).ps xs)) (by
    cases Vg with
    |true=>rw[g4 rfl];trivial
    |false=>
     have:=b3 rfl
     rw[xu bQ Br]at this
     exact this)
   have vK:nu (eT aQ.d M pG).ps (b8 (eT aQ.d M pG).ps (gC e (eT aQ.d M pG).ps xs))=(gC e (eT aQ.d M pG).ps xs).map aF.fm:=by
    unfold nu;rw[ym a4]
   rw[vK]at ho
   have aw:=zhJ (G:=G) (c:=⟨Vf,pG,(eT aQ.d M pG).ps,(eT aQ.d M pG).rs,Vg⟩) Br eJ
   have lW:dF P G Vf (ab.bP G e as) (cx G e S.h) S.n fun r bU=>bU=cx G e S.h∧∃_:Heap,r=kP (eT aQ.d M pG).rs ((eT aQ.d M pG).m (b8 _ (gC e (eT aQ.d M pG).ps xs))):=by
    cases AI:tL as with
    |true=>
     rw[a3 AI]at b5 a2;exact((ho.arg b5).frame a2 fun r bU ag=>by rw[ag];exact NL).res fun r bU ⟨aa,fF,ae⟩=>⟨aa,fF,ae⟩
    |false=>
     rw[AI,Bool.false_or]at mI;exact(ho.zhE b5 a2 fun r bU ag=>by rw[ag];exact zhH mI).res fun r bU ⟨aa,fF,ae⟩=>⟨aa,fF,ae⟩
   refine lW.res fun r bU ⟨aa,_,ae⟩=>⟨_,_,by rw[lU];rfl,?_,?_,?_,?_,bQ,Nat.le_add_right _ _⟩
   ·rw[ae,←aw]
    show _=ab.den G _ (ao.at (FC S _ _) 0);unfold FC ao.at
    simp only[a8.hZ,if_true]
   ·rw[aa];exact(xt bQ ad.h).symm
   ·refine⟨fun i x hi=>?_,tj (Nat.le_add_right _ _) ad.h,n9 (Nat.le_add_right _ _) ad.g⟩
    simp only[FC,a8.hZ]at hi
    split at hi
    ·cases hi
     show(yl _ S.k).lt (S.k+_)=true;unfold yl iD
     split
     ·exact NQ (Nat.lt_succ_self _)
     ·simp only[ab.lt]
      refine Bq ?_
      simp only[List.length_cons,NO];omega
    ·simp[a8.get]at hi
   ·exact ij bQ ad.g hf
end
end Go.aK
namespace Go.aK
open Go
section
variable {P:Program} {G:a7} {f:FuncId} {args:List aD} {R:aD→Heap→Prop}
theorem dF.ret(eP:Prop→aD→Prop)(h:dF P G f args [] 0 R){Q:aD→Prop}(fP: ∀r bU,R r bU→∃v,Sub (jN bU r) v∧fE v=true∧Q v):dF P G f args [] 0 fun v _=>Q v:=by
 intro w β ro ec aa ae au aP bE
 refine Calls.mono (h w β ro ec aa ae au aP bE) fun e w' ⟨v,r,bU,dL,ro',cI,he,ag,dA,hO,cD⟩=>?_
 obtain⟨u,hu,ak,aH⟩:=fP r bU ag
 have nS: ∀b,Own bU dL b→b<w'.heap.size:=fun b ⟨k,p,aj,ak,bf⟩=>(hO.c5 k p aj).hJ ak bf
 refine⟨v,u,[],dL,u1 ro' bU dL,cI,he,aH,nV (hu _ _ _ _ _ _ (KC hO dA)) ak,⟨by simp[aE],by simp[aE],fun b _=>lf dL b,fun b ad=>ad.elim (hO.lt b) (nS b)⟩,
  ⟨cD.os,cD.tape,cD.output,cD.size,cD.frame,fun b ad=>?_,fun b ad=>.inl (cD.j1 b ad),fun b ad=>absurd ad (lf dL b),by simp[aE],by simp[aE],cD.le⟩⟩
 rcases ad with ad|ad
 ·exact cD.jk b ad
 ·exact .inr (cD.hj b ad)
end
def gw:Nat→List aF→Env
 |_,[]=>.emp
 |i,d::ds=>a8.put (gw (i+1) ds) i d
theorem NS: ∀{ds:List aF} {i j:Nat} {d:aF},ds[j]? =some d→Env.at (gw i ds) (i+j)=d
 |[],_,_,_,h=>by cases h
 |x::ds,i,0,d,h=>by
  have h:x=d:=by simpa using h
  simp only[gw,Env.ih,Nat.add_zero,if_true,h]
 |x::ds,i,j+1,d,h=>by
  have:=NS (i:=i+1) (show ds[j]? =some d by simpa using h)
  simp only[gw,Env.ih];rw[if_neg (by omega),←this]
  congr 1
  omega
def vP(rs:List aU)(v:ab):List ab:=
 match rs,v with
 |[_],v=>[v]
 |_,.tp l=>l
 |_,x=>[x]
def NT(rs:List aU)(v:ab):Bool:=
 match rs,v with
 |[_],_=>true
 |_,.tp _=>true
 |_,_=>false
def FI(rs:List aU)(C:ao):Option (List ab):=
 match NT rs (C.at 0)with
 |true=>sd C rs (vP rs (C.at 0))
 |false=>none
def uJ(rs:List aU)(C:ao):Bool:=(FI rs C).isSome
def NU(rs:List aU)(C:ao)(e:Env):(fb rs).den:=
 match FI rs C with
 |some l=>b8 rs (gC e rs l)
 |none=>(fb rs).fy
def NV(M:List aQ)(t:aC)(rs:List aU)(e:Env):(fb rs).den:=t.fold M e (fun _ C ay=>NU rs C ay) (fb rs).fy
def qf(n:Nat):ao:=⟨.emp,[],0,n,[]⟩
section
variable {P:Program} {G:a7} {M:List aQ} {C:List h9} {inl:Nat→List ab→ao→aC}
theorem zhL{rs:List aU}{S:ao}{e:Env}{l:List ab}(h:FI rs S=some l):Sub (jN (cx G e S.h) ((S.at 0).den G e)) (kP rs (b8 rs (gC e rs l))):=by
 unfold FI at h
 split at h
 rotate_left
 ·cases h
 rename_i aG
 obtain⟨b5,_,_,a4⟩:=yn (G:=G) (e:=e) h
 have vK:nu rs (b8 rs (gC e rs l))=(gC e rs l).map aF.fm:=by unfold nu;rw[ym a4]
 unfold kP
 rw[vK]
 match rs,b5,a4,aG with
 |[r],b5,a4,aG=>
  obtain⟨d,pf,aw,aa,ae⟩:=lN a4
  cases mw ae
  rw[aw]at b5⊢;simp only[vP,ab.bP,h5,List.map_cons,List.map_nil]at b5⊢
  cases b5 with
  |cons h _=>exact h
 |[],b5,a4,aG=>
  cases aw:S.at 0 with
  |tp m=>
   rw[aw]at b5;rw[mw a4];rw[mw a4]at b5;exact b5.tuple
  |_=>rw[aw]at aG;cases aG
 |r::s::q,b5,a4,aG=>
  cases aw:S.at 0 with
  |tp m=>
   rw[aw]at b5
   have aq:=congrArg List.length a4
   simp only[List.length_map,List.length_cons]at aq;generalize gC e (r::s::q) l=ds at b5 aq⊢
   match ds,aq with
   |d::d2::ds,_=>exact b5.tuple
  |_=>rw[aw]at aG;cases aG
theorem Vh{t:aC}{p:ao→Bool}(h:t.gv.all p=true){e ay:Env}{S:ao}(ag:run M t e=some (.ch,S,ay)):p S=true:=List.all_eq_true.1 h S (np ag)
theorem NW(bV:fO P G M inl){f:Nat}{m:aQ}(t:aC)(aG:inl f (hz 0 m.ps) (qf m.ps.length)=t)(he:t.gv.all (uJ m.rs)=true)
 (ai: ∀x,kO m.pre x→t.safe M (gw 0 (dx m.ps x)))(hm: ∀x,kO m.pre x→NV M t m.rs (gw 0 (dx m.ps x))=m.m x):bI P G f m:=fun x hx=>by
 subst aG
 have aq:m.ps.length=(dx m.ps x).length:=by have:=congrArg List.length (tM (rs:=m.ps) (x:=x));rw[List.length_map]at this;exact this.symm
 have h:=bV f (hz 0 m.ps) (qf m.ps.length) (gw 0 (dx m.ps x)) ⟨fun i x hi=>by simp[qf,a8.get]at hi,rfl,rfl⟩ (Bq (by show 0+_≤m.ps.length;omega)) (fun c hc=>by cases hc) (ai x hx)
 have hd:ab.bP G (gw 0 (dx m.ps x)) (hz 0 m.ps)=nu m.ps x:=Bp tM fun j d af=>NS af
 rw[hd]at h
 refine(dF.ret (fun _ _=>True) h (Q:=fun v=>v=kP m.rs (m.m x)) fun r bU ag=>?_)
 obtain⟨aS,ay,cq,rfl,rfl,_⟩:=ag
 have od:=Vh he cq
 obtain⟨l,mm⟩:=Option.isSome_iff_exists.1 od
 refine⟨_,zhL mm,NL,?_⟩
 have:=hm x hx
 unfold NV at this
 rw[ke cq]at this
 unfold NU at this
 rw[mm]at this
 rw[←this]
theorem zhM(bV:fO P G M inl){f:Nat}{m:aQ}(t:aC)(aG:inl f (hz 0 m.ps) (qf m.ps.length)=t)(he:(t.clean&&t.gv.all (uJ m.rs))=true)
 (hm: ∀x,NV M t m.rs (gw 0 (dx m.ps x))=m.m x):bI P G f m:=by
 simp only[Bool.and_eq_true]at he
 exact NW bV t aG he.2 (fun _ _=>rW M he.1) fun x _=>hm x
theorem rn.nil:rn P G M []:=fun _ h=>by cases h
theorem rn.cons{c:h9}(h:U5 P G M c)(q2:rn P G M C):rn P G M (c::C):=fun d hd=>by
 rcases List.mem_cons.1 hd with rfl|hd
 ·exact h
 ·exact q2 d hd
end
end Go.aK
namespace Go.aK
open Go
def aC.kj(M:List aQ):aC→{X:Type}→Env→(bZ→ao→Env→X)→X→X
 | .cG x S,_,e,K,_=>K x S e
 | .lt i x t,_,e,K,d=>t.kj M (a8.put e i (x.den M e)) K d
 | .eF _ t,_,e,K,d=>t.kj M e K d
 | .it g a b,_,e,K,d=>bif g.az e .bool then a.kj M e K d else b.kj M e K d
 | .dB n a ps k,_,e,K,d=>a.kj M e (fun x S ay=>bif x.bS n then k.kj M (fQ e (fun r p=>⟨r,(p.dc S).get ay r⟩) ps) K d else K x S ay) d
 | .en m xid dj b0 ca a k,X,e,K,d=>Sum.elim (fun r=>r) (fun v=>k.kj M (bk e ca v) K d)
  (bn (fun i (v:bX ca)=>(a.kj M (bk (a8.put e b0 ⟨.int .i64,(i:Int)⟩) ca v) (eg m xid ca K) (.cN v):Step X (bX ca))) 0 (cl (dj.den M e)).toNat (b8 _ (dD e ca)))
 | .eZ m xid ca a k,X,e,K,d=>Sum.elim (fun r=>r) (fun v=>k.kj M (bk e ca v) K d)
  (c4 (fun v=>(a.kj M (bk e ca v) (eg m xid ca K) (.cN v):Step X (bX ca))) dU (b8 _ (dD e ca)))
 | .bad _,_,_,_,d=>d
section
variable {M:List aQ}
theorem mJ: ∀(t:aC) {X:Type} (e:Env) (K:bZ→ao→Env→X) (d:X),t.kj M e K d=t.fold M e K d
 | .cG _ _,_,_,_,_=>rfl
 | .lt i x t,_,e,K,d=>mJ t _ K d
 | .eF _ t,_,e,K,d=>mJ t _ K d
 | .it g a b,_,e,K,d=>by simp only[aC.kj,aC.fold,mJ a,mJ b]
 | .dB n a ps k,X,e,K,d=>by
  show a.kj M e (fun x S ay=>bif x.bS n then k.kj M (fQ e (fun r p=>⟨r,(p.dc S).get ay r⟩) ps) K d else K x S ay) d=(aC.dB n a ps k).fold M e K d
  rw[mJ a]
  cases ag:run M a e with
  |none=>rw[At ag,tf ag]
  |some l=>
   obtain⟨x,S,ay⟩:=l;rw[ke ag]
   cases hx:x.bS n with
   |true=>rw[cond_true,qD ag hx,mJ k]
   |false=>rw[cond_false,ng ag hx]
 | .en m xid dj b0 ca a k,X,e,K,d=>by
  rw[xr];simp only[aC.kj,mJ a,mJ k]
 | .eZ m xid ca a k,X,e,K,d=>by
  simp only[aC.kj,aC.fold,mJ a,mJ k]
 | .bad _,_,_,_,_=>rfl
def aC.wp(M:List aQ):aC→Env→(bZ→ao→Env→Prop)→Prop
 | .cG x S,e,Q=>Q x S e
 | .lt i x t,e,Q=>t.wp M (a8.put e i (x.den M e)) Q
 | .eF n t,e,Q=>n.ok M e∧t.wp M e Q
 | .it g a b,e,Q=>(g.az e .bool=true→a.wp M e Q)∧(g.az e .bool=false→b.wp M e Q)
 | .dB n a ps k,e,Q=>a.wp M e fun x S ay=>bif x.bS n then k.wp M (fQ e (fun r p=>⟨r,(p.dc S).get ay r⟩) ps) Q else Q x S ay
 | .en m xid dj b0 ca a k,e,Q=>∃I:Nat→bX ca→Prop,I 0 (b8 _ (dD e ca))∧(∀(i:Nat) (v:bX ca),i<(cl (dj.den M e)).toNat→I i v→
  a.wp M (bk (a8.put e b0 ⟨.int .i64,(i:Int)⟩) ca v) fun x S ay=>bif x.bS m then I (i+1) (b8 _ (fz S ay ca))else bif x.cX xid then k.wp M (bk e ca (b8 _ (fz S ay ca))) Q else Q x S ay)∧
  ∀v,I (cl (dj.den M e)).toNat v→k.wp M (bk e ca v) Q
 | .eZ m xid ca a k,e,Q=>∃(I:bX ca→Prop) (jB:bX ca→Nat),I (b8 _ (dD e ca))∧jB (b8 _ (dD e ca))<dU∧∀(v:bX ca),I v→
  a.wp M (bk e ca v) fun x S ay=>bif x.bS m then I (b8 _ (fz S ay ca))∧jB (b8 _ (fz S ay ca))<jB v else bif x.cX xid then k.wp M (bk e ca (b8 _ (fz S ay ca))) Q else Q x S ay
 | .bad _,_,_=>False
theorem Vi{R A:Type}{b:Nat→A→Step R A}(I:Nat→A→Prop)(vQ:R→Prop)(tN:A→Prop)(n:Nat)(h: ∀i v,i<n→I i v→(∀r,b i v= .ret r→vQ r)∧(∀bg,b i v= .cN bg→tN bg)∧∀bg,b i v= .bq bg→I (i+1) bg)
 (he: ∀v,I n v→tN v): ∀(m k:Nat) (a:A),k+m=n→I k a→(∀r,bn b k m a= .inl r→vQ r)∧∀v,bn b k m a= .inr v→tN v
 |0,k,a,hn,hi=>by
  have:k=n:=by omega
  subst this;exact⟨fun r ag=>(by cases ag),fun v aw=>(by cases aw;exact he a hi)⟩
 |m+1,k,a,hn,hi=>by
  obtain⟨aa,ae,au⟩:=h k a (by omega) hi
  simp only[bn]
  cases ad:b k a with
  |ret r=>exact⟨fun eP ag=>(by cases ag;exact aa r ad),fun v aw=>(by cases aw)⟩
  |cN v=>exact⟨fun eP ag=>(by cases ag),fun bg aw=>(by cases aw;exact ae v ad)⟩
  |bq v=>exact Vi I vQ tN n h he m (k+1) v (by omega) (au v ad)
theorem Vj{R A:Type}{b:A→Step R A}(I:A→Prop)(jB:A→Nat)(vQ:R→Prop)(tN:A→Prop)(h: ∀v,I v→(∀r,b v= .ret r→vQ r)∧(∀bg,b v= .cN bg→tN bg)∧∀bg,b v= .bq bg→I bg∧jB bg<jB v):
 ∀(m:Nat) (a:A),jB a<m→I a→ka b m a∧(∀r,c4 b m a= .inl r→vQ r)∧∀v,c4 b m a= .inr v→tN v
 |0,a,hm,_=>absurd hm (Nat.not_lt_zero _)
 |m+1,a,hm,hi=>by
  obtain⟨aa,ae,au⟩:=h a hi;simp only[c4,ka]
  cases ad:b a with
  |ret r=>exact⟨trivial,fun eP ag=>(by cases ag;exact aa r ad),fun v aw=>(by cases aw)⟩
  |cN v=>exact⟨trivial,fun eP ag=>(by cases ag),fun bg aw=>(by cases aw;exact ae v ad)⟩
  |bq v=>
   obtain⟨g1,g2⟩:=au v ad;exact Vj I jB vQ tN h m v (by omega) g1
def FJ(M:List aQ)(t:aC)(e:Env)(Q:bZ→ao→Env→Prop):Prop:=∃x S ay,run M t e=some (x,S,ay)∧Q x S ay
theorem Vk{m xid:Nat}{ca:List hD}{a:aC}{e:Env}{v:bX ca}{J:bX ca→Prop}{B:bX ca→Prop}{Q:bZ→ao→Env→Prop}
 (h:FJ M a e fun x S ay=>bif x.bS m then J (b8 _ (fz S ay ca))else bif x.cX xid then B (b8 _ (fz S ay ca))else Q x S ay):
 (∀r,c3 M m xid ca a e v= .ret r→∃x S ay,r=some (x,S,ay)∧Q x S ay)∧(∀bg,c3 M m xid ca a e v= .cN bg→B bg)∧∀bg,c3 M m xid ca a e v= .bq bg→J bg:=by
 obtain⟨x,S,ay,ag,aH⟩:=h
 unfold c3
 rw[ag]
 simp only
 cases hx:x.bS m with
 |true=>
  rw[hx,cond_true]at aH;rw[n6 hx];exact⟨fun r ba=>(by cases ba),fun bg ba=>(by cases ba),fun bg ba=>(by cases ba;exact aH)⟩
 |false=>
  rw[hx,cond_false]at aH
  cases ax:x.cX xid with
  |true=>
   rw[ax,cond_true]at aH;rw[n7 hx ax];exact⟨fun r ba=>(by cases ba),fun bg ba=>(by cases ba;exact aH),fun bg ba=>(by cases ba)⟩
  |false=>
   rw[ax,cond_false]at aH;rw[kd hx ax];exact⟨fun r ba=>(by cases ba;exact⟨_,_,_,rfl,aH⟩),fun bg ba=>(by cases ba),fun bg ba=>(by cases ba)⟩
theorem kk: ∀(t:aC) {e:Env} {Q:bZ→ao→Env→Prop},t.wp M e Q→t.safe M e∧FJ M t e Q
 | .cG x S,e,Q,h=>⟨trivial,x,S,e,rfl,h⟩
 | .lt i x t,e,Q,h=>kk t (e:=a8.put e i (x.den M e)) h
 | .eF n t,e,Q,h=>⟨⟨h.1,(kk t h.2).1⟩,(kk t h.2).2⟩
 | .it g a b,e,Q,h=>by
  refine⟨⟨fun ah=>(kk a (h.1 ah)).1,fun ah=>(kk b (h.2 ah)).1⟩,?_⟩
  cases ah:g.az e .bool with
  |true=>
   obtain⟨x,S,ay,aa,ae⟩:=(kk a (h.1 ah)).2;exact⟨x,S,ay,by rw[tB ah];exact aa,ae⟩
  |false=>
   obtain⟨x,S,ay,aa,ae⟩:=(kk b (h.2 ah)).2;exact⟨x,S,ay,by rw[tB ah];exact aa,ae⟩
 | .dB n a ps k,e,Q,h=>by
  obtain⟨aa,x,aS,aB,ag,au⟩:=kk a h
  cases hx:x.bS n with
  |true=>
   rw[hx,cond_true]at au;obtain⟨fx,iM,db,ay,gG,k7⟩:=kk k au;refine⟨⟨aa,fun _=>?_⟩,iM,db,ay,by unfold run;rw[qD ag hx];exact gG,k7⟩
   have:(fun(r:aU) (p:ez)=>(⟨r,bif a.jv n
    then a.fold M e (fun _ S ay=>(p.dc S).get ay r) r.fy
    else a.fold M e (fun x S ay=>bif x.bS n then(p.dc S).get ay r else r.fy) r.fy⟩:aF))=fun r p=>⟨r,(p.dc aS).get aB r⟩:=by
    funext r p
    simp only[ke ag,hx]
    cases a.jv n<;>rfl
   rw[this];exact fx
  |false=>
   rw[hx,cond_false]at au;exact⟨⟨aa,fun af=>by rw[ke ag,hx]at af;cases af⟩,x,aS,aB,by unfold run;rw[ng ag hx],au⟩
 | .en m xid dj b0 ca a k,e,Q,h=>by
  obtain⟨I,aL,ad,he⟩:=h
  have qy:=fun(i:Nat) (v:bX ca) hi aw=>kk a (ad i v hi aw)
  have Bt:=fun(i:Nat) (v:bX ca) hi aw=>Vk (v:=v) (J:=I (i+1)) (B:=fun bg=>k.wp M (bk e ca bg) Q) (Q:=Q) (qy i v hi aw).2
  obtain⟨cJ,dH⟩:=Vi I (fun r=>∃x S ay,r=some (x,S,ay)∧Q x S ay) (fun v=>k.wp M (bk e ca v) Q) (cl (dj.den M e)).toNat Bt (fun v aw=>he v aw) (cl (dj.den M e)).toNat 0 _ (Nat.zero_add _) aL
  have hQ:(fun(i:Nat) (v:bX ca)=>(a.fold M (bk (a8.put e b0 ⟨.int .i64,(i:Int)⟩) ca v) (eg m xid ca fun _ _ _=>()) (.cN v):Step Unit (bX ca)))=fun(i:Nat) v=>h8 (fun _=>()) (c3 M m xid ca a (bk (a8.put e b0 ⟨.int .i64,(i:Int)⟩) ca v) v):=by
   funext i v
   exact iU ..
  have xX:=ug (fun _:Option nf=>()) (b:=fun(i:Nat) v=>c3 M m xid ca a (bk (a8.put e b0 ⟨.int .i64,(i:Int)⟩) ca v) v) (c:=fun(i:Nat) v=>h8 (fun _=>()) (c3 M m xid ca a (bk (a8.put e b0 ⟨.int .i64,(i:Int)⟩) ca v) v)) (fun _ _=>rfl) (cl (dj.den M e)).toNat 0 (b8 _ (dD e ca))
  refine⟨⟨⟨I,aL,fun i v hi aw=>⟨(qy i v hi aw).1,fun bg hn=>(Bt i v hi aw).2.2 bg ?_⟩⟩,?_⟩,?_⟩
  ·rw[iU]at hn
   exact th hn
  ·rw[hQ,xX]
   cases aq:bn (fun(i:Nat) v=>c3 M m xid ca a (bk (a8.put e b0 ⟨.int .i64,(i:Int)⟩) ca v) v) 0 (cl (dj.den M e)).toNat (b8 _ (dD e ca))with
   |inl r=>trivial
   |inr v=>exact(kk k (dH v aq)).1
  ·unfold FJ
   rw[EH]
   cases aq:bn (fun(i:Nat) v=>c3 M m xid ca a (bk (a8.put e b0 ⟨.int .i64,(i:Int)⟩) ca v) v) 0 (cl (dj.den M e)).toNat (b8 _ (dD e ca))with
   |inl r=>exact cJ r aq
   |inr v=>exact(kk k (dH v aq)).2
 | .eZ m xid ca a k,e,Q,h=>by
  obtain⟨I,jB,aL,hm,ad⟩:=h
  have qy:=fun(v:bX ca) aw=>kk a (ad v aw)
  have Bt:=fun(v:bX ca) aw=>Vk (v:=v) (J:=fun bg=>I bg∧jB bg<jB v) (B:=fun bg=>k.wp M (bk e ca bg) Q) (Q:=Q) (qy v aw).2
  obtain⟨zhN,cJ,dH⟩:=Vj I jB (fun r=>∃x S ay,r=some (x,S,ay)∧Q x S ay) (fun v=>k.wp M (bk e ca v) Q) Bt dU _ hm aL
  have hQ:(fun(v:bX ca)=>(a.fold M (bk e ca v) (eg m xid ca fun _ _ _=>()) (.cN v):Step Unit (bX ca)))=fun v=>h8 (fun _=>()) (c3 M m xid ca a (bk e ca v) v):=by
   funext v
   exact iU ..
  have xX:=xo (fun _:Option nf=>()) (b:=fun v=>c3 M m xid ca a (bk e ca v) v) (c:=fun v=>h8 (fun _=>()) (c3 M m xid ca a (bk e ca v) v)) (fun _=>rfl) dU (b8 _ (dD e ca))
  have zhO:=K4 (fun _:Option nf=>()) (b:=fun v=>c3 M m xid ca a (bk e ca v) v) (c:=fun v=>h8 (fun _=>()) (c3 M m xid ca a (bk e ca v) v)) (fun _=>rfl) dU (b8 _ (dD e ca))
  refine⟨⟨⟨I,aL,fun v aw=>⟨(qy v aw).1,fun bg hn=>((Bt v aw).2.2 bg ?_).1⟩⟩,?_,?_⟩,?_⟩
  ·rw[iU]at hn
   exact th hn
  ·rw[hQ]
   exact zhO.2 zhN
  ·rw[hQ,xX]
   cases aq:c4 (fun v=>c3 M m xid ca a (bk e ca v) v) dU (b8 _ (dD e ca))with
   |inl r=>trivial
   |inr v=>exact(kk k (dH v aq)).1
  ·unfold FJ
   rw[EI]
   cases aq:c4 (fun v=>c3 M m xid ca a (bk e ca v) v) dU (b8 _ (dD e ca))with
   |inl r=>exact cJ r aq
   |inr v=>exact(kk k (dH v aq)).2
 | .bad _,_,_,h=>h.elim
end
def wK(M:List aQ)(t:aC)(rs:List aU)(e:Env):(fb rs).den:=t.kj M e (fun _ C ay=>NU rs C ay) (fb rs).fy
section
variable {P:Program} {G:a7} {M:List aQ} {inl:Nat→List ab→ao→aC}
theorem gx(bV:fO P G M inl){f:Nat}{m:aQ}(t:aC)(aG:inl f (hz 0 m.ps) (qf m.ps.length)=t)(he:(t.clean&&t.gv.all (uJ m.rs))=true)
 (hm: ∀x,wK M t m.rs (gw 0 (dx m.ps x))=m.m x):bI P G f m:=
 zhM bV t aG he fun x=>by rw[←hm x];exact(mJ t _ _ _).symm
theorem zhP(bV:fO P G M inl){f:Nat}{m:aQ}(t:aC)(aG:inl f (hz 0 m.ps) (qf m.ps.length)=t)(he:t.gv.all (uJ m.rs)=true)
 (ai: ∀x,kO m.pre x→t.wp M (gw 0 (dx m.ps x)) fun _ _ _=>True)(hm: ∀x,wK M t m.rs (gw 0 (dx m.ps x))=m.m x):bI P G f m:=
 NW bV t aG he (fun x hx=>(kk t (ai x hx)).1) fun x _=>by rw[←hm x];exact(mJ t _ _ _).symm
end
end Go.aK
namespace Go.aK
open Go
section
variable {P:Program} {G:a7} {f:FuncId} {args:List aD} {σ:Heap} {n:Nat}
theorem dF.zhQ{t:TypeId}{cs ly:List aD}{R:aD→List aD→Prop}(h:dF P G f (.ptr 0 0::args) [(0,.box t cs)] 1 fun r bU=>∃cs',bU=[(0,.box t cs')]∧R r cs')(ak:e3 args=true)(dI:e3 cs=true)
 (fP: ∀r cs',R r cs'→jO r=true∧m8 cs'=true){id:Nat}(bc:aE σ id=some (.box t ly))(gz:fT ly cs):
 dF P G f (.ptr id 0::args) σ n fun r bU=>∃cs',bU=eM σ id (.box t cs')∧R r cs':=by
 intro w β ro ec aa ae au aP bE
 have dg:=au.c5 id _ bc
 cases dg with
 |box _ _ b arr aB bd cj eo=>
  have Vl: ∀k,Own [(0,ej.box t cs)] (fun _=>β id) k→b2 (β id)=some k:=fun k ⟨i,o,ah,_,ad⟩=>ad
  have k5:hh w ro [(0,.box t cs)] (fun _=>β id) 1:=by
   refine⟨fun i o ah=>?_,fun i zU o cz k ah dV _ _ _ _=>?_,fun k aj an=>au.fg k aj ⟨id,_,bc,rfl,Vl k an⟩,au.lt⟩
   ·simp only[aE]at ah
    split at ah
    ·rename_i hi
     subst hi;cases ah;refine .box t cs b arr aB bd (by rw[cj,gz.at.1]) fun j x af=>?_
     obtain⟨y,ax,ai⟩:=gz.at.2 j x af;exact nV (ai _ _ _ _ _ _ (eo j y ax)) (m3 dI af)
    ·cases ah
   ·simp only[aE]at ah dV
    split at ah
    ·split at dV
     ·rename_i b5 a2;rw[←b5,←a2]
     ·cases dV
    ·cases ah
  refine Calls.mono (h w (fun _=>β id) ro ec aa (fun i x hx=>?_) k5 aP (fun i o ah=>?_)) fun e w' ⟨v,r,fF,dL,ro',cI,he,⟨cs',Kc,ag⟩,dA,hO,cD⟩=>?_
  ·cases i with
   |zero=>
    simp only[List.getElem?_cons_zero,Option.some.injEq]at hx
    subst hx
    have:=ae 0 _ rfl
    generalize ec.getD 0 undef=bR at this⊢
    cases this with
    |ptr _ _ _ aq kf=>
     refine .ptr 0 0 bR Nat.one_pos fun bC cs' ah=>?_
     exact kf t ly bc
   |succ i=>exact nV (ae (i+1) x (by simpa using hx)) (m3 ak (by simpa using hx))
  ·simp only[aE]at ah
   split at ah
   ·rename_i hi;rw[←hi];exact Nat.one_pos
   ·cases ah
  ·subst Kc
   obtain⟨zhR,zhS⟩:=fP r cs' ag
   have e2:c2 ⟨w,ro,σ,β,n⟩ G ⟨[],σ,n,n⟩ ⟨#[],[]⟩ w β ro:=⟨rfl,rfl,by simp,au,aP,⟨rfl,rfl,rfl,Nat.le_refl _,fun _ _ _=>rfl,fun _ h=>.inl h,fun _ h=>h,fun _ h=>.inl h,fun id _ o ah=>⟨by simp[ah],rfl⟩,bE,Nat.le_refl _⟩,Nat.le_refl _⟩
   have zhT:dL 0=β id:=(cD.dK 0 Nat.one_pos (.box t cs') (by simp[aE])).2
   have hw:=e2.write (w':=w') id _ (.box t cs') bc rfl rfl (.inl ⟨t,ly,cs',rfl,rfl⟩) cD.os cD.tape cD.output cD.size (fun k aj b3=>cD.frame k aj fun an=>b3 (Vl k an)) (by
    have zhU:=hO.c5 0 (.box t cs') (by simp[aE])
    cases zhU with
    |box _ _ b' zhV g1 g2 g3 g4=>
     exact .box t cs' b' zhV (by rw[←zhT];exact g1) g2 g3 fun j x af=>DI (g4 j x af) (DH zhS af))
   exact⟨v,r,eM σ id (.box t cs'),β,ro,n,he,⟨cs',rfl,ag⟩,DI dA zhR,hw.heap,hw.trans⟩
end
def yo(ds:List aF):List aD:=
 match ds with
 |⟨.st c,x⟩::_=>(b9 c x).map .av
 |_=>[]
def FK(ds:List aF):aD:=
 match ds.tail.map aF.fm with
 |[v]=>v
 |l=>.tuple l
def jj(P:Program)(G:a7)(f:Nat)(t:TypeId)(m:aQ):Prop:=
 ∀x:(fb m.ps).den,kO m.pre x→dF P G f (.ptr 0 0::(dx m.ps x).tail.map aF.fm) [(0,.box t (yo (dx m.ps x)))] 1 fun v bU=>∃cs',bU=[(0,.box t cs')]∧v=FK (dx m.rs (m.m x))∧cs'=yo (dx m.rs (m.m x))
structure j0 where
 f:Nat
 j:Nat
 t:TypeId
 c:bK
 ps:List aU
 rs:List aU
 eO:Bool
def j0.pH(b:j0):h9:=⟨b.f,b.j,.st b.c::b.ps,.st b.c::b.rs,b.eO⟩
def zhW(P:Program)(G:a7)(M:List aQ)(b:j0):Prop:=
 (eT aQ.d M b.j).ps= .st b.c::b.ps∧(eT aQ.d M b.j).rs= .st b.c::b.rs∧jj P G b.f b.t (eT aQ.d M b.j)∧(b.eO=true→(eT aQ.d M b.j).pre=none)
def JX(P:Program)(G:a7)(M:List aQ)(C:List j0):Prop:=∀b∈C,zhW P G M b
def FL(f:Nat):List j0→Option j0
 |[]=>none
 |c::r=>match Nat.beq c.f f with
  |true=>some c
  |false=>FL f r
theorem Vm{f:Nat}{c:j0}: ∀{C:List j0},FL f C=some c→c∈C∧c.f=f
 |[],h=>by cases h
 |d::r,h=>by
  unfold FL at h
  split at h
  ·rename_i hd;cases h;exact⟨List.mem_cons_self ..,Nat.eq_of_beq_eq_true hd⟩
  ·obtain⟨aa,ae⟩:=Vm h;exact⟨List.mem_cons_of_mem _ aa,ae⟩
def pI(rs:List aU)(k:Nat):Nat:=
 match rs with
 |[_]=>k
 |_=>k+1
def FM(rs:List aU)(k:Nat):ab:=
 match rs with
 |[r]=>Bo r k
 |rs=>.tp (hz k rs)
def FN(b:j0)(S:ao)(id:Nat)(xs:List ab):ao:=
 ⟨a8.put .emp 0 (FM b.rs (pI b.pH.rs S.k+1)),ju S.h id (.di b.t (iS b.c (pI b.pH.rs S.k) 0 (eX b.c))),S.n,S.k+(iD b.pH xs S.k).length,S.g⟩
def Vn(b:j0)(S:ao)(t:TypeId)(l rest xs:List ab):Bool:=
 (Nat.beq t b.t&&(hs (eX b.c) l&&ab.cK S.k l))&&((tL rest&&ab.cK S.k xs)&&((aU.st b.c).tK&&(b.rs.all aU.tK&&b.rs.all aU.iz)))
def NY(C:List j0)(inl:Nat→List ab→ao→aC)(f:Nat)(as:List ab)(S:ao):aC:=
 match FL f C,as with
 |some b,.ed id 0::rest=>match c9 S.h id,sd S b.ps rest with
  |some (.di t l),some xs=>match Vn b S t l rest xs with
   |true=>emit S.k (iD b.pH (.cg l::xs) S.k) (FD b.pH (.cg l::xs)) (.cG .ch (FN b S id (.cg l::xs)))
   |false=>inl f as S
  |_,_=>inl f as S
 |_,_=>inl f as S
section
variable {P:Program} {G:a7} {M:List aQ} {C:List j0} {inl:Nat→List ab→ao→aC}
theorem zhX{c:h9}{xs:List ab}{k:Nat}{e:Env}{y:(fb c.rs).den}(aq:ab.cK k xs=true)(aL:Env.at (de M e k (iD c xs k)) k=⟨fb c.rs,y⟩):
 ∀(j:Nat) (d:aF),(dx c.rs y)[j]? =some d→Env.at (de M e k (iD c xs k)) (pI c.rs k+j)=d:=by
 have eJ:=jy (M:=M) (e:=e) (FF (c:=c) aq)
 obtain⟨f,FH,ps,rs,eO⟩:=c
 simp only at y aL eJ⊢
 match rs,y,aL,eJ with
 |[],y,aL,eJ=>intro j d af;cases af
 |[r],y,aL,eJ=>
  intro j d af
  cases j with
  |zero=>
   have af:(⟨r,y⟩:aF)=d:=by simpa[dx]using af
   rw[←af];exact aL
  |succ j=>simp[dx]at af
 |r::s::l,y,aL,eJ=>
  intro j d af
  have hlen:j<(r::s::l).length:=by
   have aa:=(List.getElem?_eq_some_iff.1 af).1
   have:=congrArg List.length (tM (rs:=r::s::l) (x:=y))
   rw[List.length_map]at this;omega
  have aa:=eJ (j+1) (.rS (r::s::l) k j) (by
   show(bJ.ca FH xs::oj (r::s::l) k 0 (r::s::l))[j+1]? =_
   rw[List.getElem?_cons_succ,NN,if_pos hlen,Nat.zero_add])
  show Env.at _ (k+1+j)=d;rw[show k+1+j=k+(j+1)by omega,aa]
  simp only[bJ.den,aL,cA];exact NR af
theorem zhY{e:Env}{rs:List aU}{k:Nat}{ds:List aF}(ag:ds.map aF.r=rs)(h: ∀j d,ds[j]? =some d→Env.at e (k+j)=d):(FM rs k).den G e=(match ds.map aF.fm with|[v]=>v|l=>.tuple l):=by
 match rs,ds,ag,h with
 |[],ds,ag,h=>cases mw ag;rfl
 |[r],ds,ag,h=>
  obtain⟨d,pf,rfl,aa,ae⟩:=lN ag
  cases mw ae
  subst aa;exact NP (x:=d.v) (h 0 d rfl)
 |r::s::l,ds,ag,h=>
  have:=Bp (G:=G) (i:=k) ag h
  obtain⟨d,pf,rfl,aa,ae⟩:=lN ag;obtain⟨d2,zj7,rfl,au,aP⟩:=lN ae;show aD.tuple (ab.bP G e (hz k (r::s::l)))=_;rw[this];rfl
theorem zhZ{ds:List aF}{c:bK}{x:fN c}{r:List aF}(h:ds=⟨.st c,x⟩::r)(hc:(aU.st c).tK=true):m8 (yo ds)=true:=by
 subst h
 have:=Vc (d:=⟨.st c,x⟩) hc
 exact this
theorem zh0(q2:JX P G M C)(bV:fO P G M inl):fO P G M (NY C inl):=fun f as S e ad aq hf ai=>by
 unfold NY at ai⊢
 split at ai
 rotate_left
 ·exact bV _ _ S e ad aq hf ai
 rename_i b id rest hc
 split at ai
 rotate_left
 ·exact bV _ _ S e ad aq hf ai
 rename_i t l xs ah hx
 split at ai
 rotate_left
 ·exact bV _ _ S e ad aq hf ai
 rename_i aj
 simp only[Vn,Bool.and_eq_true]at aj
 obtain⟨⟨fx,gG,k7⟩,⟨sP,zA⟩,uN,wP,NZ⟩:=aj
 have fx:=Nat.eq_of_beq_eq_true fx
 subst fx
 obtain⟨hm,Bs⟩:=Vm hc
 obtain⟨g1,g2,g3,g4⟩:=q2 b hm
 have zh1:ab.lt S.k (.cg l)=true:=k7
 have FO:ab.cK S.k (.cg l::xs)=true:=by simp only[ab.cK,zh1,zA,Bool.and_self]
 obtain⟨hn,_⟩:=mF ai
 have vO:=FF (c:=b.pH) FO
 have bQ:bW S.k e (de M e S.k (iD b.pH (.cg l::xs) S.k)):=jS (Nat.le_refl _)
 have b3:b.eO=false→fe.ok M (de M e S.k (iD b.pH (.cg l::xs) S.k)) (.ca b.j (.cg l::xs)):=fun jn=>hn _ (by unfold FD;rw[show b.pH.eO=b.eO from rfl,jn];exact List.mem_singleton.2 rfl)
 obtain⟨b5,a2,a3,a4⟩:=yn (G:=G) (e:=e) hx
 have eJ:=jy (M:=M) (e:=e) vO 0 (.ca b.j (.cg l::xs)) (by unfold iD;split<;>rfl)
 have dC:=Ap (G:=G) (e:=e) gG
 obtain⟨FP,Bu,bt,hV,se,nv,Bv⟩:=b
 simp only[j0.pH]at g1 g2 g3 g4 Bs vO bQ b3 b5 a2 a3 a4 eJ gG uN wP NZ dC hx⊢
 subst Bs
 simp only[Nat.add_zero,bJ.den]at eJ
 simp only[fe.ok]at b3
 clear ai hn
 generalize eT aQ.d M Bu=m at g1 g2 g3 g4 eJ b3
 obtain⟨zj8,zj9,zka,oo⟩:=m
 simp only at g1 g2 g3 g4 eJ b3
 subst g1 g2
 rw[xu bQ FO]at eJ
 have vN:(gC e (.st hV::se) (.cg l::xs)).map aF.r= .st hV::se:=by simp only[gC,List.map_cons,a4]
 have Bw:=ym vN
 have ho:=g3 (b8 _ (gC e (.st hV::se) (.cg l::xs))) (by
  cases Bv with
  |true=>rw[g4 rfl];trivial
  |false=>
   have:=b3 rfl
   rw[xu bQ FO]at this
   exact this)
 simp only at ho
 rw[Bw]at ho
 generalize ax:oo (b8 (.st hV::se) (gC e (.st hV::se) (.cg l::xs)))=y at ho eJ
 have Ey:=zhX (M:=M) (c:=⟨FP,Bu,.st hV::se,.st hV::nv,Bv⟩) FO eJ
 obtain⟨d0,tO,m5,ow,hdr⟩:=lN (tM (rs:=.st hV::nv) (x:=y))
 obtain⟨zh2,c6⟩:=d0
 simp only at ow
 subst ow
 simp only[m5]at ho Ey
 rw[a3 sP]at b5 a2
 have ho:=ho.arg (.cons (Sub.refl _) b5)
 have bc:aE (cx G e S.h) id=some (.box bt (ab.bP G e l)):=by rw[eh,ah];rfl
 have lW:=dF.zhQ (R:=fun r cs'=>r=FK (⟨.st hV,c6⟩::tO)∧cs'=yo (⟨.st hV,c6⟩::tO)) (σ:=cx G e S.h) (n:=S.n) ho a2 (Dr _) (fun r cs' ⟨c0,df⟩=>⟨by
  rw[c0]
  have hsc:m8 (tO.map aF.fm)=true:=NM fun d hd=>by
   have:d.r∈nv:=by rw[←hdr];exact List.mem_map_of_mem hd
   exact List.all_eq_true.1 wP d.r this
  unfold FK;simp only[List.tail_cons]
  split
  ·rename_i v aw
   rw[aw]at hsc;simpa[m8]using hsc
  ·exact hsc,by rw[df];exact zhZ rfl uN⟩) bc dC
 have aL:=Ey 0 ⟨.st hV,c6⟩ rfl
 rw[Nat.add_zero]at aL
 have hlen:pI (.st hV::nv) S.k+1+nv.length≤S.k+(iD ⟨FP,Bu,.st hV::se,.st hV::nv,Bv⟩ (.cg l::xs) S.k).length:=by
  cases nv with
  |nil=>simp[pI,iD]
  |cons r q=>simp only[pI,iD,List.length_cons,NO];omega
 have zh3:pI (.st hV::nv) S.k<S.k+(iD ⟨FP,Bu,.st hV::se,.st hV::nv,Bv⟩ (.cg l::xs) S.k).length:=by omega
 refine lW.res fun r bU ⟨cs',aa,ae,au⟩=>⟨_,_,by rw[lU];rfl,?_,?_,?_,?_,bQ,Nat.le_add_right _ _⟩
 ·rw[ae]
  have:=zhY (G:=G) (k:=pI (.st hV::nv) S.k+1) hdr fun j d af=>by
   have:=Ey (j+1) d (by simpa using af)
   rw[←this]
   congr 1
   omega
  show _=ab.den G _ (ao.at (FN _ S id _) 0);unfold FN ao.at
  simp only[a8.hZ,if_true];exact this.symm
 ·rw[aa,au]
  show _=cx G _ (ju S.h id _);rw[ti,xt bQ ad.h];simp only[bF.den,j0.pH];rw[ta,aL,cA];rfl
 ·refine⟨fun i x hi=>?_,E4 (o:=.di bt (iS hV (pI (.st hV::nv) S.k) 0 (eX hV))) (FG zh3) (tj (Nat.le_add_right _ _) ad.h),n9 (Nat.le_add_right _ _) ad.g⟩
  simp only[FN,a8.hZ]at hi
  split at hi
  ·cases hi
   show(FM nv (pI (.st hV::nv) S.k+1)).lt (S.k+_)=true;unfold FM
   split
   ·have Ki:pI (.st hV::[_]) S.k+1<S.k+(iD ⟨FP,Bu,.st hV::se,.st hV::[_],Bv⟩ (.cg l::xs) S.k).length:=hlen
    exact NQ Ki
   ·simp only[ab.lt]
    exact Bq hlen
  ·simp[a8.get]at hi
 ·exact ij bQ ad.g hf
end
end Go.aK
