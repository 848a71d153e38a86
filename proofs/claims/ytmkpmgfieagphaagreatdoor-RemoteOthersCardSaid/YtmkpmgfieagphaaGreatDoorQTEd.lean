/- TD, part Z: regions of drawn order, sound. Conditions: none. -/
import Derived.Test.YtmkpmgfieagphaaGreatDoorQTDy
namespace Go.aK
open Go
def xp(v:ab):Bool:=
 match v.rt with
 |some (.int _)=>true
 |some .bool=>true
 |some .str=>true
 |_=>false
def L5(P:Program)(S:aq)(t:TypeId)(id:Nat)(i:ab):Option dt:=
 match i.rt,jW P t,da S.h id with
 |some (.int k),some n,some (.rw _ c y)=>match Nat.beq n (bZ c)with
  |true=>some ⟨[],oR S.g (.iJ c) (.j1 c k) y i,.gJ id i 0⟩
  |false=>none
 |_,_,_=>none
def L6(P:Program)(S:aq)(t:TypeId)(x i:ab):Option dt:=
 match i.rt,jW P t,uq x with
 |some (.int k),some n,some c=>match Nat.beq n (bZ c)with
  |true=>some ⟨[.f2 (.j1 c k) x i],oR S.g (.iJ c) (.j1 c k) x i,.ip c S.k 0⟩
  |false=>none
 |_,_,_=>none
def L7(P:Program)(S:aq)(t:TypeId)(id off:Nat)(i:ab):Option dt:=
 match i.rt,tJ P t,uj S (.eb id off)with
 |some (.int _),some (len,n),some _=>match i with
  | .cs (.int _ (.ofNat j))=>match Nat.blt j len,wL (j*n) (.eb id off)with
   |true,some p=>some ⟨[],[],p⟩
   |_,_=>none
  |i=>some ⟨[],wJ S.g len i,.gO id off i n⟩
 |_,_,_=>none
def Eh(P:Program)(N:Nat)(S:aq)(t:TypeId)(x:ab)(lo hi:Option Operand):Option dt:=
 match wP N S lo,wP N S hi,x.rt,jW P t with
 |some l,some h,some (.li c),some n=>match Nat.beq n (bZ c)with
  |true=>some ⟨[.ez c x l h],[.ez c x l h],.aT (.li c) S.k⟩
  |false=>none
 |_,_,_,_=>none
def rr(P:Program)(N:Nat)(S:aq)(o:Oper):Option dt:=
 match o.op with
 | .move x=>some ⟨[],[],S.aY N x⟩
 | .assign x=>some ⟨[],[],S.aY N x⟩
 | .nilCheck x=>match sv S (S.aY N x)with
  |true=>some ⟨[],[],S.aY N x⟩
  |false=>none
 | .fieldAddr t x f=>match r4 P t f,sv S (S.aY N x)with
  |some k,true=>match wL k (S.aY N x)with
   |some p=>some ⟨[],[],p⟩
   |none=>none
  |_,_=>none
 | .load t x=>match uj S (S.aY N x)with
  |some l=>match pG P t l with
   |some v=>some ⟨[],[],v⟩
   |none=>none
  |none=>match p9 P N S o with
   |some r=>match xp r.v with
    |true=>some r
    |false=>none
   |none=>none
 | .indexAddr t x i=>match S.aY N x with
  | .aM id=>L5 P S t id (S.aY N i)
  | .eb id off=>L7 P S t id off (S.aY N i)
  |y=>L6 P S t y (S.aY N i)
 | .slice t x lo hi none=>match Eh P N S t (S.aY N x) lo hi with
  |some r=>some r
  |none=>match p9 P N S o with
   |some r=>match xp r.v with
    |true=>some r
    |false=>none
   |none=>none
 |_=>match p9 P N S o with
  |some r=>match xp r.v with
   |true=>some r
   |false=>none
  |none=>none
def mY(o:Oper):Bool:=
 match o.op with
 | .store _ _ _=>true
 | .alloc _=>true
 | .box _ _=>true
 | .buildSlice _ _ _=>true
 | .mapUpdate _ _ _ _=>true
 | .call c=>match c.callee with
  | .builtin .append=>true
  | .builtin .copy=>true
  |_=>false
 |_=>false
mutual
def ab.pure:ab→Bool
 | .aT _ _=>true
 | .fd _ _ _ _=>true
 | .cs _=>true
 | .ip _ _ _=>true
 | .ch l=>ab.e3 l
 | .tp l=>ab.e3 l
 | .fn _ a b=>ab.e3 a&&ab.e3 b
 |_=>false
def ab.e3:List ab→Bool
 |[]=>true
 |x::r=>ab.pure x&&ab.e3 r
end
def L8(S:aq)(dst:Option Nat)(C:aq):aB:=
 match ab.pure (C.at 0)with
 |true=>.cG .cj ((⟨S.l,S.h,S.n,C.k,C.g⟩:aq).put dst (C.at 0))
 |false=>.bad 74
def ru(P:Program)(N B:Nat)(T:List (Nat × bF))(inl:Nat→List ab→aq→aB)(o:Oper)(S:aq):aB:=
 match mY o with
 |true=>match DJ P N B T S o with
  |some r=>match ho S.k r.xs&&(r.v.lt (S.k+r.xs.length)&&eE (S.k+r.xs.length) r.h)with
   |true=>emit S.k r.xs r.ns (.cG .cj ((r.st S o.dst).e0 S.k r.xs))
   |false=>.bad 31
  |none=>.bad (100+Ld o)
 |false=>match p9 P N S o with
  |some r=>match ho S.k r.xs&&r.v.lt (S.k+r.xs.length)with
   |true=>emit S.k r.xs r.ns (.cG .cj ((S.e0 S.k r.xs).put o.dst r.v))
   |false=>.bad 30
  |none=>match zQ P N S o with
   |some (f,aG)=>match mE P f&&ab.e3 aG with
    |true=>(inl f aG ⟨.emp,[],0,S.k,S.g⟩).eG (L8 S o.dst) none
    |false=>.bad 32
   |none=>.bad (100+Ld o)
def qi(P:Program)(N B:Nat)(T:List (Nat × bF))(inl:Nat→List ab→aq→aB)(ops:Array Oper)(o:Oper)(S:aq):aB:=
 match guardOf N ops S o with
 | .yes=>ru P N B T inl o S
 | .no=>match mY o with
  |false=>.cG .cj (S.put o.dst (.tp []))
  |true=>.bad 73
 | .on gs=>match lz S.k gs&& !(mY o)with
  |true=>match p9 P N {S with g:=hp gs S.g} o with
   |some r=>match ho S.k r.xs&&r.v.lt (S.k+r.xs.length)with
    |true=>emit S.k r.xs (r.ns.map (qd gs)) (.cG .cj ((S.e0 S.k r.xs).put o.dst (j6 gs r.v)))
    |false=>.bad 35
   |none=>sF (rm S o.dst) gs (ru P N B T inl o {S with g:=hp gs S.g}) S.g
  |false=>.bad 36
 | .bad=>.bad 37
def sN(P:Program)(N:Nat)(ops:Array Oper)(o:Oper)(S:aq)(k:aq→aB):aB:=
 match guardOf N ops S o with
 | .yes=>match rr P N S o with
  |some r=>match ho S.k r.xs&&r.v.lt (S.k+r.xs.length)with
   |true=>emit S.k r.xs r.ns (k ((S.e0 S.k r.xs).put o.dst r.v))
   |false=>.bad 30
  |none=>.bad 76
 | .no=>k (S.put o.dst (.tp []))
 | .on gs=>match lz S.k gs with
  |true=>match rr P N {S with g:=hp gs S.g} o with
   |some r=>match ho S.k r.xs&&r.v.lt (S.k+r.xs.length)with
    |true=>emit S.k r.xs (r.ns.map (qd gs)) (k ((S.e0 S.k r.xs).put o.dst (j6 gs r.v)))
    |false=>.bad 35
   |none=>.bad 76
  |false=>.bad 36
 | .bad=>.bad 37
def pop(P:Program)(N:Nat)(S:aq)(o:Oper):Bool:=
 match o.op with
 | .move _=>true
 | .assign _=>true
 | .nilCheck _=>true
 | .fieldAddr _ _ _=>true
 | .indexAddr _ _ _=>true
 | .slice t x lo hi none=>(Eh P N S t (S.aY N x) lo hi).isSome
 |_=>false
def xq(P:Program)(N:Nat)(ops:Array Oper)(S:aq)(o:Oper):Bool:=
 match guardOf N ops S o with
 | .yes=>pop P N S o
 | .no=>true
 | .on gs=>pop P N {S with g:=hp gs S.g} o
 | .bad=>false
def zfN(P:Program)(N:Nat)(ops:Array Oper)(wr m:List Bool)(S:aq)(i:Nat):Bool:=
 match ops[i]? with
 |some o=>(Region.free .any ops m.toArray i&&(!(wr.getD i false)&&(xq P N ops S o||Eg ops wr m i)))&&(match guardOf N ops S o with
  | .yes=>(rr P N S o).isSome
  | .no=>true
  | .on gs=>(rr P N {S with g:=hp gs S.g} o).isSome
  | .bad=>false)
 |none=>false
def Ts(P:Program)(N:Nat)(ops:Array Oper)(wr m:List Bool)(S:aq):List Nat→Option Nat
 |[]=>none
 |i::r=>match zfN P N ops wr m S i with
  |true=>some i
  |false=>Ts P N ops wr m S r
def Ei(N:Nat)(ops:Array Oper)(S:aq)(o:Oper):List (ab × Bool):=
 match guardOf N ops S o with
 | .on gs=>gs
 |_=>[]
def L9:b6→b6→Bool
 | .d1 i f x,.d1 j g y=>Nat.beq i j&&(decide (f=g)&&eF x y)
 | .d2 i f x y,.d2 j g u v=>(Nat.beq i j&&decide (f=g))&&(eF x u&&eF y v)
 | .rg i b,.rg j c=>Nat.beq i j&&eF b c
 | .dR g b,.dR h c=>eF g h&&decide (b=c)
 |_,_=>false
def Ej:List b6→List b6→Bool
 |[],[]=>true
 |x::l,y::m=>L9 x y&&Ej l m
 |_,_=>false
def Ma:bB→bB→Bool
 | .dm t l,.dm u m=>Nat.beq t u&&oX l m
 | .rw t c x,.rw u d y=>Nat.beq t u&&(decide (c=d)&&eF x y)
 | .it u x p,.it v y q=>decide (u=v)&&(eF x y&&eF p q)
 |_,_=>false
def Ek:List (Nat × bB)→List (Nat × bB)→Bool
 |[],[]=>true
 |(i,x)::l,(j,y)::m=>Nat.beq i j&&(Ma x y&&Ek l m)
 |_,_=>false
def Ai:ba ab→ba ab→Bool
 | .emp,.emp=>true
 | .n v l r,.n w m s=>(match v,w with
  |some x,some y=>eF x y
  |none,none=>true
  |_,_=>false)&&(Ai l m&&Ai r s)
 |_,_=>false
def Mb(S U:aq):Bool:=(Ai S.l U.l&&Ek S.h U.h)&&((Nat.beq S.n U.n&&Nat.beq S.k U.k)&&Ej S.g U.g)
def Mc:bJ→bJ→Bool
 | .ca j aG,.ca i cM=>Nat.beq j i&&oX aG cM
 | .q4 rs p i,.q4 qs q j=>decide (rs=qs)&&(Nat.beq p q&&Nat.beq i j)
 | .f1 f x,.f1 g y=>decide (f=g)&&eF x y
 | .f2 f x y,.f2 g u v=>decide (f=g)&&(eF x u&&eF y v)
 | .wy k v m x,.wy bk bg uQ iB=>(decide (k=bk)&&decide (v=bg))&&(eF m uQ&&eF x iB)
 | .ug k v m x,.ug bk bg uQ iB=>(decide (k=bk)&&decide (v=bg))&&(eF m uQ&&eF x iB)
 |_,_=>false
def Md:fc→fc→Bool
 | .f2 n f x y,.f2 m g u v=>(Nat.beq n m&&decide (f=g))&&(eF x u&&eF y v)
 | .ca j aG,.ca i cM=>Nat.beq j i&&oX aG cM
 | .nth n x,.nth m y=>Nat.beq n m&&eF x y
 |_,_=>false
def qj:aB→aB→Bool
 | .cG .cj S,.cG .cj U=>Mb S U
 | .lt i x t,.lt j y u=>Nat.beq i j&&(Mc x y&&qj t u)
 | .eD n t,.eD m u=>Md n m&&qj t u
 |_,_=>false
def Aj:List aB→aB
 |t::r=>match r.all (qj t)with
  |true=>t
  |false=>.bad 71
 |[]=>.bad 71
def qk(P:Program)(N B:Nat)(T:List (Nat × bF))(inl:Nat→List ab→aq→aB)(ops:Array Oper)(wr:List Bool):Nat→List Bool→aq→aB
 |0,m,S=>match Region.ready .any ops m.toArray with
  |[]=>.cG .cj S
  |_=>.bad 70
 |n+1,m,S=>match Region.ready .any ops m.toArray with
  |[]=>.cG .cj S
  |i::rd=>match Ts P N ops wr m S (i::rd)with
   |some j=>match ops[j]?,(Region.ready .any ops m.toArray).contains j&&(Region.free .any ops m.toArray j&& !(wr.getD j false))with
    |some o,true=>match xq P N ops S o||Eg ops wr m j with
     |true=>sN P N ops o S (qk P N B T inl ops wr n (m.set j true))
     |false=>.bad 79
    |_,_=>.bad 77
   |none=>match rd,ops[i]? with
    |[],some o=>match decide (wr.getD i false=mY o)with
     |true=>qb N S o.dst (Ei N ops S o) (qi P N B T inl ops o S) (qk P N B T inl ops wr n (m.set i true))
     |false=>.bad 78
    |_,_=>Aj ((i::rd).map fun j=>match ops[j]? with
     |some o=>match decide (wr.getD j false=mY o)with
      |true=>qb N S o.dst (Ei N ops S o) (qi P N B T inl ops o S) (qk P N B T inl ops wr n (m.set j true))
      |false=>.bad 78
     |none=>.bad 77)
def Me(P:Program)(N B:Nat)(T:List (Nat × bF))(inl:Nat→List ab→aq→aB)(ops:Array Oper)(S:aq):aB:=
 match P.follows .mixedOrders&&Region.noSelect ops with
 |true=>qk P N B T inl ops (ops.toList.map mY) ops.size (List.replicate ops.size false) S
 |false=>.bad 75
section
variable {P:Program} {G:a8} {N B:Nat} {M:List aR} {T:List (Nat × bF)} {inl:Nat→List ab→aq→aB}
theorem zfO{v:ab}{e:Env}(h:xp v=true): ∃c,v.den G e= .au (.v c):=by
 unfold xp at h
 split at h
 ·rename_i ag;exact⟨_,fX ag⟩
 ·rename_i ag;exact⟨_,fX ag⟩
 ·rename_i ag;exact⟨_,fX ag⟩
 ·cases h
theorem zfP{t:TypeId}{n:Nat}(h:lV P t=some n):scalar P t=false:=by
 unfold lV at h
 unfold scalar
 split at h<;>simp_all
theorem jH.rv{ops:Array Oper}{o:Oper}{s:aO}{v:aC}(h:l6 P G o s v)(ah:dL ops s o=some true):jH P G ops o s (s.put o.dst v):=by
 intro E a w ⟨β,ro,ag⟩
 have hw:=nv (ops:=ops) ⟨β,ro,ag⟩ ah
 obtain⟨c,aa,ae⟩:=h E a w β ro ag
 exact⟨c,.inl ⟨hw,fun dk _=>aa dk⟩,β,ro,ag.put _ _ _ ae⟩
theorem Tt{o:Oper}{S:aq}{t:TypeId}{x i:Operand}{r:dt}{e:Env}(an:o.op= .indexAddr t x i)(h:L6 P S t (S.aY N x) (S.aY N i)=some r)(hf:S.cq e)(hx: ∀(j:Nat) (x:bJ),r.xs[j]? =some x→Env.at e (S.k+j)=x.den M e)(hn: ∀n∈r.ns,n.ok M e):l6 P G o (S.den G N B e) (r.v.den G e):=by
 unfold L6 at h
 split at h
 ·rename_i k n c hi lx hc
  split at h
  ·rename_i ad
   cases h
   have ad:=Nat.eq_of_beq_eq_true ad
   rw[ad]at lx
   have hg:aI G (S.den G N B e) i=_:=(bC hf i).trans (jn hi)
   obtain⟨hd,zA⟩:=Dd (G:=G) (e:=e) hc;obtain⟨g1,g2⟩:=wK hf hi hn
   have:=Re c _ k _ an lx hg ((bC hf x).trans hd) g1 g2
   have aP:Env.at e S.k=_:=hx 0 _ rfl
   have aa:=RJ (G:=G) (x:=List.getD ((S.aY N x).az e (.li c)) (Int.toNat ((S.aY N i).az e (.int k))) (aE c)) aP
   show l6 P G o _ ((ab.ip c S.k 0).den G e);rw[aa];exact this
  ·cases h
 ·cases h
theorem zfQ{o:Oper}{s:aO}(t:TypeId)(x i:Operand)(an:o.op= .indexAddr t x i){n:Nat}(aH:jW P t=some n){k:IntKind}{j:Nat}(hi:aI G s i= .au (.v (.int k (j:Int)))){p:aC}(ak:l0 s.heap n j (aI G s x)=some p):
 l6 P G o s p:=
 fun _ a w β ro ag=>by
  obtain⟨cW,len,cap,hc,af,dy⟩:=Qd ag.heap (ag.eval x) ak;obtain⟨e,hu,bQ⟩:=yQ aH;refine⟨_,fun dk=>?_,dy⟩
  have qR:(0:Int)≤j∧(j:Int)<len:=⟨by omega,by omega⟩
  simp[execOp,an,hc,ag.ec hi,Instr.indexAt,asIntOf,run_underlying hu,af,bQ]
theorem Tu{o:Oper}{S:aq}{t:TypeId}{x i:Operand}{id:Nat}{r:dt}{e:Env}(an:o.op= .indexAddr t x i)(bb:S.aY N x= .aM id)(h:L5 P S t id (S.aY N i)=some r)(hf:S.cq e)(hx: ∀(j:Nat) (x:bJ),r.xs[j]? =some x→Env.at e (S.k+j)=x.den M e)(hn: ∀n∈r.ns,n.ok M e):l6 P G o (S.den G N B e) (r.v.den G e):=by
 unfold L5 at h
 split at h
 ·rename_i k n bz c y hi lx ah
  split at h
  ·rename_i ad
   cases h
   have ad:=Nat.eq_of_beq_eq_true ad
   have hg:aI G (S.den G N B e) i=_:=(bC hf i).trans (jn hi)
   obtain⟨g1,g2⟩:=wK hf hi hn;obtain⟨j,af⟩: ∃j:Nat,(S.aY N i).az e (.int k)=(j:Int):=⟨_,(Int.toNat_of_nonneg g1).symm⟩;rw[af]at hg g2
   have g2:(j:Int)<((List.length (y.az e (.li c)):Nat):Int):=g2
   have:=zfQ (P:=P) (o:=o) t x i an lx hg (p:=.cV id j 0) (by
    rw[bC hf,bb];simp only[ab.den,l0,aq.den,ef,ah,Option.map_some,bB.den]
    rw[if_pos ⟨ad.symm,by rw[List.length_map];omega⟩])
   simp only[ab.den,lv hi,af,Int.toNat_natCast];exact this
  ·cases h
 ·cases h
theorem Tv{o:Oper}{s:aO}(t:TypeId)(x i:Operand)(an:o.op= .indexAddr t x i){len n:Nat}(aH:tJ P t=some (len,n)){k:IntKind}{j:Nat}(hi:aI G s i= .au (.v (.int k (j:Int))))(af:j<len)
 {cs:List aC}(dH:fl s.heap (aI G s x)=some cs){p:aC}(ak:iD (j*n) (aI G s x)=some p):
 l6 P G o s p:=
 fun _ a w β ro ag=>by
  obtain⟨cW,hc,dy⟩:=Py ak dH (ag.eval x);unfold tJ at aH
  split at aH
  ·rename_i m e hu
   cases tK:P.info? e with
   |none=>simp[tK]at aH
   |some zb1=>
    simp[tK]at aH;obtain⟨rfl,rfl⟩:=aH;refine⟨_,fun dk=>?_,dy⟩
    simp[execOp,an,hc,ag.ec hi,Instr.indexAt,asIntOf,run_underlying hu,Instr.sureAddr,af,sizeOf,typeInfo,tK]
  ·cases aH
theorem Tw{o:Oper}{S:aq}{t:TypeId}{x i:Operand}{id off:Nat}{r:dt}{e:Env}(an:o.op= .indexAddr t x i)(bb:S.aY N x= .eb id off)(h:L7 P S t id off (S.aY N i)=some r)(hf:S.cq e)(hn: ∀n∈r.ns,n.ok M e):l6 P G o (S.den G N B e) (r.v.den G e):=by
 unfold L7 at h
 split at h
 ·rename_i k len n l hi a6 ar
  have hg:aI G (S.den G N B e) i=_:=(bC hf i).trans (jn hi)
  have dH:=zw (G:=G) (N:=N) (B:=B) (e:=e) ar
  have jo:aI G (S.den G N B e) x=(ab.eb id off).den G e:=by rw[bC hf,bb]
  rw[←jo]at dH
  split at h
  ·rename_i bk j af
   split at h
   ·rename_i p cJ ak
    cases h;refine Tv t x i an a6 (k:=bk) (j:=j) (by rw[bC hf,af];rfl) (e6 cJ) dH ?_
    have ai:=zx (G:=G) (e:=e) ak
    rw[←ai,jo];rfl
   ·cases h
  ·cases h
   have jh:0≤ck ((S.aY N i).dyn e)∧ck ((S.aY N i).dyn e)<(len:Int):=C0 hf hn
   obtain⟨j,af⟩: ∃j:Nat,ck ((S.aY N i).dyn e)=(j:Int):=⟨_,(Int.toNat_of_nonneg jh.1).symm⟩;rw[←lv hi,af]at hg;refine Tv t x i an a6 hg (by omega) dH ?_
   rw[jo];simp only[ab.den,iD,af,Int.toNat_natCast]
 ·cases h
theorem Tx{o:Oper}{S:aq}{t:TypeId}{x:Operand}{lo hi:Option Operand}{r:dt}{e:Env}(an:o.op= .slice t x lo hi none)(h:Eh P N S t (S.aY N x) lo hi=some r)(hf:S.cq e)(hx: ∀(j:Nat) (x:bJ),r.xs[j]? =some x→Env.at e (S.k+j)=x.den M e)(hn: ∀n∈r.ns,n.ok M e):l6 P G o (S.den G N B e) (r.v.den G e):=by
 unfold Eh at h
 split at h
 ·rename_i l h' c n ar bd ag lx
  split at h
  ·rename_i ad
   cases h;rw[Nat.eq_of_beq_eq_true ad]at lx
   have aP:Env.at e S.k=_:=hx 0 _ rfl
   simp only[ab.den,aP,bJ.den,cz];exact Rs c _ an lx ((bC hf x).trans (fX ag)) (wR hf ar) (wR hf bd) (hn _ (List.mem_singleton.2 rfl))
  ·cases h
 ·cases h
theorem zfR{ops:Array Oper}{o:Oper}{S:aq}{r:dt}{e:Env}(h:rr P N S o=some r)(hf:S.cq e)(hx: ∀(j:Nat) (x:bJ),r.xs[j]? =some x→Env.at e (S.k+j)=x.den M e)(hn: ∀n∈r.ns,n.ok M e)(ah:dL ops (S.den G N B e) o=some true):
 jH P G ops o (S.den G N B e) ((S.den G N B e).put o.dst (r.v.den G e)):=by
 have key:(match p9 P N S o with
  |some r=>match xp r.v with
   |true=>some r
   |false=>none
  |none=>none)=some r→jH P G ops o (S.den G N B e) ((S.den G N B e).put o.dst (r.v.den G e)):=fun h=>by
  split at h
  ·rename_i eP aw
   split at h
   ·rename_i hc
    cases h
    have dB:=uv (G:=G) (B:=B) (M:=M) aw e hf hx hn
    obtain⟨c,zfS⟩:=zfO (G:=G) (e:=e) hc;rw[zfS]at dB⊢;exact jH.qX dB ah
   ·cases h
  ·cases h
 unfold rr at h
 split at h
 ·rename_i x an
  cases h
  have:jZ P G o (S.den G N B e)=some ((S.aY N x).den G e):=by unfold jZ;rw[an,←bC hf]
  exact(hh.val this ah).l
 ·rename_i x an
  cases h
  have:jZ P G o (S.den G N B e)=some ((S.aY N x).den G e):=by unfold jZ;rw[an,←bC hf]
  exact(hh.val this ah).l
 ·rename_i x an
  split at h
  ·rename_i ak
   cases h
   have:jZ P G o (S.den G N B e)=some ((S.aY N x).den G e):=by
    unfold jZ;rw[an];simp only[bC hf,um ak]
   exact(hh.val this ah).l
  ·cases h
 ·rename_i t x f an
  split at h
  ·rename_i k aj ak
   split at h
   ·rename_i p ai
    cases h
    have:jZ P G o (S.den G N B e)=some (p.den G e):=by
     unfold jZ;rw[an];simp only[aj,bC hf,um ak,zx ai]
    exact(hh.val this ah).l
   ·cases h
  ·cases h
 ·rename_i t x an
  split at h
  ·rename_i l ar
   split at h
   ·rename_i v aw
    cases h
    have hc:=zw (G:=G) (N:=N) (B:=B) (e:=e) ar
    have:CG P G o (S.den G N B e)=some (v.den G e):=by
     unfold CG;rw[an];simp only[bC hf,hc]
     rcases SP (G:=G) (e:=e) aw with⟨n,g1,g2,g3,g4⟩|⟨g1,g2,eP,g3⟩
     ·cases l with
      |nil=>simp at g2;omega
      |cons y l=>
       have ai:scalar P t=false:=zfP g1
       rw[g4];simp only[ab.bO,ai,g1];rw[if_pos ⟨by simpa[lR]using g2,g3⟩]
     ·subst g3
      simp only[ab.bO,g2]
    exact jH.load this ah
   ·cases h
  ·exact key h
 ·rename_i t x i an
  split at h
  ·rename_i id bb
   exact jH.rv (Tu an bb h hf hx hn) ah
  ·rename_i id off bb
   exact jH.rv (Tw an bb h hf hn) ah
  ·exact jH.rv (Tt an h hf hx hn) ah
 ·rename_i t x lo hi an
  split at h
  ·rename_i eP ai
   cases h;exact jH.rv (Tx an ai hf hx hn) ah
  ·exact key h
 ·exact key h
mutual
theorem Ty{e:Env}: ∀{x:ab},ab.pure x=true→fD (x.den G e)=true:=fun {x} h=>by
 cases x with
 |ch l=>simp only[ab.den,fD];exact xr (l:=l) h
 |tp l=>simp only[ab.den,fD];exact xr (l:=l) h
 |fn f a b=>
  simp only[ab.pure,Bool.and_eq_true]at h;simp only[ab.den,fD,xr h.1,xr h.2,Bool.and_self]
 |eb k o=>cases h
 |gJ k x o=>cases h
 |gO k o x n=>cases h
 |cM k n=>cases h
 |fg g i o=>cases h
 |aM k=>cases h
 |gR k=>cases h
 |fH g b x=>cases h
 |lr g o=>cases h
 |top=>cases h
 |_=>rfl
theorem xr{e:Env}: ∀{l:List ab},ab.e3 l=true→e3 (ab.bO G e l)=true:=fun {l} h=>by
 match l with
 |[]=>rfl
 |x::r=>
  simp only[ab.e3,Bool.and_eq_true]at h;simp only[ab.bO,e3,Ty h.1,xr h.2,Bool.and_self]
end
def sO(G:a8)(N B:Nat)(M:List aR)(t:aB)(e:Env)(aX:Nat):aO→Prop:=fun st=>
 ∃aS aA,run M t e=some (.cj,aS,aA)∧aS.cp∧aS.cq aA∧bX aX e aA∧aX≤aS.k∧st=aS.den G N B aA
theorem Tz(bW:fP P G M inl){ops:Array Oper}{o:Oper}{S:aq}{e:Env}(ad:S.cp)(hf:S.cq e)(ai:(ru P N B T inl o S).safe M e)(ah:dL ops (S.den G N B e) o=some true):
 (mY o=true→L4 P G ops o (S.den G N B e) (sO G N B M (ru P N B T inl o S) e S.k))∧(mY o=false→j8 P G ops o (S.den G N B e) (sO G N B M (ru P N B T inl o S) e S.k)):=by
 refine⟨fun hw=>?_,fun hw=>?_⟩
 ·unfold ru at ai⊢
  rw[hw]at ai⊢;simp only at ai⊢
  split at ai
  ·rename_i r aJ
   split at ai
   ·rename_i hc
    simp only[Bool.and_eq_true]at hc;obtain⟨gL,gu⟩:=me ai
    have bS:bX S.k e (dh M e S.k r.xs):=jJ (Nat.le_refl _)
    have dB:=Su (G:=G) (M:=M) aJ (dh M e S.k r.xs) (h8 bS ad.g hf) (jq hc.1) gL
    rw[k1 bS ad]at dB;obtain⟨dk,eu⟩:=SA (M:=M) (o:=o) ad hf hc.1 hc.2.1 hc.2.2;exact fun E a w ag=>⟨nv ag ah,fun K Q hK=>dB E a w ag K Q fun bc w' dV=>hK _ ⟨(r.st S o.dst).e0 S.k r.xs,_,ly,dk,eu,bS,Nat.le_add_right _ _,rfl⟩ bc w' dV⟩
   ·exact ai.elim
  ·exact ai.elim
 ·unfold ru at ai⊢
  rw[hw]at ai⊢;simp only at ai⊢
  split at ai
  ·rename_i r aw
   split at ai
   ·rename_i hc
    simp only[Bool.and_eq_true]at hc;obtain⟨gL,gu⟩:=me ai;obtain⟨cb,a2,a3⟩:=rn (M:=M) (G:=G) (N:=N) (B:=B) ad hf hc.1
    have bS:bX S.k e (dh M e S.k r.xs):=jJ (Nat.le_refl _)
    have dB:=uv (G:=G) (B:=B) (M:=M) aw (dh M e S.k r.xs) (h8 bS ad.g hf) (jq hc.1) gL
    rw[k1 bS ad]at dB;exact j8.v dB ah ⟨(S.e0 S.k r.xs).put o.dst r.v,_,ly,iU cb hc.2,iV a2,bS,by rw[iW];exact Nat.le_add_right _ _,by rw[e9,a3]⟩
   ·exact ai.elim
  ·split at ai
   ·rename_i f aG ua
    split at ai
    ·rename_i gz
     simp only[Bool.and_eq_true]at gz;obtain⟨gz,Mf⟩:=gz;obtain⟨g1,g2,g3⟩:=iX (inl f aG ⟨.emp,[],0,S.k,S.g⟩) none ai;obtain⟨p,q',args,mq,uy,bI⟩:=SC (G:=G) (B:=B) ua hf ad
     have FV:(⟨.emp,[],0,S.k,S.g⟩:aq).cp:=⟨fun i x hx=>by simp[ba.get]at hx,rfl,ad.g⟩
     have hb:=bW f _ ⟨.emp,[],0,S.k,S.g⟩ e FV bI hf g1
     have xt:=xr (G:=G) (e:=e) Mf
     rw[mq]at hb xt;refine j8.call uy gz ah xt hb fun r bU ⟨C,ay,aW,dp,c9,gl,iC,ki,jy⟩=>?_
     have ak:=(g3 C ay aW).1
     have j5:ab.pure (C.at 0)=true:=by
      unfold L8 at ak
      split at ak
      ·assumption
      ·exact ak.elim
     refine⟨by rw[dp];exact Ty j5,(⟨S.l,S.h,S.n,C.k,C.g⟩:aq).put o.dst (C.at 0),ay,?_,?_,iV iC,ki,by rw[iW];exact jy,?_⟩
     ·rw[g2,aW]
      simp only[ir,L8,j5];rfl
     ·refine iU ⟨fun i x hx=>gB jy (ad.l i x hx),ss jy ad.h,gl.g⟩ ?_
      show(C.at 0).lt C.k=true;unfold aq.at
      cases hv:C.l.get 0 with
      |none=>rfl
      |some y=>exact gl.l 0 y hv
     ·rw[e9,dp]
      have:=k1 (G:=G) (N:=N) (B:=B) (S:=S) ki ad
      have ae:(aq.mk S.l S.h S.n C.k C.g).den G N B ay=S.den G N B e:=this
      rw[ae]
    ·exact ai.elim
   ·exact ai.elim
theorem zfT{o:Oper}{S:aq}{e:Env}(ad:S.cp)(hf:S.cq e):sO G N B M (.cG .cj (S.put o.dst (.tp []))) e S.k ((S.den G N B e).put o.dst (.tuple [])):=
 ⟨S.put o.dst (.tp []),e,rfl,iU ad rfl,iV hf,bX.refl _ _,by rw[iW];exact Nat.le_refl _,by rw[e9];rfl⟩
theorem j8.mono{ops:Array Oper}{o:Oper}{s:aO}{A TA:aO→Prop}(h:j8 P G ops o s A)(c8: ∀t,A t→TA t):j8 P G ops o s TA:=fun E a w ag=>by
 rcases h E a w ag with⟨aa,ae⟩|⟨aa,t,ae,av⟩
 ·exact .inl ⟨aa,fun K Q hK=>ae K Q fun t aH=>hK t (c8 t aH)⟩
 ·exact .inr ⟨aa,t,c8 t ae,av⟩
theorem TB(bW:fP P G M inl){ops:Array Oper}{o:Oper}{S:aq}{e:Env}(ad:S.cp)(hf:S.cq e)(ai:(qi P N B T inl ops o S).safe M e):
 (mY o=true→L4 P G ops o (S.den G N B e) (sO G N B M (qi P N B T inl ops o S) e S.k))∧(mY o=false→j8 P G ops o (S.den G N B e) (sO G N B M (qi P N B T inl ops o S) e S.k)):=by
 have ah:=Lk (G:=G) (N:=N) (B:=B) (ops:=ops) (o:=o) hf
 unfold qi at ai⊢
 cases iN:guardOf N ops S o with
 |yes=>
  rw[iN]at ah ai;exact Tz bW ad hf ai ah
 |no=>
  rw[iN]at ah ai;simp only at ai⊢
  split at ai
  ·rename_i hw
   exact⟨fun h=>(by rw[hw]at h;cases h),fun _=>.no ah (zfT ad hf)⟩
  ·exact ai.elim
 |bad=>rw[iN]at ai;exact ai.elim
 |on gs=>
  rw[iN]at ah ai;simp only at ai⊢;obtain⟨g1,g2⟩:=ah
  split at ai
  ·rename_i TC
   simp only[Bool.and_eq_true,Bool.not_eq_true']at TC;obtain⟨kt,hw⟩:=TC;refine⟨fun h=>(by rw[hw]at h;cases h),fun _=>?_⟩
   split at ai
   ·rename_i q aw
    split at ai
    ·rename_i hc
     simp only[Bool.and_eq_true]at hc;obtain⟨gL,gu⟩:=me ai;obtain⟨cb,a2,a3⟩:=rn (M:=M) (G:=G) (N:=N) (B:=B) ad hf hc.1
     have bS:bX S.k e (dh M e S.k q.xs):=jJ (Nat.le_refl _)
     have h0:fM (dh M e S.k q.xs) gs=fM e gs:=DU bS kt
     have aj:S.k≤S.k+q.xs.length:=Nat.le_add_right _ _
     have fB:(j6 gs q.v).lt (S.k+q.xs.length)=true:=DS (DT aj kt) hc.2
     have hD: ∀t,t=(S.den G N B e).put o.dst ((j6 gs q.v).den G (dh M e S.k q.xs))→sO G N B M (emit S.k q.xs (q.ns.map (qd gs)) (.cG .cj ((S.e0 S.k q.xs).put o.dst (j6 gs q.v)))) e S.k t:=fun t aH=>
      ⟨(S.e0 S.k q.xs).put o.dst (j6 gs q.v),_,ly,iU cb fB,iV a2,bS,by rw[iW];exact Nat.le_add_right _ _,by rw[e9,a3,aH]⟩
     cases fq:fM e gs with
     |true=>
      have hX:=xb hf fq
      have h6:=xa ad kt
      have dB:=uv (G:=G) (B:=B) (M:=M) aw (dh M e S.k q.xs) (h8 bS h6.g hX) (jq hc.1) fun n hn=>DX (gL (qd gs n) (List.mem_map.2 ⟨n,hn,rfl⟩)) (h0.trans fq)
      have xd:({S with g:=hp gs S.g}:aq).den G N B (dh M e S.k q.xs)=S.den G N B e:=k1 (S:={S with g:=hp gs S.g}) bS h6
      rw[xd]at dB;exact j8.v dB (g1 fq) (hD _ (by rw[DV (h0.trans fq)]))
     |false=>exact j8.no (g2 fq) (hD _ (by rw[DW (h0.trans fq)]))
    ·exact ai.elim
   ·cases fq:fM e gs with
    |false=>
     obtain⟨hU,c1,di,gQ⟩:=Ln (M:=M) (x:=ru P N B T inl o {S with g:=hp gs S.g}) (y:=rm S o.dst) (l:=S.g) fq kt ad.g hf
     obtain⟨aS,ri,o6,Lq,Lr,Ls⟩:=SJ (G:=G) (N:=N) (B:=B) (dst:=o.dst) ad di gQ;exact j8.no (g2 fq) ⟨aS,e,by rw[c1,ri];rfl,o6,Lq,bX.refl _ _,Lr,Ls.symm⟩
    |true=>
     have hX:=xb hf fq
     have h6:=xa ad kt
     obtain⟨f1,f2⟩:=Lm (M:=M) (x:=ru P N B T inl o {S with g:=hp gs S.g}) (y:=rm S o.dst) (l:=S.g) fq
     refine j8.mono ((Tz bW (S:={S with g:=hp gs S.g}) h6 hX (f2 ai) (g1 fq)).2 hw) fun t ⟨aS,aA,aa,ae⟩=>⟨aS,aA,?_,ae⟩
     rw[f1];exact aa
  ·exact ai.elim
theorem TD{ops:Array Oper}{o:Oper}{S:aq}{e:Env}{k:aq→aB}(X:aO→aO→Prop)(c:aq→Prop)
 (ar: ∀(S:aq) (r:dt) (e:Env),c S→rr P N S o=some r→S.cq e→(∀(j:Nat) (x:bJ),r.xs[j]? =some x→Env.at e (S.k+j)=x.den M e)→(∀n∈r.ns,n.ok M e)→dL ops (S.den G N B e) o=some true→X (S.den G N B e) ((S.den G N B e).put o.dst (r.v.den G e)))
 (aj: ∀s,dL ops s o=some false→X s (s.put o.dst (.tuple [])))(hv:guardOf N ops S o= .yes→c S)(Ck: ∀gs,guardOf N ops S o= .on gs→c {S with g:=hp gs S.g})(ad:S.cp)(hf:S.cq e)(ai:(sN P N ops o S k).safe M e):
 ∃aS aA,aS.cp∧aS.cq aA∧bX S.k e aA∧S.k≤aS.k∧(k aS).safe M aA∧run M (sN P N ops o S k) e=run M (k aS) aA∧X (S.den G N B e) (aS.den G N B aA):=by
 have ah:=Lk (G:=G) (N:=N) (B:=B) (ops:=ops) (o:=o) hf
 unfold sN at ai⊢
 cases iN:guardOf N ops S o with
 |bad=>rw[iN]at ai;exact ai.elim
 |no=>
  rw[iN]at ah ai
  have:=aj _ ah
  exact⟨S.put o.dst (.tp []),e,iU ad rfl,iV hf,bX.refl _ _,by rw[iW];exact Nat.le_refl _,ai,rfl,by rw[e9];exact this⟩
 |yes=>
  rw[iN]at ah ai;simp only at ai⊢
  split at ai
  ·rename_i q aw
   split at ai
   ·rename_i hc
    simp only[Bool.and_eq_true]at hc;obtain⟨gL,gu⟩:=me ai;obtain⟨cb,a2,a3⟩:=rn (M:=M) (G:=G) (N:=N) (B:=B) ad hf hc.1
    have bS:bX S.k e (dh M e S.k q.xs):=jJ (Nat.le_refl _)
    have hd:=k1 (G:=G) (N:=N) (B:=B) bS ad
    have dB:=ar _ _ _ (hv iN) aw (h8 bS ad.g hf) (jq hc.1) gL (by rw[hd];exact ah)
    rw[hd]at dB;exact⟨(S.e0 S.k q.xs).put o.dst q.v,_,iU cb hc.2,iV a2,bS,by rw[iW];exact Nat.le_add_right _ _,gu,ly,by rw[e9,a3];exact dB⟩
   ·exact ai.elim
  ·exact ai.elim
 |on gs=>
  rw[iN]at ah ai;simp only at ai⊢;obtain⟨g1,g2⟩:=ah
  split at ai
  ·rename_i kt
   split at ai
   ·rename_i q aw
    split at ai
    ·rename_i hc
     simp only[Bool.and_eq_true]at hc;obtain⟨gL,gu⟩:=me ai;obtain⟨cb,a2,a3⟩:=rn (M:=M) (G:=G) (N:=N) (B:=B) ad hf hc.1
     have bS:bX S.k e (dh M e S.k q.xs):=jJ (Nat.le_refl _)
     have h0:fM (dh M e S.k q.xs) gs=fM e gs:=DU bS kt
     have uL:S.k≤S.k+q.xs.length:=Nat.le_add_right _ _
     have fB:(j6 gs q.v).lt (S.k+q.xs.length)=true:=DS (DT uL kt) hc.2
     refine⟨(S.e0 S.k q.xs).put o.dst (j6 gs q.v),_,iU cb fB,iV a2,bS,by rw[iW];exact Nat.le_add_right _ _,gu,ly,?_⟩
     rw[e9,a3]
     cases fq:fM e gs with
     |true=>
      have hX:=xb hf fq
      have h6:=xa ad kt
      have xd:({S with g:=hp gs S.g}:aq).den G N B (dh M e S.k q.xs)=S.den G N B e:=k1 (S:={S with g:=hp gs S.g}) bS h6
      have dB:=ar _ _ _ (Ck gs iN) aw (h8 bS h6.g hX) (jq hc.1) (fun n hn=>DX (gL (qd gs n) (List.mem_map.2 ⟨n,hn,rfl⟩)) (h0.trans fq)) (by rw[xd];exact g1 fq)
      rw[xd]at dB;rw[DV (h0.trans fq)];exact dB
     |false=>
      rw[DW (h0.trans fq)];exact aj _ (g2 fq)
    ·exact ai.elim
   ·exact ai.elim
  ·exact ai.elim
theorem zfU{ops:Array Oper}{o:Oper}{S:aq}{e:Env}{k:aq→aB}(ad:S.cp)(hf:S.cq e)(ai:(sN P N ops o S k).safe M e):
 ∃aS aA,aS.cp∧aS.cq aA∧bX S.k e aA∧S.k≤aS.k∧(k aS).safe M aA∧run M (sN P N ops o S k) e=run M (k aS) aA∧jH P G ops o (S.den G N B e) (aS.den G N B aA):=
 TD (jH P G ops o) (fun _=>True) (fun _ _ _ _ aw hf hx hn ah=>zfR aw hf hx hn ah) (fun _ h=>(hh.skip h).l) (fun _=>trivial) (fun _ _=>trivial) ad hf ai
theorem hh.rv{ops:Array Oper}{o:Oper}{s:aO}{v:aC}(h:l6 P G o s v)(ah:dL ops s o=some true):hh P G ops o s (s.put o.dst v):=by
 intro E a w ⟨β,ro,ag⟩
 have hw:=nv (ops:=ops) ⟨β,ro,ag⟩ ah
 obtain⟨c,aa,ae⟩:=h E a w β ro ag
 exact⟨c,.inl ⟨hw,aa⟩,β,ro,ag.put _ _ _ ae⟩
theorem zfV{ops:Array Oper}{o:Oper}{S:aq}{r:dt}{e:Env}(ak:pop P N S o=true)(h:rr P N S o=some r)(hf:S.cq e)(hx: ∀(j:Nat) (x:bJ),r.xs[j]? =some x→Env.at e (S.k+j)=x.den M e)(hn: ∀n∈r.ns,n.ok M e)(ah:dL ops (S.den G N B e) o=some true):
 hh P G ops o (S.den G N B e) ((S.den G N B e).put o.dst (r.v.den G e)):=by
 unfold rr at h
 unfold pop at ak
 split at h
 ·rename_i x an
  cases h
  have:jZ P G o (S.den G N B e)=some ((S.aY N x).den G e):=by unfold jZ;rw[an,←bC hf]
  exact hh.val this ah
 ·rename_i x an
  cases h
  have:jZ P G o (S.den G N B e)=some ((S.aY N x).den G e):=by unfold jZ;rw[an,←bC hf]
  exact hh.val this ah
 ·rename_i x an
  split at h
  ·rename_i aJ
   cases h
   have:jZ P G o (S.den G N B e)=some ((S.aY N x).den G e):=by
    unfold jZ;rw[an];simp only[bC hf,um aJ]
   exact hh.val this ah
  ·cases h
 ·rename_i t x f an
  split at h
  ·rename_i k aj aJ
   split at h
   ·rename_i p ai
    cases h
    have:jZ P G o (S.den G N B e)=some (p.den G e):=by
     unfold jZ;rw[an];simp only[aj,bC hf,um aJ,zx ai]
    exact hh.val this ah
   ·cases h
  ·cases h
 ·rename_i t x an
  rw[an]at ak;cases ak
 ·rename_i t x i an
  split at h
  ·rename_i id bb
   exact hh.rv (Tu an bb h hf hx hn) ah
  ·rename_i id off bb
   exact hh.rv (Tw an bb h hf hn) ah
  ·exact hh.rv (Tt an h hf hx hn) ah
 ·rename_i t x lo hi an
  split at h
  ·rename_i eP ai
   cases h;exact hh.rv (Tx an ai hf hx hn) ah
  ·rename_i ai
   rw[an]at ak;simp only[ai,Option.isSome_none]at ak;cases ak
 ·rename_i aa ae av aQ bL cT fr
  split at ak
  ·rename_i x an;exact absurd an (aa x)
  ·rename_i x an;exact absurd an (ae x)
  ·rename_i x an;exact absurd an (av x)
  ·rename_i t x f an;exact absurd an (aQ t x f)
  ·rename_i t x i an;exact absurd an (cT t x i)
  ·rename_i t x lo hi an;exact absurd an (fr t x lo hi)
  ·cases ak
theorem zfW{ops:Array Oper}{o:Oper}{S:aq}{e:Env}{k:aq→aB}(ak:xq P N ops S o=true)(ad:S.cp)(hf:S.cq e)(ai:(sN P N ops o S k).safe M e):
 ∃aS aA,aS.cp∧aS.cq aA∧bX S.k e aA∧S.k≤aS.k∧(k aS).safe M aA∧run M (sN P N ops o S k) e=run M (k aS) aA∧hh P G ops o (S.den G N B e) (aS.den G N B aA):=
 TD (hh P G ops o) (fun S=>pop P N S o=true) (fun _ _ _ hc aw hf hx hn ah=>zfV hc aw hf hx hn ah) (fun _ h=>hh.skip h)
  (fun ah=>by unfold xq at ak;rw[ah]at ak;exact ak) (fun gs ah=>by unfold xq at ak;rw[ah]at ak;exact ak) ad hf ai
theorem zfX{x y:b6}(h:L9 x y=true):x=y:=by
 unfold L9 at h
 split at h
 ·simp only[Bool.and_eq_true,decide_eq_true_eq]at h;rw[Nat.eq_of_beq_eq_true h.1,h.2.1,eZ h.2.2]
 ·simp only[Bool.and_eq_true,decide_eq_true_eq]at h
  obtain⟨⟨aa,ae⟩,av,aQ⟩:=h
  cases Nat.eq_of_beq_eq_true aa;cases ae;rw[eZ av,eZ aQ]
 ·simp only[Bool.and_eq_true]at h;rw[Nat.eq_of_beq_eq_true h.1,eZ h.2]
 ·simp only[Bool.and_eq_true,decide_eq_true_eq]at h;rw[eZ h.1,h.2]
 ·cases h
theorem TE: ∀{l m:List b6},Ej l m=true→l=m
 |[],[],_=>rfl
 |[],_::_,h=>by cases h
 |_::_,[],h=>by cases h
 |x::l,y::m,h=>by
  simp only[Ej,Bool.and_eq_true]at h;rw[zfX h.1,TE h.2]
theorem zfY{x y:bB}(h:Ma x y=true):x=y:=by
 unfold Ma at h
 split at h
 ·simp only[Bool.and_eq_true]at h;rw[Nat.eq_of_beq_eq_true h.1,rf h.2]
 ·simp only[Bool.and_eq_true,decide_eq_true_eq]at h;rw[Nat.eq_of_beq_eq_true h.1,h.2.1,eZ h.2.2]
 ·simp only[Bool.and_eq_true,decide_eq_true_eq]at h;rw[h.1,eZ h.2.1,eZ h.2.2]
 ·cases h
theorem TF: ∀{l m:List (Nat × bB)},Ek l m=true→l=m
 |[],[],_=>rfl
 |[],_::_,h=>by cases h
 |_::_,[],h=>by cases h
 |(i,x)::l,(j,y)::m,h=>by
  simp only[Ek,Bool.and_eq_true]at h;rw[Nat.eq_of_beq_eq_true h.1,zfY h.2.1,TF h.2.2]
theorem Mg: ∀{l m:ba ab},Ai l m=true→l=m
 | .emp,.emp,_=>rfl
 | .emp,.n _ _ _,h=>by cases h
 | .n _ _ _,.emp,h=>by cases h
 | .n v l r,.n w m s,h=>by
  simp only[Ai,Bool.and_eq_true]at h;rw[Mg h.2.1,Mg h.2.2]
  have aa:=h.1
  cases v<;>cases w<;>first|rfl|(cases aa;done)|(rw[eZ aa])
theorem zfZ{S U:aq}(h:Mb S U=true):S=U:=by
 obtain⟨cb,a2,a3,a4,a5⟩:=S
 obtain⟨gP,jf,hL,sB,wU⟩:=U
 simp only[Mb,Bool.and_eq_true]at h
 obtain⟨⟨aa,ae⟩,⟨av,aQ⟩,bL⟩:=h
 rw[Mg aa,TF ae,Nat.eq_of_beq_eq_true av,Nat.eq_of_beq_eq_true aQ,TE bL]
theorem zf0{x y:bJ}(h:Mc x y=true):x=y:=by
 unfold Mc at h
 split at h<;>(try simp only[Bool.and_eq_true,decide_eq_true_eq]at h)
 ·rw[Nat.eq_of_beq_eq_true h.1,rf h.2]
 ·rw[h.1,Nat.eq_of_beq_eq_true h.2.1,Nat.eq_of_beq_eq_true h.2.2]
 ·obtain⟨aa,ae⟩:=h;subst aa;rw[eZ ae]
 ·obtain⟨aa,ae,av⟩:=h;subst aa;rw[eZ ae,eZ av]
 ·obtain⟨⟨aa,ae⟩,av,aQ⟩:=h;subst aa ae;rw[eZ av,eZ aQ]
 ·obtain⟨⟨aa,ae⟩,av,aQ⟩:=h;subst aa ae;rw[eZ av,eZ aQ]
 ·cases h
theorem zf1{x y:fc}(h:Md x y=true):x=y:=by
 unfold Md at h
 split at h<;>(try simp only[Bool.and_eq_true,decide_eq_true_eq]at h)
 ·obtain⟨⟨aa,ae⟩,av,aQ⟩:=h;subst ae;rw[Nat.eq_of_beq_eq_true aa,eZ av,eZ aQ]
 ·rw[Nat.eq_of_beq_eq_true h.1,rf h.2]
 ·rw[Nat.eq_of_beq_eq_true h.1,eZ h.2]
 ·cases h
theorem zf2: ∀{t u:aB},qj t u=true→t=u:=fun {t}=>by
 induction t with
 |cG x S=>
  intro u h;unfold qj at h
  split at h<;>first|(cases h;done)|skip
  all_goals rename_i heq
  all_goals first|(cases heq;rw[zfZ h];done)|cases heq
 |lt i x t aZ=>
  intro u h
  cases u with
  |lt j y u=>
   simp only[qj,Bool.and_eq_true]at h;rw[Nat.eq_of_beq_eq_true h.1,zf0 h.2.1,aZ h.2.2]
  |_=>simp[qj]at h
 |eD n t aZ=>
  intro u h
  cases u with
  |eD m u=>
   simp only[qj,Bool.and_eq_true]at h;rw[zf1 h.1,aZ h.2]
  |_=>simp[qj]at h
 |_=>intro u h;simp[qj]at h
theorem zf3{l:List aB}{e:Env}(h:(Aj l).safe M e): ∃S,Aj l=S∧∀t∈l,t=S:=by
 unfold Aj at h⊢
 split at h
 ·rename_i t r
  split at h
  ·rename_i ai
   refine⟨t,by simp only[ai],fun u hu=>?_⟩
   rcases List.mem_cons.1 hu with rfl|hu
   ·rfl
   ·exact(zf2 (List.all_eq_true.1 ai u hu)).symm
  ·exact h.elim
 ·exact h.elim
theorem Ak(bW:fP P G M inl){L:List Oper}{wr:List Bool}(kX:Region.noSelect L.toArray=true){Q:Exit→aO→Prop}: ∀(n:Nat) (m:List Bool) {S:aq} {e:Env},S.cp→S.cq e→(qk P N B T inl L.toArray wr n m S).safe M e→(∀st,js G N B M (qk P N B T inl L.toArray wr n m S) e S.k .normal st→Q .normal st)→fG P G L Q wr n m (S.den G N B e)
 |0,m,S,e,ad,hf,ai,eo=>by
  unfold qk at ai eo
  split at ai
  ·rename_i ag
   rw[ag]at eo;exact fG.done (eo _ ⟨.cj,S,e,rfl,trivial,cl.refl _,ad,hf,bX.refl _ _,Nat.le_refl _⟩) ag
  ·exact ai.elim
 |n+1,m,S,e,ad,hf,ai,eo=>by
  unfold qk at ai eo
  cases ag:Region.ready .any L.toArray m.toArray with
  |nil=>
   rw[ag]at eo;exact fG.done (eo _ ⟨.cj,S,e,rfl,trivial,cl.refl _,ad,hf,bX.refl _ _,Nat.le_refl _⟩) ag
  |cons i rd=>
   rw[ag]at ai eo;simp only at ai eo
   split at ai
   ·rename_i j lg
    rw[lg]at eo;simp only at eo
    split at ai
    ·rename_i o an hc
     rw[an,hc]at eo;simp only[Bool.and_eq_true,Bool.not_eq_true']at hc;simp only at eo
     split at ai
     ·rename_i xt
      rw[xt]at eo;simp only at eo
      cases TG:xq P N L.toArray S o with
      |true=>
       obtain⟨aS,aA,s1,s2,o1,o2,o3,o4,o5⟩:=zfW (G:=G) (B:=B) TG ad hf ai;exact fG.zfJ j (by simpa using an) o5 (Ak bW kX n (m.set j true) s1 s2 o3 fun st ak=>eo st (ak.sub o4 o1 o2)) kX hc.2.1 (by rw[ag];exact hc.1) hc.2.2
      |false=>
       rw[TG,Bool.false_or]at xt;obtain⟨aS,aA,s1,s2,o1,o2,o3,o4,o5⟩:=zfU (G:=G) (B:=B) ad hf ai;exact fG.zfI j (by simpa using an) o5 (Ak bW kX n (m.set j true) s1 s2 o3 fun st ak=>eo st (ak.sub o4 o1 o2)) kX hc.2.1 (by rw[ag];exact hc.1) xt
     ·exact ai.elim
    ·exact ai.elim
   ·rename_i lg
    rw[lg]at eo;simp only at eo
    split at ai
    ·rename_i o an
     rw[an]at eo;simp only at eo
     split at ai
     ·rename_i ql
      rw[ql]at eo
      have ql:=of_decide_eq_true ql
      simp only at eo;obtain⟨t1,_,t3⟩:=K2 (G:=G) (B:=B) ad hf ai
      have next: ∀t,sO G N B M (qi P N B T inl L.toArray o S) e S.k t→fG P G L Q wr n (m.set i true) t:=fun t ⟨aS,aA,aa,ae,av,aQ,bL,cT⟩=>by
       subst cT;obtain⟨dM,bh,c1,di,gQ,o7,Al,xu,Mh⟩:=t3 aS aA aa ae av aQ bL
       have:=Ak bW kX n (m.set i true) di gQ xu fun st ak=>eo st (ak.sub Mh o7 Al)
       exact fun E a w ag=>this E a w (c1 E G a w ag)
      obtain⟨ao,bV⟩:=TB (G:=G) (B:=B) (T:=T) bW ad hf t1
      cases hw:mY o with
      |true=>exact fG.zfK (by simpa using an) ag (ql.trans hw) (ao hw) next
      |false=>exact fG.one (by simpa using an) ag (ql.trans hw) (bV hw) next
     ·exact ai.elim
    ·rename_i _ rd _ _ gf
     have TH: ∀st,js G N B M (Aj ((i::rd).map fun j=>match L.toArray[j]? with
      |some o=>match decide (wr.getD j false=mY o)with
       |true=>qb N S o.dst (Ei N L.toArray S o) (qi P N B T inl L.toArray o S) (qk P N B T inl L.toArray wr n (m.set j true))
       |false=>.bad 78
      |none=>.bad 77)) e S.k .normal st→Q .normal st:=fun st ak=>eo st (by
      split
      ·rename_i cy lW;exact(gf cy rfl lW).elim
      ·exact ak)
     clear eo;obtain⟨U,wE,dZ⟩:=zf3 ai;rw[wE]at TH ai;refine fG.any (by rw[ag];simp) fun j af=>?_
     rw[ag]at af
     have xv:=dZ _ (List.mem_map.2 ⟨j,af,rfl⟩)
     split at xv
     ·rename_i o an
      split at xv
      ·rename_i ql
       have ql:=of_decide_eq_true ql
       have eW:(qb N S o.dst (Ei N L.toArray S o) (qi P N B T inl L.toArray o S) (qk P N B T inl L.toArray wr n (m.set j true))).safe M e:=by rw[xv];exact ai
       obtain⟨t1,_,t3⟩:=K2 (G:=G) (B:=B) ad hf eW;refine⟨o,by simpa using an,sO G N B M (qi P N B T inl L.toArray o S) e S.k,fun t ⟨aS,aA,aa,ae,av,aQ,bL,cT⟩=>?_,fun E a w dy=>?_⟩
       ·subst cT
        obtain⟨dM,bh,c1,di,gQ,o7,Al,xu,Mh⟩:=t3 aS aA aa ae av aQ bL
        have:=Ak bW kX n (m.set j true) di gQ xu fun st ak=>TH st (by rw[←xv];exact ak.sub Mh o7 Al)
        exact fun E a w ag=>this E a w (c1 E G a w ag)
       ·obtain⟨ao,bV⟩:=TB (G:=G) (B:=B) (T:=T) bW ad hf t1
        cases hw:mY o with
        |true=>
         obtain⟨y1,q9⟩:=ao hw E a w dy;exact .inl ⟨y1,fun K Q hK=>q9 K Q fun t aH bc w' dV=>hK t aH bc w' dV (.inl (ql.trans hw))⟩
        |false=>
         rcases bV hw E a w dy with⟨y1,q9⟩|⟨y1,q9⟩
         ·exact .inl ⟨y1,fun K Q hK=>q9 K Q fun t aH bc w' dV aj=>hK t aH bc w' dV (.inr aj)⟩
         ·exact .inr ⟨ql.trans hw,y1,q9⟩
      ·rw[←xv]at ai;exact ai.elim
     ·rw[←xv]at ai;exact ai.elim
theorem zf4(bW:fP P G M inl):LA P G N B M (Me P N B T inl):=by
 intro id ops S e ad hf ai
 have iQ:ops=ops.toList.toArray:=by simp
 rw[iQ]at ai⊢
 generalize ops.toList=L at ai⊢
 unfold Me at ai⊢
 split at ai
 ·rename_i hc
  simp only[Bool.and_eq_true]at hc;refine b2.zfM _ (Ak bW hc.2 _ _ ad hf ai fun st ak=>ak) hc.1 (by simp)
 ·exact ai.elim
def jx.all(P:Program)(T:List (Nat × bF)):jx:=⟨fun N B _=>LZ N B,fun N B inl=>Me P N B T inl⟩
theorem FT:LF P G M (jx.all P T):=fun _ bW _ _=>⟨zfE,zf4 bW⟩
end
end Go.aK
namespace Go.aK
open Go
section
variable {P:Program} {G:a8} {f:FuncId} {args:List aC} {σ:Heap} {n:Nat} {R:aC→Heap→Prop}
theorem dE.arg{q0:List aC}(h:dE P G f args σ n R)(a6:fU q0 args):dE P G f q0 σ n R:=by
 intro w β ro ea aa ae av aQ bL
 refine h w β ro ea (by rw[aa,a6.at.1]) (fun i x hx=>?_) av aQ bL
 obtain⟨y,ax,ai⟩:=a6.at.2 i x hx
 exact ai _ _ _ _ _ _ (ae i y ax)
theorem dE.res{qE:aC→Heap→Prop}(h:dE P G f args σ n R)(aJ: ∀r bU,R r bU→qE r bU):dE P G f args σ n qE:=by
 intro w β ro ea aa ae av aQ bL
 refine Calls.mono (h w β ro ea aa ae av aQ bL) fun e w' ⟨v,dF,eU,dK,ro',cH,he,cT,om⟩=>?_
 exact⟨v,dF,eU,dK,ro',cH,he,aJ _ _ cT,om⟩
theorem kS(β:Nat→Value)(b:Nat): ¬Own ([]:Heap) β b:=fun⟨_,_,ah,_⟩=>by simp[aD]at ah
theorem dE.frame(h:dE P G f args [] 0 R)(ak:e3 args=true)(fQ: ∀r bU,R r bU→fD r=true):dE P G f args σ n fun r bU=>bU=σ∧∃fE,R r fE:=by
 intro w β ro ea aa ae av aQ bL
 refine Calls.mono (h w β ro ea aa (fun i x hx=>np (ae i x hx) (mD ak hx)) ⟨by simp[aD],by simp[aD],fun b _=>kS β b,av.lt⟩ aQ (by simp[aD])) fun e w' ⟨v,r,fE,dK,ro',cH,he,ag,dy,hG,cD⟩=>?_
 have lh: ∀b,b<w.heap.size→w'.heap[b]? =w.heap[b]? :=fun b ad=>cD.frame b ad (kS β b)
 have iR:c3 ⟨w,ro,σ,β,n⟩ G ⟨[],σ,n,n⟩ ⟨#[],[]⟩ w β ro:=⟨rfl,rfl,by simp,av,aQ,⟨rfl,rfl,rfl,Nat.le_refl _,fun _ _ _=>rfl,fun _ h=>.inl h,fun _ h=>h,fun _ h=>.inl h,fun id _ o ah=>⟨by simp[ah],rfl⟩,bL,Nat.le_refl _⟩,Nat.le_refl _⟩
 have cQ:=iR.grow (w':=w') (ro':=ro') cD.os cD.tape cD.output cD.size lh cD.jR (fun b ad=>by
  rcases cD.jb b ad with q|q|q
  ·exact .inl q
  ·exact absurd q (kS β b)
  ·exact .inr ⟨q,hG.lt b ad⟩)
 exact⟨v,r,σ,β,ro',n,he,⟨rfl,fE,ag⟩,np dy (fQ r fE ag),cQ.heap,cQ.trans⟩
theorem dE.zf5{q0:List aC}(h:dE P G f args [] 0 R)(a6:fU (hY σ q0) args)(ak:e3 (hY σ q0)=true)(fQ: ∀r bU,R r bU→jF r=true):dE P G f q0 σ n fun r bU=>bU=σ∧∃fE,R r fE:=by
 have h:=h.arg a6
 intro w β ro ea aa ae av aQ bL
 have nj: ∀b,Own σ β b→b<w.heap.size:=fun b ⟨k,p,aj,ak,bf⟩=>(av.c6 k p aj).hB ak bf
 refine Calls.mono (h w β (tQ ro σ β) ea (by rw[tO];exact aa) (fun i x hx=>?_) ⟨by simp[aD],by simp[aD],fun b _=>kS β b,fun b ad=>ad.elim (av.lt b) (nj b)⟩
  (aQ.keep (fun _ _=>rfl) fun _ h=>.inl h) (by simp[aD])) fun e w' ⟨v,r,fE,dK,ro',cH,he,ag,dy,hG,cD⟩=>?_
 ·obtain⟨z,aV,rfl⟩:=tP _ hx
  exact np (Je av (ae i z aV)) (mD ak hx)
 have lh: ∀b,b<w.heap.size→w'.heap[b]? =w.heap[b]? :=fun b ad=>cD.frame b ad (kS β b)
 have iR:c3 ⟨w,ro,σ,β,n⟩ G ⟨[],σ,n,n⟩ ⟨#[],[]⟩ w β ro:=⟨rfl,rfl,by simp,av,aQ,⟨rfl,rfl,rfl,Nat.le_refl _,fun _ _ _=>rfl,fun _ h=>.inl h,fun _ h=>h,fun _ h=>.inl h,fun id _ o ah=>⟨by simp[ah],rfl⟩,bL,Nat.le_refl _⟩,Nat.le_refl _⟩
 have cQ:=iR.grow (w':=w') (ro':=ro) cD.os cD.tape cD.output cD.size lh (fun _ h=>h) (fun _ h=>.inl h)
 exact⟨v,r,σ,β,ro,n,he,⟨rfl,fE,ag⟩,Cv dy (fQ r fE ag),cQ.heap,cQ.trans⟩
end
def aF.fk(d:aF):aC:=
 match d with
 |⟨.st c,x⟩=>.agg ((b9 c x).map .au)
 |⟨r,x⟩=>.au (fF r x)
def mZ(rs:List aU)(x:(fa rs).den):List aC:=(dv rs x).map aF.fk
def kA(rs:List aU)(x:(fa rs).den):aC:=
 match mZ rs x with
 |[v]=>v
 |l=>.tuple l
structure h1 where
 f:Nat
 j:Nat
 ps:List aU
 rs:List aU
 e2:Bool
def bE(P:Program)(G:a8)(f:Nat)(m:aR):Prop:=
 ∀x:(fa m.ps).den,kz m.pre x→dE P G f (mZ m.ps x) [] 0 fun v _=>v=kA m.rs (m.m x)
def TI(P:Program)(G:a8)(M:List aR)(c:h1):Prop:=
 (eT aR.d M c.j).ps=c.ps∧(eT aR.d M c.j).rs=c.rs∧bE P G c.f (eT aR.d M c.j)∧(c.e2=true→(eT aR.d M c.j).pre=none)
def qD(P:Program)(G:a8)(M:List aR)(C:List h1):Prop:=∀c∈C,TI P G M c
def Am(f:Nat):List h1→Option h1
 |[]=>none
 |c::r=>match Nat.beq c.f f with
  |true=>some c
  |false=>Am f r
def An(r:aU)(i:Nat):ab:=
 match r with
 | .st c=>.ch (iI c i 0 (eM c))
 |r=>.aT r i
def hr:Nat→List aU→List ab
 |_,[]=>[]
 |i,r::rs=>An r i::hr (i+1) rs
def nL(rs:List aU)(p:Nat):Nat→List aU→List bJ
 |_,[]=>[]
 |i,_::r=>.q4 rs p i::nL rs p (i+1) r
def aU.iq:aU→Bool
 | .st _=>true
 |r=>r.one
def aU.sP:aU→Bool
 | .int _=>true
 | .bool=>true
 | .str=>true
 | .st c=>(eM c).all aU.cmp
 |_=>false
def Mi(S:aq)(r:aU)(a:ab):Option ab:=
 match r,a with
 | .st c,.ch l=>match hk (eM c) l with
  |true=>some a
  |false=>none
 | .li c,.aM id=>match da S.h id with
  |some (.rw _ d x)=>match decide (c=d)&&x.er (.li c)with
   |true=>some x
   |false=>none
  |_=>none
 | .mp k v,.gR id=>match da S.h id with
  |some (.it (.mp bk bg) _ x)=>match(hJ bk k&&hJ bg v)&&x.er (.mp k v)with
   |true=>some x
   |false=>none
  |_=>none
 |r,a=>match r.one&&a.er r with
  |true=>some a
  |false=>none
def ry(S:aq):List aU→List ab→Option (List ab)
 |[],[]=>some []
 |r::rs,a::aG=>match Mi S r a,ry S rs aG with
  |some x,some l=>some (x::l)
  |_,_=>none
 |_,_=>none
def sQ:List ab→Bool
 |[]=>true
 | .aM _::_=>false
 | .gR _::_=>false
 |_::r=>sQ r
def iw(c:h1)(aG:List ab)(k:Nat):List bJ:=
 match c.rs with
 |[_]=>[.ca c.j aG]
 |rs=>.ca c.j aG::nL rs k 0 rs
def xw(c:h1)(k:Nat):ab:=
 match c.rs with
 |[r]=>An r k
 |rs=>.tp (hr (k+1) rs)
def El(S:aq)(xs:List bJ)(v:ab):aq:={S with l:=ba.put .emp 0 v,k:=S.k+xs.length}
def Em(c:h1)(xs:List ab):List fc:=
 match c.e2 with
 |true=>[]
 |false=>[.ca c.j xs]
def Mj(C:List h1)(inl:Nat→List ab→aq→aB)(f:Nat)(aG:List ab)(S:aq):aB:=
 match Am f C with
 |none=>inl f aG S
 |some c=>match ry S c.ps aG with
  |none=>inl f aG S
  |some xs=>match c.rs.all aU.iq&&(sQ aG||c.rs.all aU.sP)&&(ab.cI S.k xs&&ab.rk S.n (xw c S.k))with
   |true=>emit S.k (iw c xs S.k) (Em c xs) (.cG .cj (El S (iw c xs S.k) (xw c S.k)))
   |false=>inl f aG S
theorem xx: ∀{rs:List aU} {ds:List aF},ds.map aF.r=rs→dv rs (b8 rs ds)=ds
 |[],[],_=>rfl
 |[],_::_,h=>by cases h
 |[r],ds,h=>by
  obtain⟨d,oJ,rfl,aa,ae⟩:=ln h
  cases l5 ae
  subst aa;show[⟨d.r,d.aG d.r⟩]=[d];rw[y9]
 |r::s::l,ds,h=>by
  obtain⟨d,oJ,rfl,aa,ae⟩:=ln h;subst aa;show(⟨d.r,d.aG d.r⟩:aF)::dv (s::l) (b8 (s::l) oJ)=d::oJ;rw[y9,xx ae]
theorem sR: ∀{rs:List aU} {x:(fa rs).den},(dv rs x).map aF.r=rs
 |[],_=>rfl
 |[_],_=>rfl
 |r::s::l,x=>by
  show r::(dv (s::l) x.2).map aF.r=_;rw[sR]
section
variable {G:a8} {e:Env} {S:aq}
theorem TJ{r:aU}{x:r.den}(h: ∀c,r≠ .st c):(⟨r,x⟩:aF).fk= .au (fF r x):=by
 cases r with
 |st c=>exact absurd rfl (h c)
 |_=>rfl
theorem TK{r:aU}(h:r.one=true): ∀c,r≠ .st c:=fun c hc=>by subst hc;cases h
theorem TL{r:aU}{a:ab}(h:a.er r=true): ∃y,a.den G e= .au y:=by
 unfold ab.er at h
 split at h<;>first|exact⟨_,rfl⟩|cases h
theorem TM: ∀{rs:List aU} {l:List ab},hk rs l=true→∃ys:List a1,ab.bO G e l=ys.map .au
 |[],[],_=>⟨[],rfl⟩
 |[],_::_,h=>by cases h
 |_::_,[],h=>by cases h
 |r::rs,x::xs,h=>by
  simp only[hk,Bool.and_eq_true]at h;obtain⟨y,ax⟩:=TL (G:=G) (e:=e) h.1;obtain⟨ys,lX⟩:=TM (rs:=rs) h.2;exact⟨y::ys,by simp only[ab.bO,ax,lX,List.map_cons]⟩
theorem TN{σ:Heap}: ∀{ys:List a1},hY σ (ys.map .au)=ys.map .au
 |[]=>rfl
 |y::ys=>by simp only[List.map_cons,hY,jE,TN]
theorem zf6{r:aU}{a x:ab}(h:Mi S r a=some x):
 Sub (jE (cw G e S.h) (a.den G e)) (aF.fk ⟨r,x.get e r⟩)∧fD (jE (cw G e S.h) (a.den G e))=true∧((∀id,a≠ .aM id∧a≠ .gR id)→jE (cw G e S.h) (a.den G e)=a.den G e):=by
 unfold Mi at h
 split at h
 ·rename_i c l
  split at h
  ·rename_i ar
   cases h;obtain⟨ys,ax⟩:=TM (G:=G) (e:=e) ar
   have ai:=zi (G:=G) (e:=e) ar
   have hd:jE (cw G e S.h) ((ab.ch l).den G e)=(ab.ch l).den G e:=by simp only[ab.den,jE,ax,TN]
   rw[hd];refine⟨?_,by simp only[ab.den,ax,fD,Ce],fun _=>rfl⟩
   simp only[ab.den];exact ai.agg
  ·cases h
 ·rename_i c id
  split at h
  ·rename_i t d y ah
   split at h
   ·rename_i hc
    cases h;simp only[Bool.and_eq_true,decide_eq_true_eq]at hc;obtain⟨rfl,hx⟩:=hc
    have bd:aD (cw G e S.h) id=some (.row false t (bZ c) (List.map (b9 c) (x.az e (.li c)))):=by rw[ef,ah];rfl
    have hd:jE (cw G e S.h) ((ab.aM id).den G e)= .au (.aM (bZ c) (List.map (b9 c) (x.az e (.li c)))):=by simp only[ab.den,jE,bd]
    rw[hd];exact⟨lq.fk fun _ _ _ h=>.li _ _ _ h,rfl,fun h=>absurd rfl (h id).1⟩
   ·cases h
  ·cases h
 ·rename_i k v id
  split at h
  ·rename_i bk bg dq y ah
   split at h
   ·rename_i hc
    cases h;simp only[Bool.and_eq_true]at hc
    cases hj hc.1.1
    cases hj hc.1.2
    have bd:aD (cw G e S.h) id=some (.bK (jG v.agg (gh (kU k) (il v) (x.az e (.mp k v))))):=by rw[ef,ah];rfl
    have hd:jE (cw G e S.h) ((ab.gR id).den G e)= .au (wh v.agg (gh (kU k) (il v) (x.az e (.mp k v)))):=by simp only[ab.den,jE,bd]<;>rfl
    rw[hd];refine⟨?_,rfl,fun h=>absurd rfl (h id).2⟩
    show Sub _ (.au (fF (.mp k v) (x.az e (.mp k v))));rw[RF];exact Sub.refl _
   ·cases h
  ·cases h
 ·split at h
  ·rename_i hc
   cases h;simp only[Bool.and_eq_true]at hc;obtain⟨y,ax⟩:=TL (G:=G) (e:=e) hc.2
   have hd:jE (cw G e S.h) (a.den G e)=a.den G e:=by rw[ax];rfl
   rw[hd];refine⟨?_,by rw[ax];rfl,fun _=>rfl⟩
   rw[TJ (TK hc.1),Db hc.1];exact ud hc.2
  ·cases h
theorem xy: ∀{rs:List aU} {aG xs:List ab},ry S rs aG=some xs→
 fU (hY (cw G e S.h) (ab.bO G e aG)) ((gA e rs xs).map aF.fk)∧e3 (hY (cw G e S.h) (ab.bO G e aG))=true∧(sQ aG=true→hY (cw G e S.h) (ab.bO G e aG)=ab.bO G e aG)∧(gA e rs xs).map aF.r=rs
 |[],[],_,h=>by cases h;exact⟨.nil,rfl,fun _=>rfl,rfl⟩
 |[],_::_,_,h=>by cases h
 |_::_,[],_,h=>by cases h
 |r::rs,a::aG,xs,h=>by
  simp only[ry]at h
  split at h
  ·rename_i x l aa ae
   cases h;obtain⟨cb,a2,a3⟩:=zf6 (G:=G) (e:=e) aa;obtain⟨gP,jf,hL,sB⟩:=xy ae;refine⟨.cons cb gP,by simp only[ab.bO,hY,e3,a2,jf,Bool.and_self],fun hn=>?_,by simp only[gA,List.map_cons,sB]⟩
   have:(∀id,a≠ .aM id∧a≠ .gR id)∧sQ aG=true:=by
    cases a<;>first|(cases hn;done)|exact⟨fun id=>⟨fun bb=>(by cases bb),fun bb=>(by cases bb)⟩,hn⟩
   simp only[ab.bO,hY,a3 this.1,hL this.2]
  ·cases h
end
section
variable {G:a8} {e:Env}
theorem zf7(d:aF):fD d.fk=true:=by
 unfold aF.fk
 split
 ·simp only[fD,Ce]
 ·rfl
theorem En: ∀l:List aF,e3 (l.map aF.fk)=true
 |[]=>rfl
 |d::l=>by simp only[List.map_cons,e3,zf7,En l,Bool.and_self]
theorem Mk{rs:List aU}{x:(fa rs).den}:fD (kA rs x)=true:=by
 have h:=En (dv rs x)
 unfold kA mZ
 split
 ·rename_i v aw
  rw[aw]at h;simpa[e3]using h
 ·exact h
theorem TO: ∀{ds:List aF},(∀d∈ds,d.r.sP=true∧∀c,d.r≠ .st c)→mI (ds.map fun d=>.au d.au)=true
 |[],_=>rfl
 |d::ds,h=>by
  have aa:=h d (List.mem_cons_self ..)
  have ae:=TO (ds:=ds) fun x hx=>h x (List.mem_cons_of_mem _ hx)
  obtain⟨r,x⟩:=d
  cases r<;>first|(exact absurd rfl (aa.2 _))|(cases aa.1;done)|exact ae
theorem TP{d:aF}(h:d.r.sP=true):jF d.fk=true:=by
 obtain⟨r,x⟩:=d
 cases r with
 |st c=>
  show jF (.agg ((b9 c x).map .au))=true
  have hc:b9 c x=(ll c x).map aF.au:=by unfold b9;rfl
  rw[hc,List.map_map];simp only[jF];refine TO fun d hd=>?_
  have ag:d.r∈eM c:=by
   have:=Jj c x
   rw[←this];exact List.mem_map_of_mem hd
  have a6:d.r.cmp=true:=List.all_eq_true.1 (show(eM c).all _=true from h) d.r ag
  cases hd:d.r<;>rw[hd]at a6<;>first|(cases a6;done)|exact⟨rfl,fun c hc=>by cases hc⟩
 |_=>first|rfl|cases h
theorem Ml: ∀{l:List aF},(∀d∈l,d.r.sP=true)→mI (l.map aF.fk)=true
 |[],_=>rfl
 |d::l,h=>by
  simp only[List.map_cons,mI,TP (h d (List.mem_cons_self ..)),Ml (l:=l) fun x hx=>h x (List.mem_cons_of_mem _ hx),Bool.and_self]
theorem zf8{rs:List aU}{x:(fa rs).den}(h:rs.all aU.sP=true):jF (kA rs x)=true:=by
 have h:=Ml (l:=dv rs x) fun d hd=>by
  have ag:d.r∈rs:=by
   have:=sR (rs:=rs) (x:=x)
   rw[←this];exact List.mem_map_of_mem hd
  exact List.all_eq_true.1 h d.r ag
 unfold kA mZ
 split
 ·rename_i v aw
  rw[aw]at h;simpa[mI]using h
 ·exact h
end
section
variable {P:Program} {G:a8} {M:List aR} {C:List h1} {inl:Nat→List ab→aq→aB}
theorem TQ{f:Nat}{c:h1}: ∀{C:List h1},Am f C=some c→c∈C∧c.f=f
 |[],h=>by cases h
 |d::r,h=>by
  unfold Am at h
  split at h
  ·rename_i hd;cases h;exact⟨List.mem_cons_self ..,Nat.eq_of_beq_eq_true hd⟩
  ·obtain⟨aa,ae⟩:=TQ h;exact⟨List.mem_cons_of_mem _ aa,ae⟩
theorem Mm(rs:List aU)(p:Nat): ∀(l:List aU) (i j:Nat),(nL rs p i l)[j]? =if j<l.length then some (.q4 rs p (i+j))else none
 |[],i,j=>by simp[nL]
 |_::l,i,0=>by simp[nL]
 |_::l,i,j+1=>by
  simp only[nL,List.getElem?_cons_succ,Mm rs p l (i+1) j,List.length_cons,Nat.add_lt_add_iff_right]
  have:i+1+j=i+(j+1):=by omega
  rw[this]
theorem TR(rs:List aU)(p:Nat): ∀(l:List aU) (i k:Nat),p<k→ho k (nL rs p i l)=true
 |[],_,_,_=>rfl
 |_::l,i,k,h=>by
  simp only[nL,ho,bJ.lt,jI h,Bool.true_and];exact TR rs p l (i+1) (k+1) (by omega)
theorem Eo{c:h1}{xs:List ab}{k:Nat}(h:ab.cI k xs=true):ho k (iw c xs k)=true:=by
 unfold iw
 split
 ·simp only[ho,bJ.lt,h,Bool.and_self]
 ·simp only[ho,bJ.lt,h,Bool.true_and]
  exact TR _ _ _ _ _ (Nat.lt_succ_self k)
theorem Mn(rs:List aU)(p:Nat): ∀(l:List aU) (i:Nat),(nL rs p i l).length=l.length
 |[],_=>rfl
 |_::l,i=>by simp[nL,Mn rs p l (i+1)]
theorem Mo{e:Env}{r:aU}{i:Nat}{x:r.den}(h:Env.at e i=⟨r,x⟩):(An r i).den G e=aF.fk ⟨r,x⟩:=by
 have a6:(Env.at e i).aG r=x:=by rw[h,cz]
 cases r with
 |st c=>
  show aC.agg (ab.bO G e (iI c i 0 (eM c)))= .agg ((b9 c x).map .au);rw[sk,a6]
 |_=>show aC.au (fF _ ((Env.at e i).aG _))= .au (fF _ x);rw[a6]
theorem Ao{e:Env}: ∀{rs:List aU} {i:Nat} {ds:List aF},ds.map aF.r=rs→(∀j d,ds[j]? =some d→Env.at e (i+j)=d)→ab.bO G e (hr i rs)=ds.map aF.fk
 |[],i,ds,h,_=>by cases l5 h;rfl
 |r::rs,i,ds,h,hd=>by
  obtain⟨d,oJ,rfl,aa,ae⟩:=ln h;subst aa
  have aP:=hd 0 d rfl
  simp only[hr,ab.bO,List.map_cons,List.cons.injEq];refine⟨Mo (x:=d.v) aP,Ao ae fun j zf9 af=>?_⟩
  have:=hd (j+1) zf9 (by simpa using af)
  rw[←this];congr 1;omega
theorem Ep{c:bF}{i k:Nat}(h:i<k): ∀{rs:List aU} {j:Nat},ab.cI k (iI c i j rs)=true
 |[],_=>rfl
 |r::rs,j=>by simp only[iI,ab.cI,ab.lt,jI h,Ep h (rs:=rs),Bool.and_self]
theorem Mp{r:aU}{i k:Nat}(h:i<k):(An r i).lt k=true:=by
 cases r with
 |st c=>exact Ep h
 |_=>exact jI h
theorem Ap: ∀{rs:List aU} {i k:Nat},i+rs.length≤k→ab.cI k (hr i rs)=true
 |[],_,_,_=>rfl
 |r::rs,i,k,h=>by
  simp only[List.length_cons]at h;simp only[hr,ab.cI,Mp (r:=r) (show i<k by omega),Ap (rs:=rs) (show i+1+rs.length≤k by omega),Bool.and_self]
theorem Mq{α:Type}{d:α}: ∀{l:List α} {i:Nat} {x:α},l[i]? =some x→eT d l i=x
 |[],_,_,h=>by cases h
 |y::l,0,x,h=>by simpa[eT]using h
 |y::l,i+1,x,h=>by
  simp only[eT];exact Mq (by simpa using h)
theorem zga{c:h1}{xs:List ab}{k:Nat}{e:Env}{y:(fa c.rs).den}(ar:ab.cI k xs=true)(aP:Env.at (dh M e k (iw c xs k)) k=⟨fa c.rs,y⟩):
 (xw c k).den G (dh M e k (iw c xs k))=kA c.rs y:=by
 have eH:=jq (M:=M) (e:=e) (Eo (c:=c) ar)
 obtain⟨f,Er,ps,rs,e2⟩:=c
 show(xw ⟨f,Er,ps,rs,e2⟩ k).den G _=kA rs y
 match rs,y,aP,eH with
 |[],y,aP,eH=>rfl
 |[r],y,aP,eH=>exact Mo aP
 |r::s::l,y,aP,eH=>
  have mF:(dv (r::s::l) y).map aF.r=r::s::l:=sR
  have qN:kA (r::s::l) y= .tuple ((dv (r::s::l) y).map aF.fk):=by
   unfold kA mZ
   split
   ·rename_i v aw
    have:=congrArg List.length mF
    have ae:=congrArg List.length aw
    simp only[List.length_map,List.length_cons]at this ae;simp only[List.length_nil]at ae;omega
   ·rfl
  rw[qN];show aC.tuple (ab.bO G _ (hr (k+1) (r::s::l)))=_
  congr 1
  refine Ao mF fun j d af=>?_
  have hlen:j<(r::s::l).length:=by
   have aa:=(List.getElem?_eq_some_iff.1 af).1
   have:=congrArg List.length mF
   rw[List.length_map]at this;omega
  have aa:=eH (j+1) (.q4 (r::s::l) k j) (by
   show(bJ.ca Er xs::nL (r::s::l) k 0 (r::s::l))[j+1]? =_
   rw[List.getElem?_cons_succ,Mm,if_pos hlen,Nat.zero_add])
  rw[show k+1+j=k+(j+1)by omega,aa]
  simp only[bJ.den,aP,cz];exact Mq af
theorem zgb(ml:qD P G M C)(bW:fP P G M inl):fP P G M (Mj C inl):=fun f aG S e ad ar hf ai=>by
 unfold Mj at ai⊢
 cases hc:Am f C with
 |none=>simp only[hc]at ai⊢;exact bW f aG S e ad ar hf ai
 |some c=>
  simp only[hc]at ai⊢
  cases hx:ry S c.ps aG with
  |none=>simp only[hx]at ai⊢;exact bW f aG S e ad ar hf ai
  |some xs=>
   simp only[hx]at ai⊢
   split at ai
   rotate_left
   ·exact bW f aG S e ad ar hf ai
   rename_i aj;simp only[Bool.and_eq_true]at aj;obtain⟨⟨nM,mh⟩,Aq,Dh⟩:=aj;obtain⟨hm,Ar⟩:=TQ hc;obtain⟨g1,g2,g3,g4⟩:=ml c hm;obtain⟨hn,_⟩:=me ai
   have uS:=Eo (c:=c) Aq
   have bS:bX S.k e (dh M e S.k (iw c xs S.k)):=jJ (Nat.le_refl _)
   have b7:c.e2=false→fc.ok M (dh M e S.k (iw c xs S.k)) (.ca c.j xs):=fun je=>hn _ (by unfold Em;rw[je];exact List.mem_singleton.2 rfl)
   obtain⟨cb,a2,a3,a4⟩:=xy (G:=G) (e:=e) hx
   have eH:=jq (M:=M) (e:=e) uS 0 (.ca c.j xs) (by unfold iw;split<;>rfl)
   obtain⟨TS,pa,ziy,ziz,TT⟩:=c;simp only at g1 g2 g3 g4 Ar nM mh Aq Dh uS bS b7 cb a2 a3 a4 eH hx;subst g1 g2 Ar;simp only[Nat.add_zero,bJ.den]at eH;simp only[fc.ok]at b7;rw[wG bS Aq]at eH
   have hb:=g3 (b8 _ (gA e (eT aR.d M pa).ps xs)) (by
    cases TT with
    |true=>rw[g4 rfl];trivial
    |false=>
     have:=b7 rfl
     rw[wG bS Aq]at this
     exact this)
   have uO:mZ (eT aR.d M pa).ps (b8 (eT aR.d M pa).ps (gA e (eT aR.d M pa).ps xs))=(gA e (eT aR.d M pa).ps xs).map aF.fk:=by
    unfold mZ;rw[xx a4]
   rw[uO]at hb
   have aw:=zga (G:=G) (c:=⟨TS,pa,(eT aR.d M pa).ps,(eT aR.d M pa).rs,TT⟩) Aq eH
   have lA:dE P G TS (ab.bO G e aG) (cw G e S.h) S.n fun r bU=>bU=cw G e S.h∧∃_:Heap,r=kA (eT aR.d M pa).rs ((eT aR.d M pa).m (b8 _ (gA e (eT aR.d M pa).ps xs))):=by
    cases zB:sQ aG with
    |true=>
     rw[a3 zB]at cb a2;exact((hb.arg cb).frame a2 fun r bU ag=>by rw[ag];exact Mk).res fun r bU ⟨aa,fE,ae⟩=>⟨aa,fE,ae⟩
    |false=>
     rw[zB,Bool.false_or]at mh;exact(hb.zf5 cb a2 fun r bU ag=>by rw[ag];exact zf8 mh).res fun r bU ⟨aa,fE,ae⟩=>⟨aa,fE,ae⟩
   refine lA.res fun r bU ⟨aa,_,ae⟩=>⟨_,_,by rw[ly];rfl,?_,?_,?_,?_,bS,Nat.le_add_right _ _⟩
   ·rw[ae,←aw]
    show _=ab.den G _ (aq.at (El S _ _) 0);unfold El aq.at
    simp only[ba.hR,if_true]
   ·rw[aa];exact(wF bS ad.h).symm
   ·refine⟨fun i x hi=>?_,ss (Nat.le_add_right _ _) ad.h,nD (Nat.le_add_right _ _) ad.g⟩
    simp only[El,ba.hR]at hi
    split at hi
    ·cases hi
     show(xw _ S.k).lt (S.k+_)=true;unfold xw iw
     split
     ·exact Mp (Nat.lt_succ_self _)
     ·simp only[ab.lt]
      refine Ap ?_
      simp only[List.length_cons,Mn];omega
    ·simp[ba.get]at hi
   ·exact h8 bS ad.g hf
end
end Go.aK
namespace Go.aK
open Go
section
variable {P:Program} {G:a8} {f:FuncId} {args:List aC} {R:aC→Heap→Prop}
theorem dE.ret(eP:Prop→aC→Prop)(h:dE P G f args [] 0 R){Q:aC→Prop}(fQ: ∀r bU,R r bU→∃v,Sub (jE bU r) v∧fD v=true∧Q v):dE P G f args [] 0 fun v _=>Q v:=by
 intro w β ro ea aa ae av aQ bL
 refine Calls.mono (h w β ro ea aa ae av aQ bL) fun e w' ⟨v,r,bU,dK,ro',cH,he,ag,dy,hG,cD⟩=>?_
 obtain⟨u,hu,ak,aJ⟩:=fQ r bU ag
 have nj: ∀b,Own bU dK b→b<w'.heap.size:=fun b ⟨k,p,aj,ak,bf⟩=>(hG.c6 k p aj).hB ak bf
 refine⟨v,u,[],dK,tQ ro' bU dK,cH,he,aJ,np (hu _ _ _ _ _ _ (Je hG dy)) ak,⟨by simp[aD],by simp[aD],fun b _=>kS dK b,fun b ad=>ad.elim (hG.lt b) (nj b)⟩,
  ⟨cD.os,cD.tape,cD.output,cD.size,cD.frame,fun b ad=>?_,fun b ad=>.inl (cD.jR b ad),fun b ad=>absurd ad (kS dK b),by simp[aD],by simp[aD],cD.le⟩⟩
 rcases ad with ad|ad
 ·exact cD.jb b ad
 ·exact .inr (cD.gY b ad)
end
def gw:Nat→List aF→Env
 |_,[]=>.emp
 |i,d::ds=>ba.put (gw (i+1) ds) i d
theorem Mr: ∀{ds:List aF} {i j:Nat} {d:aF},ds[j]? =some d→Env.at (gw i ds) (i+j)=d
 |[],_,_,_,h=>by cases h
 |x::ds,i,0,d,h=>by
  have h:x=d:=by simpa using h
  simp only[gw,Env.h7,Nat.add_zero,if_true,h]
 |x::ds,i,j+1,d,h=>by
  have:=Mr (i:=i+1) (show ds[j]? =some d by simpa using h)
  simp only[gw,Env.h7];rw[if_neg (by omega),←this]
  congr 1
  omega
def uT(rs:List aU)(v:ab):List ab:=
 match rs,v with
 |[_],v=>[v]
 |_,.tp l=>l
 |_,x=>[x]
def Ms(rs:List aU)(v:ab):Bool:=
 match rs,v with
 |[_],_=>true
 |_,.tp _=>true
 |_,_=>false
def Es(rs:List aU)(C:aq):Option (List ab):=
 match Ms rs (C.at 0)with
 |true=>ry C rs (uT rs (C.at 0))
 |false=>none
def tx(rs:List aU)(C:aq):Bool:=(Es rs C).isSome
def Mt(rs:List aU)(C:aq)(e:Env):(fa rs).den:=
 match Es rs C with
 |some l=>b8 rs (gA e rs l)
 |none=>(fa rs).fv
def Mu(M:List aR)(t:aB)(rs:List aU)(e:Env):(fa rs).den:=t.fold M e (fun _ C ay=>Mt rs C ay) (fa rs).fv
def pI(n:Nat):aq:=⟨.emp,[],0,n,[]⟩
section
variable {P:Program} {G:a8} {M:List aR} {C:List h1} {inl:Nat→List ab→aq→aB}
theorem zgc{rs:List aU}{S:aq}{e:Env}{l:List ab}(h:Es rs S=some l):Sub (jE (cw G e S.h) ((S.at 0).den G e)) (kA rs (b8 rs (gA e rs l))):=by
 unfold Es at h
 split at h
 rotate_left
 ·cases h
 rename_i aH
 obtain⟨cb,_,_,a4⟩:=xy (G:=G) (e:=e) h
 have uO:mZ rs (b8 rs (gA e rs l))=(gA e rs l).map aF.fk:=by unfold mZ;rw[xx a4]
 unfold kA
 rw[uO]
 match rs,cb,a4,aH with
 |[r],cb,a4,aH=>
  obtain⟨d,oJ,aw,aa,ae⟩:=ln a4
  cases l5 ae
  rw[aw]at cb⊢;simp only[uT,ab.bO,hY,List.map_cons,List.map_nil]at cb⊢
  cases cb with
  |cons h _=>exact h
 |[],cb,a4,aH=>
  cases aw:S.at 0 with
  |tp m=>
   rw[aw]at cb;rw[l5 a4];rw[l5 a4]at cb;exact cb.tuple
  |_=>rw[aw]at aH;cases aH
 |r::s::q,cb,a4,aH=>
  cases aw:S.at 0 with
  |tp m=>
   rw[aw]at cb
   have ar:=congrArg List.length a4
   simp only[List.length_map,List.length_cons]at ar;generalize gA e (r::s::q) l=ds at cb ar⊢
   match ds,ar with
   |d::d2::ds,_=>exact cb.tuple
  |_=>rw[aw]at aH;cases aH
theorem TU{t:aB}{p:aq→Bool}(h:t.gv.all p=true){e ay:Env}{S:aq}(ag:run M t e=some (.cj,S,ay)):p S=true:=List.all_eq_true.1 h S (mV ag)
theorem Mv(bW:fP P G M inl){f:Nat}{m:aR}(t:aB)(aH:inl f (hr 0 m.ps) (pI m.ps.length)=t)(he:t.gv.all (tx m.rs)=true)
 (ai: ∀x,kz m.pre x→t.safe M (gw 0 (dv m.ps x)))(hm: ∀x,kz m.pre x→Mu M t m.rs (gw 0 (dv m.ps x))=m.m x):bE P G f m:=fun x hx=>by
 subst aH
 have ar:m.ps.length=(dv m.ps x).length:=by have:=congrArg List.length (sR (rs:=m.ps) (x:=x));rw[List.length_map]at this;exact this.symm
 have h:=bW f (hr 0 m.ps) (pI m.ps.length) (gw 0 (dv m.ps x)) ⟨fun i x hi=>by simp[pI,ba.get]at hi,rfl,rfl⟩ (Ap (by show 0+_≤m.ps.length;omega)) (fun c hc=>by cases hc) (ai x hx)
 have hd:ab.bO G (gw 0 (dv m.ps x)) (hr 0 m.ps)=mZ m.ps x:=Ao sR fun j d af=>Mr af
 rw[hd]at h
 refine(dE.ret (fun _ _=>True) h (Q:=fun v=>v=kA m.rs (m.m x)) fun r bU ag=>?_)
 obtain⟨aS,ay,cn,rfl,rfl,_⟩:=ag
 have nH:=TU he cn
 obtain⟨l,lZ⟩:=Option.isSome_iff_exists.1 nH
 refine⟨_,zgc lZ,Mk,?_⟩
 have:=hm x hx
 unfold Mu at this
 rw[j4 cn]at this
 unfold Mt at this
 rw[lZ]at this
 rw[←this]
theorem zgd(bW:fP P G M inl){f:Nat}{m:aR}(t:aB)(aH:inl f (hr 0 m.ps) (pI m.ps.length)=t)(he:(t.clean&&t.gv.all (tx m.rs))=true)
 (hm: ∀x,Mu M t m.rs (gw 0 (dv m.ps x))=m.m x):bE P G f m:=by
 simp only[Bool.and_eq_true]at he
 exact Mv bW t aH he.2 (fun _ _=>q8 M he.1) fun x _=>hm x
theorem qD.nil:qD P G M []:=fun _ h=>by cases h
theorem qD.cons{c:h1}(h:TI P G M c)(ml:qD P G M C):qD P G M (c::C):=fun d hd=>by
 rcases List.mem_cons.1 hd with rfl|hd
 ·exact h
 ·exact ml d hd
end
end Go.aK
namespace Go.aK
open Go
def aB.j9(M:List aR):aB→{X:Type}→Env→(b0→aq→Env→X)→X→X
 | .cG x S,_,e,K,_=>K x S e
 | .lt i x t,_,e,K,d=>t.j9 M (ba.put e i (x.den M e)) K d
 | .eD _ t,_,e,K,d=>t.j9 M e K d
 | .it g a b,_,e,K,d=>bif g.az e .bool then a.j9 M e K d else b.j9 M e K d
 | .dz n a ps k,_,e,K,d=>a.j9 M e (fun x S ay=>bif x.bT n then k.j9 M (fR e (fun r p=>⟨r,(p.dg S).get ay r⟩) ps) K d else K x S ay) d
 | .ei m xid dn b1 ca a k,X,e,K,d=>Sum.elim (fun r=>r) (fun v=>k.j9 M (bl e ca v) K d)
  (bo (fun i (v:bY ca)=>(a.j9 M (bl (ba.put e b1 ⟨.int .i64,(i:Int)⟩) ca v) (ee m xid ca K) (.cK v):Step X (bY ca))) 0 (ck (dn.den M e)).toNat (b8 _ (dC e ca)))
 | .eY m xid ca a k,X,e,K,d=>Sum.elim (fun r=>r) (fun v=>k.j9 M (bl e ca v) K d)
  (c5 (fun v=>(a.j9 M (bl e ca v) (ee m xid ca K) (.cK v):Step X (bY ca))) dT (b8 _ (dC e ca)))
 | .bad _,_,_,_,d=>d
section
variable {M:List aR}
theorem mi: ∀(t:aB) {X:Type} (e:Env) (K:b0→aq→Env→X) (d:X),t.j9 M e K d=t.fold M e K d
 | .cG _ _,_,_,_,_=>rfl
 | .lt i x t,_,e,K,d=>mi t _ K d
 | .eD _ t,_,e,K,d=>mi t _ K d
 | .it g a b,_,e,K,d=>by simp only[aB.j9,aB.fold,mi a,mi b]
 | .dz n a ps k,X,e,K,d=>by
  show a.j9 M e (fun x S ay=>bif x.bT n then k.j9 M (fR e (fun r p=>⟨r,(p.dg S).get ay r⟩) ps) K d else K x S ay) d=(aB.dz n a ps k).fold M e K d
  rw[mi a]
  cases ag:run M a e with
  |none=>rw[zm ag,so ag]
  |some l=>
   obtain⟨x,S,ay⟩:=l;rw[j4 ag]
   cases hx:x.bT n with
   |true=>rw[cond_true,p4 ag hx,mi k]
   |false=>rw[cond_false,mP ag hx]
 | .ei m xid dn b1 ca a k,X,e,K,d=>by
  rw[wD];simp only[aB.j9,mi a,mi k]
 | .eY m xid ca a k,X,e,K,d=>by
  simp only[aB.j9,aB.fold,mi a,mi k]
 | .bad _,_,_,_,_=>rfl
def aB.wp(M:List aR):aB→Env→(b0→aq→Env→Prop)→Prop
 | .cG x S,e,Q=>Q x S e
 | .lt i x t,e,Q=>t.wp M (ba.put e i (x.den M e)) Q
 | .eD n t,e,Q=>n.ok M e∧t.wp M e Q
 | .it g a b,e,Q=>(g.az e .bool=true→a.wp M e Q)∧(g.az e .bool=false→b.wp M e Q)
 | .dz n a ps k,e,Q=>a.wp M e fun x S ay=>bif x.bT n then k.wp M (fR e (fun r p=>⟨r,(p.dg S).get ay r⟩) ps) Q else Q x S ay
 | .ei m xid dn b1 ca a k,e,Q=>∃I:Nat→bY ca→Prop,I 0 (b8 _ (dC e ca))∧(∀(i:Nat) (v:bY ca),i<(ck (dn.den M e)).toNat→I i v→
  a.wp M (bl (ba.put e b1 ⟨.int .i64,(i:Int)⟩) ca v) fun x S ay=>bif x.bT m then I (i+1) (b8 _ (fw S ay ca))else bif x.cX xid then k.wp M (bl e ca (b8 _ (fw S ay ca))) Q else Q x S ay)∧
  ∀v,I (ck (dn.den M e)).toNat v→k.wp M (bl e ca v) Q
 | .eY m xid ca a k,e,Q=>∃(I:bY ca→Prop) (jt:bY ca→Nat),I (b8 _ (dC e ca))∧jt (b8 _ (dC e ca))<dT∧∀(v:bY ca),I v→
  a.wp M (bl e ca v) fun x S ay=>bif x.bT m then I (b8 _ (fw S ay ca))∧jt (b8 _ (fw S ay ca))<jt v else bif x.cX xid then k.wp M (bl e ca (b8 _ (fw S ay ca))) Q else Q x S ay
 | .bad _,_,_=>False
theorem TV{R A:Type}{b:Nat→A→Step R A}(I:Nat→A→Prop)(uU:R→Prop)(sS:A→Prop)(n:Nat)(h: ∀i v,i<n→I i v→(∀r,b i v= .ret r→uU r)∧(∀bg,b i v= .cK bg→sS bg)∧∀bg,b i v= .bq bg→I (i+1) bg)
 (he: ∀v,I n v→sS v): ∀(m k:Nat) (a:A),k+m=n→I k a→(∀r,bo b k m a= .inl r→uU r)∧∀v,bo b k m a= .inr v→sS v
 |0,k,a,hn,hi=>by
  have:k=n:=by omega
  subst this;exact⟨fun r ag=>(by cases ag),fun v aw=>(by cases aw;exact he a hi)⟩
 |m+1,k,a,hn,hi=>by
  obtain⟨aa,ae,av⟩:=h k a (by omega) hi
  simp only[bo]
  cases ad:b k a with
  |ret r=>exact⟨fun eP ag=>(by cases ag;exact aa r ad),fun v aw=>(by cases aw)⟩
  |cK v=>exact⟨fun eP ag=>(by cases ag),fun bg aw=>(by cases aw;exact ae v ad)⟩
  |bq v=>exact TV I uU sS n h he m (k+1) v (by omega) (av v ad)
theorem TW{R A:Type}{b:A→Step R A}(I:A→Prop)(jt:A→Nat)(uU:R→Prop)(sS:A→Prop)(h: ∀v,I v→(∀r,b v= .ret r→uU r)∧(∀bg,b v= .cK bg→sS bg)∧∀bg,b v= .bq bg→I bg∧jt bg<jt v):
 ∀(m:Nat) (a:A),jt a<m→I a→j0 b m a∧(∀r,c5 b m a= .inl r→uU r)∧∀v,c5 b m a= .inr v→sS v
 |0,a,hm,_=>absurd hm (Nat.not_lt_zero _)
 |m+1,a,hm,hi=>by
  obtain⟨aa,ae,av⟩:=h a hi;simp only[c5,j0]
  cases ad:b a with
  |ret r=>exact⟨trivial,fun eP ag=>(by cases ag;exact aa r ad),fun v aw=>(by cases aw)⟩
  |cK v=>exact⟨trivial,fun eP ag=>(by cases ag),fun bg aw=>(by cases aw;exact ae v ad)⟩
  |bq v=>
   obtain⟨g1,g2⟩:=av v ad;exact TW I jt uU sS h m v (by omega) g1
def Et(M:List aR)(t:aB)(e:Env)(Q:b0→aq→Env→Prop):Prop:=∃x S ay,run M t e=some (x,S,ay)∧Q x S ay
theorem TX{m xid:Nat}{ca:List hy}{a:aB}{e:Env}{v:bY ca}{J:bY ca→Prop}{B:bY ca→Prop}{Q:b0→aq→Env→Prop}
 (h:Et M a e fun x S ay=>bif x.bT m then J (b8 _ (fw S ay ca))else bif x.cX xid then B (b8 _ (fw S ay ca))else Q x S ay):
 (∀r,c4 M m xid ca a e v= .ret r→∃x S ay,r=some (x,S,ay)∧Q x S ay)∧(∀bg,c4 M m xid ca a e v= .cK bg→B bg)∧∀bg,c4 M m xid ca a e v= .bq bg→J bg:=by
 obtain⟨x,S,ay,ag,aJ⟩:=h
 unfold c4
 rw[ag]
 simp only
 cases hx:x.bT m with
 |true=>
  rw[hx,cond_true]at aJ;rw[nA hx];exact⟨fun r bd=>(by cases bd),fun bg bd=>(by cases bd),fun bg bd=>(by cases bd;exact aJ)⟩
 |false=>
  rw[hx,cond_false]at aJ
  cases ax:x.cX xid with
  |true=>
   rw[ax,cond_true]at aJ;rw[nB hx ax];exact⟨fun r bd=>(by cases bd),fun bg bd=>(by cases bd;exact aJ),fun bg bd=>(by cases bd)⟩
  |false=>
   rw[ax,cond_false]at aJ;rw[j3 hx ax];exact⟨fun r bd=>(by cases bd;exact⟨_,_,_,rfl,aJ⟩),fun bg bd=>(by cases bd),fun bg bd=>(by cases bd)⟩
theorem ka: ∀(t:aB) {e:Env} {Q:b0→aq→Env→Prop},t.wp M e Q→t.safe M e∧Et M t e Q
 | .cG x S,e,Q,h=>⟨trivial,x,S,e,rfl,h⟩
 | .lt i x t,e,Q,h=>ka t (e:=ba.put e i (x.den M e)) h
 | .eD n t,e,Q,h=>⟨⟨h.1,(ka t h.2).1⟩,(ka t h.2).2⟩
 | .it g a b,e,Q,h=>by
  refine⟨⟨fun ah=>(ka a (h.1 ah)).1,fun ah=>(ka b (h.2 ah)).1⟩,?_⟩
  cases ah:g.az e .bool with
  |true=>
   obtain⟨x,S,ay,aa,ae⟩:=(ka a (h.1 ah)).2;exact⟨x,S,ay,by rw[sG ah];exact aa,ae⟩
  |false=>
   obtain⟨x,S,ay,aa,ae⟩:=(ka b (h.2 ah)).2;exact⟨x,S,ay,by rw[sG ah];exact aa,ae⟩
 | .dz n a ps k,e,Q,h=>by
  obtain⟨aa,x,aS,aA,ag,av⟩:=ka a h
  cases hx:x.bT n with
  |true=>
   rw[hx,cond_true]at av;obtain⟨fu,iB,df,ay,gE,kM⟩:=ka k av;refine⟨⟨aa,fun _=>?_⟩,iB,df,ay,by unfold run;rw[p4 ag hx];exact gE,kM⟩
   have:(fun(r:aU) (p:et)=>(⟨r,bif a.jm n
    then a.fold M e (fun _ S ay=>(p.dg S).get ay r) r.fv
    else a.fold M e (fun x S ay=>bif x.bT n then(p.dg S).get ay r else r.fv) r.fv⟩:aF))=fun r p=>⟨r,(p.dg aS).get aA r⟩:=by
    funext r p
    simp only[j4 ag,hx]
    cases a.jm n<;>rfl
   rw[this];exact fu
  |false=>
   rw[hx,cond_false]at av;exact⟨⟨aa,fun af=>by rw[j4 ag,hx]at af;cases af⟩,x,aS,aA,by unfold run;rw[mP ag hx],av⟩
 | .ei m xid dn b1 ca a k,e,Q,h=>by
  obtain⟨I,aP,ad,he⟩:=h
  have pZ:=fun(i:Nat) (v:bY ca) hi aw=>ka a (ad i v hi aw)
  have As:=fun(i:Nat) (v:bY ca) hi aw=>TX (v:=v) (J:=I (i+1)) (B:=fun bg=>k.wp M (bl e ca bg) Q) (Q:=Q) (pZ i v hi aw).2
  obtain⟨dk,eu⟩:=TV I (fun r=>∃x S ay,r=some (x,S,ay)∧Q x S ay) (fun v=>k.wp M (bl e ca v) Q) (ck (dn.den M e)).toNat As (fun v aw=>he v aw) (ck (dn.den M e)).toNat 0 _ (Nat.zero_add _) aP
  have hI:(fun(i:Nat) (v:bY ca)=>(a.fold M (bl (ba.put e b1 ⟨.int .i64,(i:Int)⟩) ca v) (ee m xid ca fun _ _ _=>()) (.cK v):Step Unit (bY ca)))=fun(i:Nat) v=>iK (fun _=>()) (c4 M m xid ca a (bl (ba.put e b1 ⟨.int .i64,(i:Int)⟩) ca v) v):=by
   funext i v
   exact iL ..
  have w8:=wz (fun _:Option mO=>()) (b:=fun(i:Nat) v=>c4 M m xid ca a (bl (ba.put e b1 ⟨.int .i64,(i:Int)⟩) ca v) v) (c:=fun(i:Nat) v=>iK (fun _=>()) (c4 M m xid ca a (bl (ba.put e b1 ⟨.int .i64,(i:Int)⟩) ca v) v)) (fun _ _=>rfl) (ck (dn.den M e)).toNat 0 (b8 _ (dC e ca))
  refine⟨⟨⟨I,aP,fun i v hi aw=>⟨(pZ i v hi aw).1,fun bg hn=>(As i v hi aw).2.2 bg ?_⟩⟩,?_⟩,?_⟩
  ·rw[iL]at hn
   exact sq hn
  ·rw[hI,w8]
   cases ar:bo (fun(i:Nat) v=>c4 M m xid ca a (bl (ba.put e b1 ⟨.int .i64,(i:Int)⟩) ca v) v) 0 (ck (dn.den M e)).toNat (b8 _ (dC e ca))with
   |inl r=>trivial
   |inr v=>exact(ka k (eu v ar)).1
  ·unfold Et
   rw[Dt]
   cases ar:bo (fun(i:Nat) v=>c4 M m xid ca a (bl (ba.put e b1 ⟨.int .i64,(i:Int)⟩) ca v) v) 0 (ck (dn.den M e)).toNat (b8 _ (dC e ca))with
   |inl r=>exact dk r ar
   |inr v=>exact(ka k (eu v ar)).2
 | .eY m xid ca a k,e,Q,h=>by
  obtain⟨I,jt,aP,hm,ad⟩:=h
  have pZ:=fun(v:bY ca) aw=>ka a (ad v aw)
  have As:=fun(v:bY ca) aw=>TX (v:=v) (J:=fun bg=>I bg∧jt bg<jt v) (B:=fun bg=>k.wp M (bl e ca bg) Q) (Q:=Q) (pZ v aw).2
  obtain⟨zge,dk,eu⟩:=TW I jt (fun r=>∃x S ay,r=some (x,S,ay)∧Q x S ay) (fun v=>k.wp M (bl e ca v) Q) As dT _ hm aP
  have hI:(fun(v:bY ca)=>(a.fold M (bl e ca v) (ee m xid ca fun _ _ _=>()) (.cK v):Step Unit (bY ca)))=fun v=>iK (fun _=>()) (c4 M m xid ca a (bl e ca v) v):=by
   funext v
   exact iL ..
  have w8:=wA (fun _:Option mO=>()) (b:=fun v=>c4 M m xid ca a (bl e ca v) v) (c:=fun v=>iK (fun _=>()) (c4 M m xid ca a (bl e ca v) v)) (fun _=>rfl) dT (b8 _ (dC e ca))
  have zgf:=JG (fun _:Option mO=>()) (b:=fun v=>c4 M m xid ca a (bl e ca v) v) (c:=fun v=>iK (fun _=>()) (c4 M m xid ca a (bl e ca v) v)) (fun _=>rfl) dT (b8 _ (dC e ca))
  refine⟨⟨⟨I,aP,fun v aw=>⟨(pZ v aw).1,fun bg hn=>((As v aw).2.2 bg ?_).1⟩⟩,?_,?_⟩,?_⟩
  ·rw[iL]at hn
   exact sq hn
  ·rw[hI]
   exact zgf.2 zge
  ·rw[hI,w8]
   cases ar:c5 (fun v=>c4 M m xid ca a (bl e ca v) v) dT (b8 _ (dC e ca))with
   |inl r=>trivial
   |inr v=>exact(ka k (eu v ar)).1
  ·unfold Et
   rw[Du]
   cases ar:c5 (fun v=>c4 M m xid ca a (bl e ca v) v) dT (b8 _ (dC e ca))with
   |inl r=>exact dk r ar
   |inr v=>exact(ka k (eu v ar)).2
 | .bad _,_,_,h=>h.elim
end
def vE(M:List aR)(t:aB)(rs:List aU)(e:Env):(fa rs).den:=t.j9 M e (fun _ C ay=>Mt rs C ay) (fa rs).fv
section
variable {P:Program} {G:a8} {M:List aR} {inl:Nat→List ab→aq→aB}
theorem ga(bW:fP P G M inl){f:Nat}{m:aR}(t:aB)(aH:inl f (hr 0 m.ps) (pI m.ps.length)=t)(he:(t.clean&&t.gv.all (tx m.rs))=true)
 (hm: ∀x,vE M t m.rs (gw 0 (dv m.ps x))=m.m x):bE P G f m:=
 zgd bW t aH he fun x=>by rw[←hm x];exact(mi t _ _ _).symm
theorem zgg(bW:fP P G M inl){f:Nat}{m:aR}(t:aB)(aH:inl f (hr 0 m.ps) (pI m.ps.length)=t)(he:t.gv.all (tx m.rs)=true)
 (ai: ∀x,kz m.pre x→t.wp M (gw 0 (dv m.ps x)) fun _ _ _=>True)(hm: ∀x,vE M t m.rs (gw 0 (dv m.ps x))=m.m x):bE P G f m:=
 Mv bW t aH he (fun x hx=>(ka t (ai x hx)).1) fun x _=>by rw[←hm x];exact(mi t _ _ _).symm
end
end Go.aK
namespace Go.aK
open Go
section
variable {P:Program} {G:a8} {f:FuncId} {args:List aC} {σ:Heap} {n:Nat}
theorem dE.zgh{t:TypeId}{cs k5:List aC}{R:aC→List aC→Prop}(h:dE P G f (.ptr 0 0::args) [(0,.box t cs)] 1 fun r bU=>∃cs',bU=[(0,.box t cs')]∧R r cs')(ak:e3 args=true)(dH:e3 cs=true)
 (fQ: ∀r cs',R r cs'→jF r=true∧mI cs'=true){id:Nat}(bb:aD σ id=some (.box t k5))(gx:fU k5 cs):
 dE P G f (.ptr id 0::args) σ n fun r bU=>∃cs',bU=eL σ id (.box t cs')∧R r cs':=by
 intro w β ro ea aa ae av aQ bL
 have dj:=av.c6 id _ bb
 cases dj with
 |box _ _ b arr aA bh ct e1=>
  have TY: ∀k,Own [(0,eg.box t cs)] (fun _=>β id) k→b5 (β id)=some k:=fun k ⟨i,o,ah,_,ad⟩=>ad
  have kK:gX w ro [(0,.box t cs)] (fun _=>β id) 1:=by
   refine⟨fun i o ah=>?_,fun i yR o cy k ah dU _ _ _ _=>?_,fun k aj an=>av.fe k aj ⟨id,_,bb,rfl,TY k an⟩,av.lt⟩
   ·simp only[aD]at ah
    split at ah
    ·rename_i hi
     subst hi;cases ah;refine .box t cs b arr aA bh (by rw[ct,gx.at.1]) fun j x af=>?_
     obtain⟨y,ax,ai⟩:=gx.at.2 j x af;exact np (ai _ _ _ _ _ _ (e1 j y ax)) (mD dH af)
    ·cases ah
   ·simp only[aD]at ah dU
    split at ah
    ·split at dU
     ·rename_i cb a2;rw[←cb,←a2]
     ·cases dU
    ·cases ah
  refine Calls.mono (h w (fun _=>β id) ro ea aa (fun i x hx=>?_) kK aQ (fun i o ah=>?_)) fun e w' ⟨v,r,fE,dK,ro',cH,he,⟨cs',IM,ag⟩,dy,hG,cD⟩=>?_
  ·cases i with
   |zero=>
    simp only[List.getElem?_cons_zero,Option.some.injEq]at hx
    subst hx
    have:=ae 0 _ rfl
    generalize ea.getD 0 undef=bP at this⊢
    cases this with
    |ptr _ _ _ ar j5=>
     refine .ptr 0 0 bP Nat.one_pos fun bz cs' ah=>?_
     exact j5 t k5 bb
   |succ i=>exact np (ae (i+1) x (by simpa using hx)) (mD ak (by simpa using hx))
  ·simp only[aD]at ah
   split at ah
   ·rename_i hi;rw[←hi];exact Nat.one_pos
   ·cases ah
  ·subst IM
   obtain⟨zgi,AO⟩:=fQ r cs' ag
   have iR:c3 ⟨w,ro,σ,β,n⟩ G ⟨[],σ,n,n⟩ ⟨#[],[]⟩ w β ro:=⟨rfl,rfl,by simp,av,aQ,⟨rfl,rfl,rfl,Nat.le_refl _,fun _ _ _=>rfl,fun _ h=>.inl h,fun _ h=>h,fun _ h=>.inl h,fun id _ o ah=>⟨by simp[ah],rfl⟩,bL,Nat.le_refl _⟩,Nat.le_refl _⟩
   have zgj:dK 0=β id:=(cD.dJ 0 Nat.one_pos (.box t cs') (by simp[aD])).2
   have hw:=iR.write (w':=w') id _ (.box t cs') bb rfl rfl (.inl ⟨t,k5,cs',rfl,rfl⟩) cD.os cD.tape cD.output cD.size (fun k aj b7=>cD.frame k aj fun an=>b7 (TY k an)) (by
    have zgk:=hG.c6 0 (.box t cs') (by simp[aD])
    cases zgk with
    |box _ _ b' zgl g1 g2 g3 g4=>
     exact .box t cs' b' zgl (by rw[←zgj];exact g1) g2 g3 fun j x af=>Cv (g4 j x af) (Cu AO af))
   exact⟨v,r,eL σ id (.box t cs'),β,ro,n,he,⟨cs',rfl,ag⟩,Cv dy zgi,hw.heap,hw.trans⟩
end
def xz(ds:List aF):List aC:=
 match ds with
 |⟨.st c,x⟩::_=>(b9 c x).map .au
 |_=>[]
def Eu(ds:List aF):aC:=
 match ds.tail.map aF.fk with
 |[v]=>v
 |l=>.tuple l
def my(P:Program)(G:a8)(f:Nat)(t:TypeId)(m:aR):Prop:=
 ∀x:(fa m.ps).den,kz m.pre x→dE P G f (.ptr 0 0::(dv m.ps x).tail.map aF.fk) [(0,.box t (xz (dv m.ps x)))] 1 fun v bU=>∃cs',bU=[(0,.box t cs')]∧v=Eu (dv m.rs (m.m x))∧cs'=xz (dv m.rs (m.m x))
structure jQ where
 f:Nat
 j:Nat
 t:TypeId
 c:bF
 ps:List aU
 rs:List aU
 e2:Bool
def jQ.pb(b:jQ):h1:=⟨b.f,b.j,.st b.c::b.ps,.st b.c::b.rs,b.e2⟩
def zgm(P:Program)(G:a8)(M:List aR)(b:jQ):Prop:=
 (eT aR.d M b.j).ps= .st b.c::b.ps∧(eT aR.d M b.j).rs= .st b.c::b.rs∧my P G b.f b.t (eT aR.d M b.j)∧(b.e2=true→(eT aR.d M b.j).pre=none)
def Ix(P:Program)(G:a8)(M:List aR)(C:List jQ):Prop:=∀b∈C,zgm P G M b
def Ev(f:Nat):List jQ→Option jQ
 |[]=>none
 |c::r=>match Nat.beq c.f f with
  |true=>some c
  |false=>Ev f r
theorem TZ{f:Nat}{c:jQ}: ∀{C:List jQ},Ev f C=some c→c∈C∧c.f=f
 |[],h=>by cases h
 |d::r,h=>by
  unfold Ev at h
  split at h
  ·rename_i hd;cases h;exact⟨List.mem_cons_self ..,Nat.eq_of_beq_eq_true hd⟩
  ·obtain⟨aa,ae⟩:=TZ h;exact⟨List.mem_cons_of_mem _ aa,ae⟩
def pc(rs:List aU)(k:Nat):Nat:=
 match rs with
 |[_]=>k
 |_=>k+1
def Ew(rs:List aU)(k:Nat):ab:=
 match rs with
 |[r]=>An r k
 |rs=>.tp (hr k rs)
def Ex(b:jQ)(S:aq)(id:Nat)(xs:List ab):aq:=
 ⟨ba.put .emp 0 (Ew b.rs (pc b.pb.rs S.k+1)),jl S.h id (.dm b.t (iI b.c (pc b.pb.rs S.k) 0 (eM b.c))),S.n,S.k+(iw b.pb xs S.k).length,S.g⟩
def T0(b:jQ)(S:aq)(t:TypeId)(l rest xs:List ab):Bool:=
 (Nat.beq t b.t&&(hk (eM b.c) l&&ab.cI S.k l))&&((sQ rest&&ab.cI S.k xs)&&((aU.st b.c).sP&&(b.rs.all aU.sP&&b.rs.all aU.iq)))
def Mw(C:List jQ)(inl:Nat→List ab→aq→aB)(f:Nat)(aG:List ab)(S:aq):aB:=
 match Ev f C,aG with
 |some b,.eb id 0::rest=>match da S.h id,ry S b.ps rest with
  |some (.dm t l),some xs=>match T0 b S t l rest xs with
   |true=>emit S.k (iw b.pb (.ch l::xs) S.k) (Em b.pb (.ch l::xs)) (.cG .cj (Ex b S id (.ch l::xs)))
   |false=>inl f aG S
  |_,_=>inl f aG S
 |_,_=>inl f aG S
section
variable {P:Program} {G:a8} {M:List aR} {C:List jQ} {inl:Nat→List ab→aq→aB}
theorem zgn{c:h1}{xs:List ab}{k:Nat}{e:Env}{y:(fa c.rs).den}(ar:ab.cI k xs=true)(aP:Env.at (dh M e k (iw c xs k)) k=⟨fa c.rs,y⟩):
 ∀(j:Nat) (d:aF),(dv c.rs y)[j]? =some d→Env.at (dh M e k (iw c xs k)) (pc c.rs k+j)=d:=by
 have eH:=jq (M:=M) (e:=e) (Eo (c:=c) ar)
 obtain⟨f,Er,ps,rs,e2⟩:=c
 simp only at y aP eH⊢
 match rs,y,aP,eH with
 |[],y,aP,eH=>intro j d af;cases af
 |[r],y,aP,eH=>
  intro j d af
  cases j with
  |zero=>
   have af:(⟨r,y⟩:aF)=d:=by simpa[dv]using af
   rw[←af];exact aP
  |succ j=>simp[dv]at af
 |r::s::l,y,aP,eH=>
  intro j d af
  have hlen:j<(r::s::l).length:=by
   have aa:=(List.getElem?_eq_some_iff.1 af).1
   have:=congrArg List.length (sR (rs:=r::s::l) (x:=y))
   rw[List.length_map]at this;omega
  have aa:=eH (j+1) (.q4 (r::s::l) k j) (by
   show(bJ.ca Er xs::nL (r::s::l) k 0 (r::s::l))[j+1]? =_
   rw[List.getElem?_cons_succ,Mm,if_pos hlen,Nat.zero_add])
  show Env.at _ (k+1+j)=d;rw[show k+1+j=k+(j+1)by omega,aa]
  simp only[bJ.den,aP,cz];exact Mq af
theorem zgo{e:Env}{rs:List aU}{k:Nat}{ds:List aF}(ag:ds.map aF.r=rs)(h: ∀j d,ds[j]? =some d→Env.at e (k+j)=d):(Ew rs k).den G e=(match ds.map aF.fk with|[v]=>v|l=>.tuple l):=by
 match rs,ds,ag,h with
 |[],ds,ag,h=>cases l5 ag;rfl
 |[r],ds,ag,h=>
  obtain⟨d,oJ,rfl,aa,ae⟩:=ln ag
  cases l5 ae
  subst aa;exact Mo (x:=d.v) (h 0 d rfl)
 |r::s::l,ds,ag,h=>
  have:=Ao (G:=G) (i:=k) ag h
  obtain⟨d,oJ,rfl,aa,ae⟩:=ln ag;obtain⟨d2,ziA,rfl,av,aQ⟩:=ln ae;show aC.tuple (ab.bO G e (hr k (r::s::l)))=_;rw[this];rfl
theorem zgp{ds:List aF}{c:bF}{x:fO c}{r:List aF}(h:ds=⟨.st c,x⟩::r)(hc:(aU.st c).sP=true):mI (xz ds)=true:=by
 subst h
 have:=TP (d:=⟨.st c,x⟩) hc
 exact this
theorem zgq(ml:Ix P G M C)(bW:fP P G M inl):fP P G M (Mw C inl):=fun f aG S e ad ar hf ai=>by
 unfold Mw at ai⊢
 split at ai
 rotate_left
 ·exact bW _ _ S e ad ar hf ai
 rename_i b id rest hc
 split at ai
 rotate_left
 ·exact bW _ _ S e ad ar hf ai
 rename_i t l xs ah hx
 split at ai
 rotate_left
 ·exact bW _ _ S e ad ar hf ai
 rename_i aj
 simp only[T0,Bool.and_eq_true]at aj
 obtain⟨⟨fu,gE,kM⟩,⟨r2,yx⟩,tD,vJ,Mx⟩:=aj
 have fu:=Nat.eq_of_beq_eq_true fu
 subst fu
 obtain⟨hm,Ar⟩:=TZ hc
 obtain⟨g1,g2,g3,g4⟩:=ml b hm
 have zgr:ab.lt S.k (.ch l)=true:=kM
 have Ey:ab.cI S.k (.ch l::xs)=true:=by simp only[ab.cI,zgr,yx,Bool.and_self]
 obtain⟨hn,_⟩:=me ai
 have uS:=Eo (c:=b.pb) Ey
 have bS:bX S.k e (dh M e S.k (iw b.pb (.ch l::xs) S.k)):=jJ (Nat.le_refl _)
 have b7:b.e2=false→fc.ok M (dh M e S.k (iw b.pb (.ch l::xs) S.k)) (.ca b.j (.ch l::xs)):=fun je=>hn _ (by unfold Em;rw[show b.pb.e2=b.e2 from rfl,je];exact List.mem_singleton.2 rfl)
 obtain⟨cb,a2,a3,a4⟩:=xy (G:=G) (e:=e) hx
 have eH:=jq (M:=M) (e:=e) uS 0 (.ca b.j (.ch l::xs)) (by unfold iw;split<;>rfl)
 have dB:=zi (G:=G) (e:=e) gE
 obtain⟨Ez,At,bt,hM,rz,m0,Au⟩:=b
 simp only[jQ.pb]at g1 g2 g3 g4 Ar uS bS b7 cb a2 a3 a4 eH gE tD vJ Mx dB hx⊢
 subst Ar
 simp only[Nat.add_zero,bJ.den]at eH
 simp only[fc.ok]at b7
 clear ai hn
 generalize eT aR.d M At=m at g1 g2 g3 g4 eH b7
 obtain⟨ziB,ziC,ziD,nN⟩:=m
 simp only at g1 g2 g3 g4 eH b7
 subst g1 g2
 rw[wG bS Ey]at eH
 have uR:(gA e (.st hM::rz) (.ch l::xs)).map aF.r= .st hM::rz:=by simp only[gA,List.map_cons,a4]
 have Av:=xx uR
 have hb:=g3 (b8 _ (gA e (.st hM::rz) (.ch l::xs))) (by
  cases Au with
  |true=>rw[g4 rfl];trivial
  |false=>
   have:=b7 rfl
   rw[wG bS Ey]at this
   exact this)
 simp only at hb
 rw[Av]at hb
 generalize ax:nN (b8 (.st hM::rz) (gA e (.st hM::rz) (.ch l::xs)))=y at hb eH
 have Dj:=zgn (M:=M) (c:=⟨Ez,At,.st hM::rz,.st hM::m0,Au⟩) Ey eH
 obtain⟨d0,sT,mF,nS,hdr⟩:=ln (sR (rs:=.st hM::m0) (x:=y))
 obtain⟨zgs,c7⟩:=d0
 simp only at nS
 subst nS
 simp only[mF]at hb Dj
 rw[a3 r2]at cb a2
 have hb:=hb.arg (.cons (Sub.refl _) cb)
 have bb:aD (cw G e S.h) id=some (.box bt (ab.bO G e l)):=by rw[ef,ah];rfl
 have lA:=dE.zgh (R:=fun r cs'=>r=Eu (⟨.st hM,c7⟩::sT)∧cs'=xz (⟨.st hM,c7⟩::sT)) (σ:=cw G e S.h) (n:=S.n) hb a2 (Ce _) (fun r cs' ⟨c1,di⟩=>⟨by
  rw[c1]
  have hsc:mI (sT.map aF.fk)=true:=Ml fun d hd=>by
   have:d.r∈m0:=by rw[←hdr];exact List.mem_map_of_mem hd
   exact List.all_eq_true.1 vJ d.r this
  unfold Eu;simp only[List.tail_cons]
  split
  ·rename_i v aw
   rw[aw]at hsc;simpa[mI]using hsc
  ·exact hsc,by rw[di];exact zgp rfl tD⟩) bb dB
 have aP:=Dj 0 ⟨.st hM,c7⟩ rfl
 rw[Nat.add_zero]at aP
 have hlen:pc (.st hM::m0) S.k+1+m0.length≤S.k+(iw ⟨Ez,At,.st hM::rz,.st hM::m0,Au⟩ (.ch l::xs) S.k).length:=by
  cases m0 with
  |nil=>simp[pc,iw]
  |cons r q=>simp only[pc,iw,List.length_cons,Mn];omega
 have zgt:pc (.st hM::m0) S.k<S.k+(iw ⟨Ez,At,.st hM::rz,.st hM::m0,Au⟩ (.ch l::xs) S.k).length:=by omega
 refine lA.res fun r bU ⟨cs',aa,ae,av⟩=>⟨_,_,by rw[ly];rfl,?_,?_,?_,?_,bS,Nat.le_add_right _ _⟩
 ·rw[ae]
  have:=zgo (G:=G) (k:=pc (.st hM::m0) S.k+1) hdr fun j d af=>by
   have:=Dj (j+1) d (by simpa using af)
   rw[←this]
   congr 1
   omega
  show _=ab.den G _ (aq.at (Ex _ S id _) 0);unfold Ex aq.at
  simp only[ba.hR,if_true];exact this.symm
 ·rw[aa,av]
  show _=cw G _ (jl S.h id _);rw[sr,wF bS ad.h];simp only[bB.den,jQ.pb];rw[sk,aP,cz];rfl
 ·refine⟨fun i x hi=>?_,DQ (o:=.dm bt (iI hM (pc (.st hM::m0) S.k) 0 (eM hM))) (Ep zgt) (ss (Nat.le_add_right _ _) ad.h),nD (Nat.le_add_right _ _) ad.g⟩
  simp only[Ex,ba.hR]at hi
  split at hi
  ·cases hi
   show(Ew m0 (pc (.st hM::m0) S.k+1)).lt (S.k+_)=true;unfold Ew
   split
   ·have IU:pc (.st hM::[_]) S.k+1<S.k+(iw ⟨Ez,At,.st hM::rz,.st hM::[_],Au⟩ (.ch l::xs) S.k).length:=hlen
    exact Mp IU
   ·simp only[ab.lt]
    exact Ap hlen
  ·simp[ba.get]at hi
 ·exact h8 bS ad.g hf
end
end Go.aK
