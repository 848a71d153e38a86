/- TD, part Z: regions of drawn order, sound. Conditions: none. -/
import Derived.Test.YtddeffoppnlafaaGreatKTDy
namespace Go.aK
open Go
def Ab(v:af):Bool:=
 match v.rt with
 |some (.int _)=>true
 |some .bool=>true
 |some .str=>true
 |_=>false
def OU(P:Program)(S:ay)(t:TypeId)(id:Nat)(i:af):Option ee:=
 match i.rt,kS P t,dK S.h id with
 |some (.int k),some n,some (.rw _ c y)=>match Nat.beq n (du c)with
  |true=>some ⟨[],qS S.g (.kd c) (.lz c k) y i,.hW id i 0⟩
  |false=>none
 |_,_,_=>none
def OV(P:Program)(S:ay)(t:TypeId)(x i:af):Option ee:=
 match i.rt,kS P t,w6 x with
 |some (.int k),some n,some c=>match Nat.beq n (du c)with
  |true=>some ⟨[.f2 (.lz c k) x i],qS S.g (.kd c) (.lz c k) x i,.ip c S.k 0⟩
  |false=>none
 |_,_,_=>none
def OW(P:Program)(S:ay)(t:TypeId)(id off:Nat)(i:af):Option ee:=
 match i.rt,uc P t,w2 S (.eV id off)with
 |some (.int _),some (len,n),some _=>match i with
  | .cs (.int _ (.ofNat j))=>match Nat.blt j len,zo (j*n) (.eV id off)with
   |true,some p=>some ⟨[],[],p⟩
   |_,_=>none
  |i=>some ⟨[],zm S.g len i,.ia id off i n⟩
 |_,_,_=>none
def HO(P:Program)(N:Nat)(S:ay)(t:TypeId)(x:af)(lo hi:Option Operand):Option ee:=
 match zv N S lo,zv N S hi,x.rt,kS P t with
 |some l,some h,some (.li c),some n=>match Nat.beq n (du c)with
  |true=>some ⟨[.ff c x l h],[.ff c x l h],.bs (.li c) S.k⟩
  |false=>none
 |_,_,_,_=>none
def tE(P:Program)(N:Nat)(S:ay)(o:Oper):Option ee:=
 match o.op with
 | .move x=>some ⟨[],[],S.a1 N x⟩
 | .assign x=>some ⟨[],[],S.a1 N x⟩
 | .nilCheck x=>match u6 S (S.a1 N x)with
  |true=>some ⟨[],[],S.a1 N x⟩
  |false=>none
 | .fieldAddr t x f=>match sA P t f,u6 S (S.a1 N x)with
  |some k,true=>match zo k (S.a1 N x)with
   |some p=>some ⟨[],[],p⟩
   |none=>none
  |_,_=>none
 | .load t x=>match w2 S (S.a1 N x)with
  |some l=>match tm P t l with
   |some v=>some ⟨[],[],v⟩
   |none=>none
  |none=>match r3 P N S o with
   |some r=>match Ab r.v with
    |true=>some r
    |false=>none
   |none=>none
 | .indexAddr t x i=>match S.a1 N x with
  | .aq id=>OU P S t id (S.a1 N i)
  | .eV id off=>OW P S t id off (S.a1 N i)
  |y=>OV P S t y (S.a1 N i)
 | .slice t x lo hi none=>match HO P N S t (S.a1 N x) lo hi with
  |some r=>some r
  |none=>match r3 P N S o with
   |some r=>match Ab r.v with
    |true=>some r
    |false=>none
   |none=>none
 |_=>match r3 P N S o with
  |some r=>match Ab r.v with
   |true=>some r
   |false=>none
  |none=>none
def OX(P:Program):Nat→TypeId→Bool
 |0,_=>false
 |n+1,t=>match P.underlying t with
  |some (.pointer _)=>false
  |some (.slice e)=>match P.underlying e with
   |some (.pointer _)=>false
   |_=>true
  |some (.array _ e)=>OX P n e
  |some (.struct fs)=>fs.toList.all fun f=>OX P n f.type
  |_=>true
def oW(P:Program)(o:Oper):Bool:=
 match o.op with
 | .store _ _ _=>true
 | .alloc _=>true
 | .box _ _=>true
 | .buildSlice _ _ _=>true
 | .mapUpdate _ _ _ _=>true
 | .call c=>match c.callee with
  | .builtin .append=>true
  | .builtin .copy=>true
  | .value _=>!(c.argTypes.toList.all (OX P 6))
  |_=>false
 |_=>false
mutual
def af.pure:af→Bool
 | .bs _ _=>true
 | .fd _ _ _ _=>true
 | .cs _=>true
 | .ip _ _ _=>true
 | .cA l=>af.fX l
 | .tp l=>af.fX l
 | .fn _ a b=>af.fX a&&af.fX b
 |_=>false
def af.fX:List af→Bool
 |[]=>true
 |x::r=>af.pure x&&af.fX r
end
def OY(S:ay)(dst:Option Nat)(C:ay):aH:=
 match af.pure (C.at 0)with
 |true=>.dc .b8 ((⟨S.l,S.h,S.n,C.k,C.g⟩:ay).put dst (C.at 0))
 |false=>.bad 74
def zgF(B N:Nat)(S:ay)(dst:Option Nat)(C:ay):aH:=.dc .b8 (tz B N S (tx B S C) dst)
def tF(P:Program)(N B:Nat)(T:List (Nat × bX))(inl:Nat→List af→ay→aH)(o:Oper)(S:ay):aH:=
 match oW P o with
 |true=>match He P N B T S o with
  |some r=>match iC S.k r.xs&&(r.v.lt (S.k+r.xs.length)&&fu (S.k+r.xs.length) r.h)with
   |true=>emit S.k r.xs r.ns (.dc .b8 ((r.st S o.dst).fA S.k r.xs))
   |false=>.bad 31
  |none=>match zG P N S o with
   |some (f,aI)=>match nr P f with
    |true=>((inl f aI S).eW (sa S o.dst) none).eW (zgF B N S o.dst) none
    |false=>.bad 33
   |none=>.bad (100+N1 o)
 |false=>match r3 P N S o with
  |some r=>match iC S.k r.xs&&r.v.lt (S.k+r.xs.length)with
   |true=>emit S.k r.xs r.ns (.dc .b8 ((S.fA S.k r.xs).put o.dst r.v))
   |false=>.bad 30
  |none=>match zG P N S o with
   |some (f,aI)=>match nr P f&&af.fX aI with
    |true=>(inl f aI ⟨.emp,[],0,S.k,S.g⟩).eW (OY S o.dst) none
    |false=>.bad 32
   |none=>.bad (100+N1 o)
def sd(P:Program)(N B:Nat)(T:List (Nat × bX))(inl:Nat→List af→ay→aH)(ops:Array Oper)(o:Oper)(S:ay):aH:=
 match guardOf N ops S o with
 | .yes=>tF P N B T inl o S
 | .no=>match oW P o with
  |false=>.dc .b8 (S.put o.dst (.tp []))
  |true=>.bad 73
 | .on gs=>match ng S.k gs&& !(oW P o)with
  |true=>match r3 P N {S with g:=iD gs S.g} o with
   |some r=>match iC S.k r.xs&&r.v.lt (S.k+r.xs.length)with
    |true=>emit S.k r.xs (r.ns.map (r8 gs)) (.dc .b8 ((S.fA S.k r.xs).put o.dst (lC gs r.v)))
    |false=>.bad 35
   |none=>vh (tA S o.dst) gs (tF P N B T inl o {S with g:=iD gs S.g}) S.g
  |false=>.bad 36
 | .bad=>.bad 37
def vp(P:Program)(N:Nat)(ops:Array Oper)(o:Oper)(S:ay)(k:ay→aH):aH:=
 match guardOf N ops S o with
 | .yes=>match tE P N S o with
  |some r=>match iC S.k r.xs&&r.v.lt (S.k+r.xs.length)with
   |true=>emit S.k r.xs r.ns (k ((S.fA S.k r.xs).put o.dst r.v))
   |false=>.bad 30
  |none=>.bad 76
 | .no=>k (S.put o.dst (.tp []))
 | .on gs=>match ng S.k gs with
  |true=>match tE P N {S with g:=iD gs S.g} o with
   |some r=>match iC S.k r.xs&&r.v.lt (S.k+r.xs.length)with
    |true=>emit S.k r.xs (r.ns.map (r8 gs)) (k ((S.fA S.k r.xs).put o.dst (lC gs r.v)))
    |false=>.bad 35
   |none=>.bad 76
  |false=>.bad 36
 | .bad=>.bad 37
def pop(P:Program)(N:Nat)(S:ay)(o:Oper):Bool:=
 match o.op with
 | .move _=>true
 | .assign _=>true
 | .nilCheck _=>true
 | .fieldAddr _ _ _=>true
 | .indexAddr _ _ _=>true
 | .slice t x lo hi none=>(HO P N S t (S.a1 N x) lo hi).isSome
 |_=>false
def Ac(P:Program)(N:Nat)(ops:Array Oper)(S:ay)(o:Oper):Bool:=
 match guardOf N ops S o with
 | .yes=>pop P N S o
 | .no=>true
 | .on gs=>pop P N {S with g:=iD gs S.g} o
 | .bad=>false
def zgG(P:Program)(N:Nat)(ops:Array Oper)(wr m:List Bool)(S:ay)(i:Nat):Bool:=
 match ops[i]? with
 |some o=>(Region.free .any ops m.toArray i&&(!(wr.getD i false)&&(Ac P N ops S o||HL ops wr m i)))&&(match guardOf N ops S o with
  | .yes=>(tE P N S o).isSome
  | .no=>true
  | .on gs=>(tE P N {S with g:=iD gs S.g} o).isSome
  | .bad=>false)
 |none=>false
def Wf(P:Program)(N:Nat)(ops:Array Oper)(wr m:List Bool)(S:ay):List Nat→Option Nat
 |[]=>none
 |i::r=>match zgG P N ops wr m S i with
  |true=>some i
  |false=>Wf P N ops wr m S r
def HP(N:Nat)(ops:Array Oper)(S:ay)(o:Oper):List (af × Bool):=
 match guardOf N ops S o with
 | .on gs=>gs
 |_=>[]
def OZ:ck→ck→Bool
 | .d1 i f x,.d1 j g y=>Nat.beq i j&&(decide (f=g)&&ej x y)
 | .d2 i f x y,.d2 j g u v=>(Nat.beq i j&&decide (f=g))&&(ej x u&&ej y v)
 | .rg i b,.rg j c=>Nat.beq i j&&ej b c
 | .eL g b,.eL h c=>ej g h&&decide (b=c)
 |_,_=>false
def HQ:List ck→List ck→Bool
 |[],[]=>true
 |x::l,y::m=>OZ x y&&HQ l m
 |_,_=>false
def O0:bQ→bQ→Bool
 | .dY t l,.dY u m=>Nat.beq t u&&nW l m
 | .rw t c x,.rw u d y=>Nat.beq t u&&(decide (c=d)&&ej x y)
 | .it u x p,.it v y q=>decide (u=v)&&(ej x y&&ej p q)
 |_,_=>false
def HR:List (Nat × bQ)→List (Nat × bQ)→Bool
 |[],[]=>true
 |(i,x)::l,(j,y)::m=>Nat.beq i j&&(O0 x y&&HR l m)
 |_,_=>false
def Dr:bd af→bd af→Bool
 | .emp,.emp=>true
 | .n v l r,.n w m s=>(match v,w with
  |some x,some y=>ej x y
  |none,none=>true
  |_,_=>false)&&(Dr l m&&Dr r s)
 |_,_=>false
def O1(S U:ay):Bool:=(Dr S.l U.l&&HR S.h U.h)&&((Nat.beq S.n U.n&&Nat.beq S.k U.k)&&HQ S.g U.g)
def tG:Option af→Option af→Bool
 |none,none=>true
 |some x,some y=>ej x y
 |_,_=>false
def O2:b1→b1→Bool
 | .ca j aI,.ca i cE=>Nat.beq j i&&nW aI cE
 | .tf rs p i,.tf qs q j=>decide (rs=qs)&&(Nat.beq p q&&Nat.beq i j)
 | .f1 f x,.f1 g y=>decide (f=g)&&ej x y
 | .f2 f x y,.f2 g u v=>decide (f=g)&&(ej x u&&ej y v)
 | .ze k v m x,.ze a8 bu o6 ly=>(decide (k=a8)&&decide (v=bu))&&(ej m o6&&ej x ly)
 | .wW k v m x,.wW a8 bu o6 ly=>(decide (k=a8)&&decide (v=bu))&&(ej m o6&&ej x ly)
 | .qK r x,.qK s y=>decide (r=s)&&ej x y
 | .ff c x a b,.ff d y u v=>(decide (c=d)&&ej x y)&&(tG a u&&tG b v)
 | .qL x a b,.qL y u v=>ej x y&&(tG a u&&tG b v)
 | .pB c l,.pB d m=>decide (c=d)&&nW l m
 | .up c l i x,.up d m j y=>(decide (c=d)&&ej l m)&&(ej i j&&ej x y)
 | .cQ c x,.cQ d y=>decide (c=d)&&ej x y
 | .nth r l i,.nth s m j=>decide (r=s)&&(nW l m&&ej i j)
 |_,_=>false
def O3:gE→gE→Bool
 | .f2 n f x y,.f2 m g u v=>(Nat.beq n m&&decide (f=g))&&(ej x u&&ej y v)
 | .ca j aI,.ca i cE=>Nat.beq j i&&nW aI cE
 | .nth n x,.nth m y=>Nat.beq n m&&ej x y
 | .ff c x a b,.ff d y u v=>(decide (c=d)&&ej x y)&&(tG a u&&tG b v)
 | .qL x a b,.qL y u v=>ej x y&&(tG a u&&tG b v)
 | .up c l i,.up d m j=>decide (c=d)&&(ej l m&&ej i j)
 | .mk n x y,.mk m u v=>Nat.beq n m&&(ej x u&&ej y v)
 |_,_=>false
def se:aH→aH→Bool
 | .dc .b8 S,.dc .b8 U=>O1 S U
 | .lt i x t,.lt j y u=>Nat.beq i j&&(O2 x y&&se t u)
 | .fF n t,.fF m u=>O3 n m&&se t u
 |_,_=>false
def Ds:List aH→aH
 |t::r=>match r.all (se t)with
  |true=>t
  |false=>.bad 71
 |[]=>.bad 71
def xq{α:Type}:List Bool→(List Bool→α)→α
 |[],k=>k []
 |true::r,k=>xq r fun s=>k (true::s)
 |false::r,k=>xq r fun s=>k (false::s)
theorem HS{α:Type}: ∀(m:List Bool) (k:List Bool→α),xq m k=k m
 |[],_=>rfl
 |true::r,_=>HS r _
 |false::r,_=>HS r _
def sf(P:Program)(N B:Nat)(T:List (Nat × bX))(inl:Nat→List af→ay→aH)(ops:Array Oper)(wr:List Bool):Nat→List Bool→ay→aH
 |0,m,S=>match Region.ready .any ops m.toArray with
  |[]=>.dc .b8 S
  |_=>.bad 70
 |n+1,m,S=>match Region.ready .any ops m.toArray with
  |[]=>.dc .b8 S
  |i::rd=>match Wf P N ops wr m S (i::rd)with
   |some j=>match ops[j]?,(Region.ready .any ops m.toArray).contains j&&(Region.free .any ops m.toArray j&& !(wr.getD j false))with
    |some o,true=>match Ac P N ops S o||HL ops wr m j with
     |true=>vp P N ops o S (xq (m.set j true) (sf P N B T inl ops wr n))
     |false=>.bad 79
    |_,_=>.bad 77
   |none=>match rd,ops[i]? with
    |[],some o=>match decide (wr.getD i false=oW P o)with
     |true=>r6 N S o.dst (HP N ops S o) (sd P N B T inl ops o S) (xq (m.set i true) (sf P N B T inl ops wr n))
     |false=>.bad 78
    |_,_=>Ds ((i::rd).map fun j=>match ops[j]? with
     |some o=>match decide (wr.getD j false=oW P o)with
      |true=>r6 N S o.dst (HP N ops S o) (sd P N B T inl ops o S) (xq (m.set j true) (sf P N B T inl ops wr n))
      |false=>.bad 78
     |none=>.bad 77)
def O4(P:Program)(N B:Nat)(T:List (Nat × bX))(inl:Nat→List af→ay→aH)(ops:Array Oper)(S:ay):aH:=
 match P.follows .mixedOrders&&Region.noSelect ops with
 |true=>xq (List.replicate ops.size false) (sf P N B T inl ops (ops.toList.map (oW P)) ops.size) S
 |false=>.bad 75
section
variable {P:Program} {G:aR} {N B:Nat} {M:List bo} {T:List (Nat × bX)} {inl:Nat→List af→ay→aH}
theorem zgH{v:af}{e:Env}(h:Ab v=true): ∃c,v.den G e= .ad (.v c):=by
 unfold Ab at h
 split at h
 ·rename_i ah;exact⟨_,gP ah⟩
 ·rename_i ah;exact⟨_,gP ah⟩
 ·rename_i ah;exact⟨_,gP ah⟩
 ·cases h
theorem zgI{t:TypeId}{n:Nat}(h:mb P t=some n):scalar P t=false:=by
 unfold mb at h
 unfold scalar
 split at h<;>simp_all
theorem jd.tH{ops:Array Oper}{o:Oper}{s:aQ}{v:aC}(h:nP P G o s v)(ai:eS ops s o=some true):jd P G ops o s (s.put o.dst v):=by
 intro E a w ⟨β,ro,ah⟩
 have hw:=mh (ops:=ops) ⟨β,ro,ah⟩ ai
 obtain⟨c,ab,ae⟩:=h E a w β ro ah
 exact⟨c,.inl ⟨hw,fun br _=>ab br⟩,β,ro,ah.put _ _ _ ae⟩
theorem Wh{o:Oper}{S:ay}{t:TypeId}{x i:Operand}{r:ee}{e:Env}(au:o.op= .indexAddr t x i)(h:OV P S t (S.a1 N x) (S.a1 N i)=some r)(hf:S.cP e)(hx: ∀(j:Nat) (x:b1),r.xs[j]? =some x→Env.at e (S.k+j)=x.den M e)(hn: ∀n∈r.ns,n.ok M e):nP P G o (S.den G N B e) (r.v.den G e):=by
 unfold OV at h
 split at h
 ·rename_i k n c hi nc hc
  split at h
  ·rename_i ag
   cases h
   have ag:=Nat.eq_of_beq_eq_true ag
   rw[ag]at nc
   have hC:aP G (S.den G N B e) i=_:=(bR hf i).trans (k9 hi)
   obtain⟨hd,w8⟩:=M3 (G:=G) (e:=e) hc;obtain⟨g1,g2⟩:=zn hf hi hn
   have:=TM c _ k _ au nc hC ((bR hf x).trans hd) g1 g2
   have aS:Env.at e S.k=_:=hx 0 _ rfl
   have ab:=Ui (G:=G) (x:=List.getD ((S.a1 N x).aN e (.li c)) (Int.toNat ((S.a1 N i).aN e (.int k))) (bj c)) aS
   show nP P G o _ ((af.ip c S.k 0).den G e);rw[ab];exact this
  ·cases h
 ·cases h
theorem zgJ{o:Oper}{s:aQ}(t:TypeId)(x i:Operand)(au:o.op= .indexAddr t x i){n:Nat}(aJ:kS P t=some n){k:IntKind}{j:Nat}(hi:aP G s i= .ad (.v (.int k (j:Int)))){p:aC}(ar:mM s.heap n j (aP G s x)=some p):
 nP P G o s p:=
 fun _ a w β ro ah=>by
  obtain⟨c7,len,cap,hc,aj,dE⟩:=S2 ah.heap (ah.eval x) ar;obtain⟨e,hu,bT⟩:=wN aJ;refine⟨_,fun br=>?_,dE⟩
  have nv:(0:Int)≤j∧(j:Int)<len:=⟨by omega,by omega⟩
  simp[execOp,au,hc,ah.dR hi,Instr.indexAt,asIntOf,run_underlying hu,aj,bT]
theorem Wi{o:Oper}{S:ay}{t:TypeId}{x i:Operand}{id:Nat}{r:ee}{e:Env}(au:o.op= .indexAddr t x i)(bf:S.a1 N x= .aq id)(h:OU P S t id (S.a1 N i)=some r)(hf:S.cP e)(hx: ∀(j:Nat) (x:b1),r.xs[j]? =some x→Env.at e (S.k+j)=x.den M e)(hn: ∀n∈r.ns,n.ok M e):nP P G o (S.den G N B e) (r.v.den G e):=by
 unfold OU at h
 split at h
 ·rename_i k n bh c y hi nc ai
  split at h
  ·rename_i ag
   cases h
   have ag:=Nat.eq_of_beq_eq_true ag
   have hC:aP G (S.den G N B e) i=_:=(bR hf i).trans (k9 hi)
   obtain⟨g1,g2⟩:=zn hf hi hn;obtain⟨j,aj⟩: ∃j:Nat,(S.a1 N i).aN e (.int k)=(j:Int):=⟨_,(Int.toNat_of_nonneg g1).symm⟩;rw[aj]at hC g2
   have g2:(j:Int)<((List.length (y.aN e (.li c)):Nat):Int):=g2
   have:=zgJ (P:=P) (o:=o) t x i au nc hC (p:=.dg id j 0) (by
    rw[bR hf,bf];simp only[af.den,mM,ay.den,e7,ai,Option.map_some,bQ.den]
    rw[if_pos ⟨ag.symm,by rw[List.length_map];omega⟩])
   simp only[af.den,nT hi,aj,Int.toNat_natCast];exact this
  ·cases h
 ·cases h
theorem Wj{o:Oper}{s:aQ}(t:TypeId)(x i:Operand)(au:o.op= .indexAddr t x i){len n:Nat}(aJ:uc P t=some (len,n)){k:IntKind}{j:Nat}(hi:aP G s i= .ad (.v (.int k (j:Int))))(aj:j<len)
 {cs:List aC}(fj:fG s.heap (aP G s x)=some cs){p:aC}(ar:jF (j*n) (aP G s x)=some p):
 nP P G o s p:=
 fun _ a w β ro ah=>by
  obtain⟨c7,hc,dE⟩:=Ss ar fj (ah.eval x);unfold uc at aJ
  split at aJ
  ·rename_i m e hu
   cases wO:P.info? e with
   |none=>simp[wO]at aJ
   |some hk=>
    simp[wO]at aJ;obtain⟨rfl,rfl⟩:=aJ;refine⟨_,fun br=>?_,dE⟩
    simp[execOp,au,hc,ah.dR hi,Instr.indexAt,asIntOf,run_underlying hu,Instr.sureAddr,aj,sizeOf,typeInfo,wO]
  ·cases aJ
theorem Wk{o:Oper}{S:ay}{t:TypeId}{x i:Operand}{id off:Nat}{r:ee}{e:Env}(au:o.op= .indexAddr t x i)(bf:S.a1 N x= .eV id off)(h:OW P S t id off (S.a1 N i)=some r)(hf:S.cP e)(hn: ∀n∈r.ns,n.ok M e):nP P G o (S.den G N B e) (r.v.den G e):=by
 unfold OW at h
 split at h
 ·rename_i k len n l hi a6 av
  have hC:aP G (S.den G N B e) i=_:=(bR hf i).trans (k9 hi)
  have fj:=CN (G:=G) (N:=N) (B:=B) (e:=e) av
  have kI:aP G (S.den G N B e) x=(af.eV id off).den G e:=by rw[bR hf,bf]
  rw[←kI]at fj
  split at h
  ·rename_i a8 j aj
   split at h
   ·rename_i p dj ar
    cases h;refine Wj t x i au a6 (k:=a8) (j:=j) (by rw[bR hf,aj];rfl) (e9 dj) fj ?_
    have ao:=CO (G:=G) (e:=e) ar
    rw[←ao,kI];rfl
   ·cases h
  ·cases h
   have kD:0≤cN ((S.a1 N i).dyn e)∧cN ((S.a1 N i).dyn e)<(len:Int):=Gy hf hn
   obtain⟨j,aj⟩: ∃j:Nat,cN ((S.a1 N i).dyn e)=(j:Int):=⟨_,(Int.toNat_of_nonneg kD.1).symm⟩;rw[←nT hi,aj]at hC;refine Wj t x i au a6 hC (by omega) fj ?_
   rw[kI];simp only[af.den,jF,aj,Int.toNat_natCast]
 ·cases h
theorem Wl{o:Oper}{S:ay}{t:TypeId}{x:Operand}{lo hi:Option Operand}{r:ee}{e:Env}(au:o.op= .slice t x lo hi none)(h:HO P N S t (S.a1 N x) lo hi=some r)(hf:S.cP e)(hx: ∀(j:Nat) (x:b1),r.xs[j]? =some x→Env.at e (S.k+j)=x.den M e)(hn: ∀n∈r.ns,n.ok M e):nP P G o (S.den G N B e) (r.v.den G e):=by
 unfold HO at h
 split at h
 ·rename_i l h' c n av aV ah nc
  split at h
  ·rename_i ag
   cases h;rw[Nat.eq_of_beq_eq_true ag]at nc
   have aS:Env.at e S.k=_:=hx 0 _ rfl
   simp only[af.den,aS,b1.den,c3];exact T1 c _ au nc ((bR hf x).trans (gP ah)) (zw hf av) (zw hf aV) (hn _ (List.mem_singleton.2 rfl))
  ·cases h
 ·cases h
theorem zgK{ops:Array Oper}{o:Oper}{S:ay}{r:ee}{e:Env}(h:tE P N S o=some r)(hf:S.cP e)(hx: ∀(j:Nat) (x:b1),r.xs[j]? =some x→Env.at e (S.k+j)=x.den M e)(hn: ∀n∈r.ns,n.ok M e)(ai:eS ops (S.den G N B e) o=some true):
 jd P G ops o (S.den G N B e) ((S.den G N B e).put o.dst (r.v.den G e)):=by
 have key:(match r3 P N S o with
  |some r=>match Ab r.v with
   |true=>some r
   |false=>none
  |none=>none)=some r→jd P G ops o (S.den G N B e) ((S.den G N B e).put o.dst (r.v.den G e)):=fun h=>by
  split at h
  ·rename_i eG az
   split at h
   ·rename_i hc
    cases h
    have eC:=w9 (G:=G) (B:=B) (M:=M) az e hf hx hn
    obtain⟨c,zgL⟩:=zgH (G:=G) (e:=e) hc;rw[zgL]at eC⊢;exact jd.sM eC ai
   ·cases h
  ·cases h
 unfold tE at h
 split at h
 ·rename_i x au
  cases h
  have:lu P G o (S.den G N B e)=some ((S.a1 N x).den G e):=by unfold lu;rw[au,←bR hf]
  exact(gL.val this ai).l
 ·rename_i x au
  cases h
  have:lu P G o (S.den G N B e)=some ((S.a1 N x).den G e):=by unfold lu;rw[au,←bR hf]
  exact(gL.val this ai).l
 ·rename_i x au
  split at h
  ·rename_i ar
   cases h
   have:lu P G o (S.den G N B e)=some ((S.a1 N x).den G e):=by
    unfold lu;rw[au];simp only[bR hf,w4 ar]
   exact(gL.val this ai).l
  ·cases h
 ·rename_i t x f au
  split at h
  ·rename_i k an ar
   split at h
   ·rename_i p ao
    cases h
    have:lu P G o (S.den G N B e)=some (p.den G e):=by
     unfold lu;rw[au];simp only[an,bR hf,w4 ar,CO ao]
    exact(gL.val this ai).l
   ·cases h
  ·cases h
 ·rename_i t x au
  split at h
  ·rename_i l av
   split at h
   ·rename_i v az
    cases h
    have hc:=CN (G:=G) (N:=N) (B:=B) (e:=e) av
    have:Gf P G o (S.den G N B e)=some (v.den G e):=by
     unfold Gf;rw[au];simp only[bR hf,hc]
     rcases VB (G:=G) (e:=e) az with⟨n,g1,g2,g3,g4⟩|⟨g1,g2,eG,g3⟩
     ·cases l with
      |nil=>simp at g2;omega
      |cons y l=>
       have ao:scalar P t=false:=zgI g1
       rw[g4];simp only[af.b0,ao,g1];rw[if_pos ⟨by simpa[oP]using g2,g3⟩]
     ·subst g3
      simp only[af.b0,g2]
    exact jd.load this ai
   ·cases h
  ·exact key h
 ·rename_i t x i au
  split at h
  ·rename_i id bf
   exact jd.tH (Wi au bf h hf hx hn) ai
  ·rename_i id off bf
   exact jd.tH (Wk au bf h hf hn) ai
  ·exact jd.tH (Wh au h hf hx hn) ai
 ·rename_i t x lo hi au
  split at h
  ·rename_i eG ao
   cases h;exact jd.tH (Wl au ao hf hx hn) ai
  ·exact key h
 ·exact key h
mutual
theorem Wm{e:Env}: ∀{x:af},af.pure x=true→iK (x.den G e)=true:=fun {x} h=>by
 cases x with
 |cA l=>simp only[af.den,iK];exact Ad (l:=l) h
 |tp l=>simp only[af.den,iK];exact Ad (l:=l) h
 |fn f a b=>
  simp only[af.pure,Bool.and_eq_true]at h;simp only[af.den,iK,Ad h.1,Ad h.2,Bool.and_self]
 |eV k o=>cases h
 |hW k x o=>cases h
 |ia k o x n=>cases h
 |cE k n=>cases h
 |fQ g i o=>cases h
 |aq k=>cases h
 |ie k=>cases h
 |gv g b x=>cases h
 |m9 g o=>cases h
 |top=>cases h
 |_=>rfl
theorem Ad{e:Env}: ∀{l:List af},af.fX l=true→fX (af.b0 G e l)=true:=fun {l} h=>by
 match l with
 |[]=>rfl
 |x::r=>
  simp only[af.fX,Bool.and_eq_true]at h;simp only[af.b0,fX,Wm h.1,Ad h.2,Bool.and_self]
end
def vq(G:aR)(N B:Nat)(M:List bo)(t:aH)(e:Env)(aW:Nat):aQ→Prop:=fun st=>
 ∃aO aD,run M t e=some (.b8,aO,aD)∧aO.cO∧aO.cP aD∧cp aW e aD∧aW≤aO.k∧st=aO.den G N B aD
theorem Wn(cS:gV P G M inl){ops:Array Oper}{o:Oper}{S:ay}{e:Env}(ag:S.cO)(hf:S.cP e)(ao:(tF P N B T inl o S).safe M e)(ai:eS ops (S.den G N B e) o=some true):
 (oW P o=true→OT P G ops o (S.den G N B e) (vq G N B M (tF P N B T inl o S) e S.k))∧(oW P o=false→lE P G ops o (S.den G N B e) (vq G N B M (tF P N B T inl o S) e S.k)):=by
 refine⟨fun hw=>?_,fun hw=>?_⟩
 ·unfold tF at ao⊢
  rw[hw]at ao⊢;simp only at ao⊢
  split at ao
  ·rename_i r aG
   split at ao
   ·rename_i hc
    simp only[Bool.and_eq_true]at hc;obtain⟨hM,gK⟩:=nV ao
    have b4:cp S.k e (dP M e S.k r.xs):=la (Nat.le_refl _)
    have eC:=U5 (G:=G) (M:=M) aG (dP M e S.k r.xs) (jU b4 ag.g hf) (kJ hc.1) hM
    rw[l4 b4 ag]at eC;obtain⟨br,dV⟩:=Vc (M:=M) (o:=o) ag hf hc.1 hc.2.1 hc.2.2;exact fun E a w ah=>⟨mh ah ai,fun K Q hK=>eC E a w ah K Q fun bb w' dF=>hK _ ⟨(r.st S o.dst).fA S.k r.xs,_,nd,br,dV,b4,Nat.le_add_right _ _,rfl⟩ bb w' dF⟩
   ·exact ao.elim
  ·split at ao
   ·rename_i f aI sG
    split at ao
    ·rename_i hJ
     obtain⟨t1,t2,_⟩:=jT ((inl f aI S).eW (sa S o.dst) none) none ao;obtain⟨g1,g2,g3⟩:=jT (inl f aI S) none t1;obtain⟨p,iF,args,oS,oa,bE⟩:=N4 (G:=G) (B:=B) sG hf ag
     have gY:=cS f _ S e ag bE hf g1
     rw[oS]at gY;refine fun E a w ah=>⟨mh ah ai,fun K Q hK=>Up oa hJ gY (s':=fun t=>∃C aF,run M (inl f aI S) e=some (.b8,C,aF)∧C.cO∧C.cP aF∧cp S.k e aF∧S.k≤C.k∧xg S C=true∧t=(S.back o.dst C).den G N B aF) (fun r cc ⟨C,aF,aB,bU,b7,c2,dT,fo,fh⟩=>?_) E a w ah K Q fun t ⟨C,aF,aB,c2,dT,fo,fh,bc,aJ⟩ bb w' dF=>?_⟩
     ·have ai:=(g3 C aF aB).1
      have bc:xg S C=true:=by
       unfold sa at ai
       split at ai
       ·assumption
       ·exact ai.elim
      have eH:=bc
      simp only[xg,Bool.and_eq_true]at eH;refine⟨C.n,Nat.le_of_ble_eq_true eH.2.1,?_,?_,?_,C,aF,aB,c2,dT,fo,fh,bc,?_⟩
      ·rw[bU];exact C4 eH.1.1
      ·rw[b7];exact xh eH.1.2
      ·rw[b7];exact Vb eH.2.2
      ·rw[bU,b7,ay.back,fL]
       have:=l4 (G:=G) (N:=N) (B:=B) fo ag
       have uP:ke G aF S.l 0 N=ke G e S.l 0 N:=congrArg aQ.db this
       simp only[ay.den,uP]
     ·subst aJ
      have cy:run M ((inl f aI S).eW (sa S o.dst) none) e=some (.b8,S.back o.dst C,aF):=by
       rw[g2,aB];simp only[jB,sa,bc];rfl
      have pL:(S.back o.dst C).cO:=by
       unfold ay.back;refine kM ⟨fun i x hx=>hE fh (ag.l i x hx),c2.h,c2.g⟩ ?_
       show(C.at 0).lt C.k=true;unfold ay.at
       cases hQ:C.l.get 0 with
       |none=>rfl
       |some y=>exact c2.l 0 y hQ
      have fv:(S.back o.dst C).cP aF:=kN dT
      have sD:S.k≤(S.back o.dst C).k:=by unfold ay.back;rw[kO];exact fh
      obtain⟨hM,gK,mS,N6⟩:=Vd (G:=G) (N:=N) (B:=B) (S:=S) pL fv;obtain⟨iP,lV,N7,pM⟩:=Vf (G:=G) (N:=N) (B:=B) (S:=S) (dst:=o.dst) hM gK;refine hK _ ⟨tz B N S (tx B S (S.back o.dst C)) o.dst,aF,?_,iP,lV,fo,by rw[N7,mS];exact sD,rfl⟩ bb w' (bV.trans N6 pM E G bb w' dF)
      rw[t2,cy];rfl
    ·exact ao.elim
   ·exact ao.elim
 ·unfold tF at ao⊢
  rw[hw]at ao⊢;simp only at ao⊢
  split at ao
  ·rename_i r az
   split at ao
   ·rename_i hc
    simp only[Bool.and_eq_true]at hc;obtain⟨hM,gK⟩:=nV ao;obtain⟨ct,a2,a3⟩:=tB (M:=M) (G:=G) (N:=N) (B:=B) ag hf hc.1
    have b4:cp S.k e (dP M e S.k r.xs):=la (Nat.le_refl _)
    have eC:=w9 (G:=G) (B:=B) (M:=M) az (dP M e S.k r.xs) (jU b4 ag.g hf) (kJ hc.1) hM
    rw[l4 b4 ag]at eC;exact lE.v eC ai ⟨(S.fA S.k r.xs).put o.dst r.v,_,nd,kM ct hc.2,kN a2,b4,by rw[kO];exact Nat.le_add_right _ _,by rw[fL,a3]⟩
   ·exact ao.elim
  ·split at ao
   ·rename_i f aI sG
    split at ao
    ·rename_i hJ
     simp only[Bool.and_eq_true]at hJ;obtain⟨hJ,A2⟩:=hJ;obtain⟨g1,g2,g3⟩:=jT (inl f aI ⟨.emp,[],0,S.k,S.g⟩) none ao;obtain⟨p,iF,args,oS,oa,bE⟩:=N4 (G:=G) (B:=B) sG hf ag
     have zgM:(⟨.emp,[],0,S.k,S.g⟩:ay).cO:=⟨fun i x hx=>by simp[bd.get]at hx,rfl,ag.g⟩
     have gY:=cS f _ ⟨.emp,[],0,S.k,S.g⟩ e zgM bE hf g1
     have Ae:=Ad (G:=G) (e:=e) A2
     rw[oS]at gY Ae;refine lE.call oa hJ ai Ae gY fun r cc ⟨C,aF,aB,bU,b7,c2,dT,fo,fh⟩=>?_
     have ar:=(g3 C aF aB).1
     have kn:af.pure (C.at 0)=true:=by
      unfold OY at ar
      split at ar
      ·assumption
      ·exact ar.elim
     refine⟨by rw[bU];exact Wm kn,(⟨S.l,S.h,S.n,C.k,C.g⟩:ay).put o.dst (C.at 0),aF,?_,?_,kN dT,fo,by rw[kO];exact fh,?_⟩
     ·rw[g2,aB]
      simp only[jB,OY,kn];rfl
     ·refine kM ⟨fun i x hx=>hE fh (ag.l i x hx),w0 fh ag.h,c2.g⟩ ?_
      show(C.at 0).lt C.k=true;unfold ay.at
      cases hQ:C.l.get 0 with
      |none=>rfl
      |some y=>exact c2.l 0 y hQ
     ·rw[fL,bU]
      have:=l4 (G:=G) (N:=N) (B:=B) (S:=S) fo ag
      have ae:(ay.mk S.l S.h S.n C.k C.g).den G N B aF=S.den G N B e:=this
      rw[ae]
    ·exact ao.elim
   ·exact ao.elim
theorem zgN{o:Oper}{S:ay}{e:Env}(ag:S.cO)(hf:S.cP e):vq G N B M (.dc .b8 (S.put o.dst (.tp []))) e S.k ((S.den G N B e).put o.dst (.tuple [])):=
 ⟨S.put o.dst (.tp []),e,rfl,kM ag rfl,kN hf,cp.refl _ _,by rw[kO];exact Nat.le_refl _,by rw[fL];rfl⟩
theorem lE.mono{ops:Array Oper}{o:Oper}{s:aQ}{A Wo:aQ→Prop}(h:lE P G ops o s A)(eh: ∀t,A t→Wo t):lE P G ops o s Wo:=fun E a w ah=>by
 rcases h E a w ah with⟨ab,ae⟩|⟨ab,t,ae,aw⟩
 ·exact .inl ⟨ab,fun K Q hK=>ae K Q fun t aJ=>hK t (eh t aJ)⟩
 ·exact .inr ⟨ab,t,eh t ae,aw⟩
theorem Wp(cS:gV P G M inl){ops:Array Oper}{o:Oper}{S:ay}{e:Env}(ag:S.cO)(hf:S.cP e)(ao:(sd P N B T inl ops o S).safe M e):
 (oW P o=true→OT P G ops o (S.den G N B e) (vq G N B M (sd P N B T inl ops o S) e S.k))∧(oW P o=false→lE P G ops o (S.den G N B e) (vq G N B M (sd P N B T inl ops o S) e S.k)):=by
 have ai:=N9 (G:=G) (N:=N) (B:=B) (ops:=ops) (o:=o) hf
 unfold sd at ao⊢
 cases kh:guardOf N ops S o with
 |yes=>
  rw[kh]at ai ao;exact Wn cS ag hf ao ai
 |no=>
  rw[kh]at ai ao;simp only at ao⊢
  split at ao
  ·rename_i hw
   exact⟨fun h=>(by rw[hw]at h;cases h),fun _=>.no ai (zgN ag hf)⟩
  ·exact ao.elim
 |bad=>rw[kh]at ao;exact ao.elim
 |on gs=>
  rw[kh]at ai ao;simp only at ao⊢;obtain⟨g1,g2⟩:=ai
  split at ao
  ·rename_i Wq
   simp only[Bool.and_eq_true,Bool.not_eq_true']at Wq;obtain⟨kY,hw⟩:=Wq;refine⟨fun h=>(by rw[hw]at h;cases h),fun _=>?_⟩
   split at ao
   ·rename_i q az
    split at ao
    ·rename_i hc
     simp only[Bool.and_eq_true]at hc;obtain⟨hM,gK⟩:=nV ao;obtain⟨ct,a2,a3⟩:=tB (M:=M) (G:=G) (N:=N) (B:=B) ag hf hc.1
     have b4:cp S.k e (dP M e S.k q.xs):=la (Nat.le_refl _)
     have jP:gz (dP M e S.k q.xs) gs=gz e gs:=Hn b4 kY
     have an:S.k≤S.k+q.xs.length:=Nat.le_add_right _ _
     have qW:(lC gs q.v).lt (S.k+q.xs.length)=true:=Hl (Hm an kY) hc.2
     have hB: ∀t,t=(S.den G N B e).put o.dst ((lC gs q.v).den G (dP M e S.k q.xs))→vq G N B M (emit S.k q.xs (q.ns.map (r8 gs)) (.dc .b8 ((S.fA S.k q.xs).put o.dst (lC gs q.v)))) e S.k t:=fun t aJ=>
      ⟨(S.fA S.k q.xs).put o.dst (lC gs q.v),_,nd,kM ct qW,kN a2,b4,by rw[kO];exact Nat.le_add_right _ _,by rw[fL,a3,aJ]⟩
     cases gd:gz e gs with
     |true=>
      have jH:=zO hf gd
      have ir:=zN ag kY
      have eC:=w9 (G:=G) (B:=B) (M:=M) az (dP M e S.k q.xs) (jU b4 ir.g jH) (kJ hc.1) fun n hn=>Hq (hM (r8 gs n) (List.mem_map.2 ⟨n,hn,rfl⟩)) (jP.trans gd)
      have zS:({S with g:=iD gs S.g}:ay).den G N B (dP M e S.k q.xs)=S.den G N B e:=l4 (S:={S with g:=iD gs S.g}) b4 ir
      rw[zS]at eC;exact lE.v eC (g1 gd) (hB _ (by rw[Ho (jP.trans gd)]))
     |false=>exact lE.no (g2 gd) (hB _ (by rw[Hp (jP.trans gd)]))
    ·exact ao.elim
   ·cases gd:gz e gs with
    |false=>
     obtain⟨er,dp,di,hN⟩:=Oc (M:=M) (x:=tF P N B T inl o {S with g:=iD gs S.g}) (y:=tA S o.dst) (l:=S.g) gd kY ag.g hf
     obtain⟨aO,tu,q4,yp,Of,sQ⟩:=Vm (G:=G) (N:=N) (B:=B) (dst:=o.dst) ag di hN;exact lE.no (g2 gd) ⟨aO,e,by rw[dp,tu];rfl,q4,yp,cp.refl _ _,Of,sQ.symm⟩
    |true=>
     have jH:=zO hf gd
     have ir:=zN ag kY
     obtain⟨f1,f2⟩:=Ob (M:=M) (x:=tF P N B T inl o {S with g:=iD gs S.g}) (y:=tA S o.dst) (l:=S.g) gd
     refine lE.mono ((Wn cS (S:={S with g:=iD gs S.g}) ir jH (f2 ao) (g1 gd)).2 hw) fun t ⟨aO,aD,ab,ae⟩=>⟨aO,aD,?_,ae⟩
     rw[f1];exact ab
  ·exact ao.elim
theorem Wr{ops:Array Oper}{o:Oper}{S:ay}{e:Env}{k:ay→aH}(X:aQ→aQ→Prop)(c:ay→Prop)
 (av: ∀(S:ay) (r:ee) (e:Env),c S→tE P N S o=some r→S.cP e→(∀(j:Nat) (x:b1),r.xs[j]? =some x→Env.at e (S.k+j)=x.den M e)→(∀n∈r.ns,n.ok M e)→eS ops (S.den G N B e) o=some true→X (S.den G N B e) ((S.den G N B e).put o.dst (r.v.den G e)))
 (an: ∀s,eS ops s o=some false→X s (s.put o.dst (.tuple [])))(hQ:guardOf N ops S o= .yes→c S)(yT: ∀gs,guardOf N ops S o= .on gs→c {S with g:=iD gs S.g})(ag:S.cO)(hf:S.cP e)(ao:(vp P N ops o S k).safe M e):
 ∃aO aD,aO.cO∧aO.cP aD∧cp S.k e aD∧S.k≤aO.k∧(k aO).safe M aD∧run M (vp P N ops o S k) e=run M (k aO) aD∧X (S.den G N B e) (aO.den G N B aD):=by
 have ai:=N9 (G:=G) (N:=N) (B:=B) (ops:=ops) (o:=o) hf
 unfold vp at ao⊢
 cases kh:guardOf N ops S o with
 |bad=>rw[kh]at ao;exact ao.elim
 |no=>
  rw[kh]at ai ao
  have:=an _ ai
  exact⟨S.put o.dst (.tp []),e,kM ag rfl,kN hf,cp.refl _ _,by rw[kO];exact Nat.le_refl _,ao,rfl,by rw[fL];exact this⟩
 |yes=>
  rw[kh]at ai ao;simp only at ao⊢
  split at ao
  ·rename_i q az
   split at ao
   ·rename_i hc
    simp only[Bool.and_eq_true]at hc;obtain⟨hM,gK⟩:=nV ao;obtain⟨ct,a2,a3⟩:=tB (M:=M) (G:=G) (N:=N) (B:=B) ag hf hc.1
    have b4:cp S.k e (dP M e S.k q.xs):=la (Nat.le_refl _)
    have hd:=l4 (G:=G) (N:=N) (B:=B) b4 ag
    have eC:=av _ _ _ (hQ kh) az (jU b4 ag.g hf) (kJ hc.1) hM (by rw[hd];exact ai)
    rw[hd]at eC;exact⟨(S.fA S.k q.xs).put o.dst q.v,_,kM ct hc.2,kN a2,b4,by rw[kO];exact Nat.le_add_right _ _,gK,nd,by rw[fL,a3];exact eC⟩
   ·exact ao.elim
  ·exact ao.elim
 |on gs=>
  rw[kh]at ai ao;simp only at ao⊢;obtain⟨g1,g2⟩:=ai
  split at ao
  ·rename_i kY
   split at ao
   ·rename_i q az
    split at ao
    ·rename_i hc
     simp only[Bool.and_eq_true]at hc;obtain⟨hM,gK⟩:=nV ao;obtain⟨ct,a2,a3⟩:=tB (M:=M) (G:=G) (N:=N) (B:=B) ag hf hc.1
     have b4:cp S.k e (dP M e S.k q.xs):=la (Nat.le_refl _)
     have jP:gz (dP M e S.k q.xs) gs=gz e gs:=Hn b4 kY
     have sD:S.k≤S.k+q.xs.length:=Nat.le_add_right _ _
     have qW:(lC gs q.v).lt (S.k+q.xs.length)=true:=Hl (Hm sD kY) hc.2
     refine⟨(S.fA S.k q.xs).put o.dst (lC gs q.v),_,kM ct qW,kN a2,b4,by rw[kO];exact Nat.le_add_right _ _,gK,nd,?_⟩
     rw[fL,a3]
     cases gd:gz e gs with
     |true=>
      have jH:=zO hf gd
      have ir:=zN ag kY
      have zS:({S with g:=iD gs S.g}:ay).den G N B (dP M e S.k q.xs)=S.den G N B e:=l4 (S:={S with g:=iD gs S.g}) b4 ir
      have eC:=av _ _ _ (yT gs kh) az (jU b4 ir.g jH) (kJ hc.1) (fun n hn=>Hq (hM (r8 gs n) (List.mem_map.2 ⟨n,hn,rfl⟩)) (jP.trans gd)) (by rw[zS];exact g1 gd)
      rw[zS]at eC;rw[Ho (jP.trans gd)];exact eC
     |false=>
      rw[Hp (jP.trans gd)];exact an _ (g2 gd)
    ·exact ao.elim
   ·exact ao.elim
  ·exact ao.elim
theorem zgO{ops:Array Oper}{o:Oper}{S:ay}{e:Env}{k:ay→aH}(ag:S.cO)(hf:S.cP e)(ao:(vp P N ops o S k).safe M e):
 ∃aO aD,aO.cO∧aO.cP aD∧cp S.k e aD∧S.k≤aO.k∧(k aO).safe M aD∧run M (vp P N ops o S k) e=run M (k aO) aD∧jd P G ops o (S.den G N B e) (aO.den G N B aD):=
 Wr (jd P G ops o) (fun _=>True) (fun _ _ _ _ az hf hx hn ai=>zgK az hf hx hn ai) (fun _ h=>(gL.skip h).l) (fun _=>trivial) (fun _ _=>trivial) ag hf ao
theorem gL.tH{ops:Array Oper}{o:Oper}{s:aQ}{v:aC}(h:nP P G o s v)(ai:eS ops s o=some true):gL P G ops o s (s.put o.dst v):=by
 intro E a w ⟨β,ro,ah⟩
 have hw:=mh (ops:=ops) ⟨β,ro,ah⟩ ai
 obtain⟨c,ab,ae⟩:=h E a w β ro ah
 exact⟨c,.inl ⟨hw,ab⟩,β,ro,ah.put _ _ _ ae⟩
theorem zgP{ops:Array Oper}{o:Oper}{S:ay}{r:ee}{e:Env}(ar:pop P N S o=true)(h:tE P N S o=some r)(hf:S.cP e)(hx: ∀(j:Nat) (x:b1),r.xs[j]? =some x→Env.at e (S.k+j)=x.den M e)(hn: ∀n∈r.ns,n.ok M e)(ai:eS ops (S.den G N B e) o=some true):
 gL P G ops o (S.den G N B e) ((S.den G N B e).put o.dst (r.v.den G e)):=by
 unfold tE at h
 unfold pop at ar
 split at h
 ·rename_i x au
  cases h
  have:lu P G o (S.den G N B e)=some ((S.a1 N x).den G e):=by unfold lu;rw[au,←bR hf]
  exact gL.val this ai
 ·rename_i x au
  cases h
  have:lu P G o (S.den G N B e)=some ((S.a1 N x).den G e):=by unfold lu;rw[au,←bR hf]
  exact gL.val this ai
 ·rename_i x au
  split at h
  ·rename_i aG
   cases h
   have:lu P G o (S.den G N B e)=some ((S.a1 N x).den G e):=by
    unfold lu;rw[au];simp only[bR hf,w4 aG]
   exact gL.val this ai
  ·cases h
 ·rename_i t x f au
  split at h
  ·rename_i k an aG
   split at h
   ·rename_i p ao
    cases h
    have:lu P G o (S.den G N B e)=some (p.den G e):=by
     unfold lu;rw[au];simp only[an,bR hf,w4 aG,CO ao]
    exact gL.val this ai
   ·cases h
  ·cases h
 ·rename_i t x au
  rw[au]at ar;cases ar
 ·rename_i t x i au
  split at h
  ·rename_i id bf
   exact gL.tH (Wi au bf h hf hx hn) ai
  ·rename_i id off bf
   exact gL.tH (Wk au bf h hf hn) ai
  ·exact gL.tH (Wh au h hf hx hn) ai
 ·rename_i t x lo hi au
  split at h
  ·rename_i eG ao
   cases h;exact gL.tH (Wl au ao hf hx hn) ai
  ·rename_i ao
   rw[au]at ar;simp only[ao,Option.isSome_none]at ar;cases ar
 ·rename_i ab ae aw aM bn cl dW
  split at ar
  ·rename_i x au;exact absurd au (ab x)
  ·rename_i x au;exact absurd au (ae x)
  ·rename_i x au;exact absurd au (aw x)
  ·rename_i t x f au;exact absurd au (aM t x f)
  ·rename_i t x i au;exact absurd au (cl t x i)
  ·rename_i t x lo hi au;exact absurd au (dW t x lo hi)
  ·cases ar
theorem zgQ{ops:Array Oper}{o:Oper}{S:ay}{e:Env}{k:ay→aH}(ar:Ac P N ops S o=true)(ag:S.cO)(hf:S.cP e)(ao:(vp P N ops o S k).safe M e):
 ∃aO aD,aO.cO∧aO.cP aD∧cp S.k e aD∧S.k≤aO.k∧(k aO).safe M aD∧run M (vp P N ops o S k) e=run M (k aO) aD∧gL P G ops o (S.den G N B e) (aO.den G N B aD):=
 Wr (gL P G ops o) (fun S=>pop P N S o=true) (fun _ _ _ hc az hf hx hn ai=>zgP hc az hf hx hn ai) (fun _ h=>gL.skip h)
  (fun ai=>by unfold Ac at ar;rw[ai]at ar;exact ar) (fun gs ai=>by unfold Ac at ar;rw[ai]at ar;exact ar) ag hf ao
theorem zgR{x y:ck}(h:OZ x y=true):x=y:=by
 unfold OZ at h
 split at h
 ·simp only[Bool.and_eq_true,decide_eq_true_eq]at h;rw[Nat.eq_of_beq_eq_true h.1,h.2.1,ew h.2.2]
 ·simp only[Bool.and_eq_true,decide_eq_true_eq]at h
  obtain⟨⟨ab,ae⟩,aw,aM⟩:=h
  cases Nat.eq_of_beq_eq_true ab;cases ae;rw[ew aw,ew aM]
 ·simp only[Bool.and_eq_true]at h;rw[Nat.eq_of_beq_eq_true h.1,ew h.2]
 ·simp only[Bool.and_eq_true,decide_eq_true_eq]at h;rw[ew h.1,h.2]
 ·cases h
theorem Ws: ∀{l m:List ck},HQ l m=true→l=m
 |[],[],_=>rfl
 |[],_::_,h=>by cases h
 |_::_,[],h=>by cases h
 |x::l,y::m,h=>by
  simp only[HQ,Bool.and_eq_true]at h;rw[zgR h.1,Ws h.2]
theorem zgS{x y:bQ}(h:O0 x y=true):x=y:=by
 unfold O0 at h
 split at h
 ·simp only[Bool.and_eq_true]at h;rw[Nat.eq_of_beq_eq_true h.1,qY h.2]
 ·simp only[Bool.and_eq_true,decide_eq_true_eq]at h;rw[Nat.eq_of_beq_eq_true h.1,h.2.1,ew h.2.2]
 ·simp only[Bool.and_eq_true,decide_eq_true_eq]at h;rw[h.1,ew h.2.1,ew h.2.2]
 ·cases h
theorem Wt: ∀{l m:List (Nat × bQ)},HR l m=true→l=m
 |[],[],_=>rfl
 |[],_::_,h=>by cases h
 |_::_,[],h=>by cases h
 |(i,x)::l,(j,y)::m,h=>by
  simp only[HR,Bool.and_eq_true]at h;rw[Nat.eq_of_beq_eq_true h.1,zgS h.2.1,Wt h.2.2]
theorem O5: ∀{l m:bd af},Dr l m=true→l=m
 | .emp,.emp,_=>rfl
 | .emp,.n _ _ _,h=>by cases h
 | .n _ _ _,.emp,h=>by cases h
 | .n v l r,.n w m s,h=>by
  simp only[Dr,Bool.and_eq_true]at h;rw[O5 h.2.1,O5 h.2.2]
  have ab:=h.1
  cases v<;>cases w<;>first|rfl|(cases ab;done)|(rw[ew ab])
theorem zgT{S U:ay}(h:O1 S U=true):S=U:=by
 obtain⟨ct,a2,a3,a4,a5⟩:=S
 obtain⟨fV,h3,iB,vb,zy⟩:=U
 simp only[O1,Bool.and_eq_true]at h
 obtain⟨⟨ab,ae⟩,⟨aw,aM⟩,bn⟩:=h
 rw[O5 ab,Wt ae,Nat.eq_of_beq_eq_true aw,Nat.eq_of_beq_eq_true aM,Ws bn]
theorem vr: ∀{x y:Option af},tG x y=true→x=y
 |none,none,_=>rfl
 |some x,some y,h=>by rw[ew (x:=x) (y:=y) h]
 |none,some _,h=>by cases h
 |some _,none,h=>by cases h
theorem zgU{x y:b1}(h:O2 x y=true):x=y:=by
 unfold O2 at h
 split at h<;>(try simp only[Bool.and_eq_true,decide_eq_true_eq]at h)
 ·rw[Nat.eq_of_beq_eq_true h.1,qY h.2]
 ·rw[h.1,Nat.eq_of_beq_eq_true h.2.1,Nat.eq_of_beq_eq_true h.2.2]
 ·obtain⟨ab,ae⟩:=h;subst ab;rw[ew ae]
 ·obtain⟨ab,ae,aw⟩:=h;subst ab;rw[ew ae,ew aw]
 ·obtain⟨⟨ab,ae⟩,aw,aM⟩:=h;subst ab ae;rw[ew aw,ew aM]
 ·obtain⟨⟨ab,ae⟩,aw,aM⟩:=h;subst ab ae;rw[ew aw,ew aM]
 ·obtain⟨ab,ae⟩:=h;subst ab;rw[ew ae]
 ·obtain⟨⟨ab,ae⟩,aw,aM⟩:=h;subst ab;rw[ew ae,vr aw,vr aM]
 ·obtain⟨ae,aw,aM⟩:=h;rw[ew ae,vr aw,vr aM]
 ·obtain⟨ab,ae⟩:=h;subst ab;rw[qY ae]
 ·obtain⟨⟨ab,ae⟩,aw,aM⟩:=h;subst ab;rw[ew ae,ew aw,ew aM]
 ·obtain⟨ab,ae⟩:=h;subst ab;rw[ew ae]
 ·obtain⟨ab,ae,aw⟩:=h;subst ab;rw[qY ae,ew aw]
 ·cases h
theorem zgV{x y:gE}(h:O3 x y=true):x=y:=by
 unfold O3 at h
 split at h<;>(try simp only[Bool.and_eq_true,decide_eq_true_eq]at h)
 ·obtain⟨⟨ab,ae⟩,aw,aM⟩:=h;subst ae;rw[Nat.eq_of_beq_eq_true ab,ew aw,ew aM]
 ·rw[Nat.eq_of_beq_eq_true h.1,qY h.2]
 ·rw[Nat.eq_of_beq_eq_true h.1,ew h.2]
 ·obtain⟨⟨ab,ae⟩,aw,aM⟩:=h;subst ab;rw[ew ae,vr aw,vr aM]
 ·obtain⟨ae,aw,aM⟩:=h;rw[ew ae,vr aw,vr aM]
 ·obtain⟨ab,ae,aw⟩:=h;subst ab;rw[ew ae,ew aw]
 ·rw[Nat.eq_of_beq_eq_true h.1,ew h.2.1,ew h.2.2]
 ·cases h
theorem zgW: ∀{t u:aH},se t u=true→t=u:=fun {t}=>by
 induction t with
 |dc x S=>
  intro u h;unfold se at h
  split at h<;>first|(cases h;done)|skip
  all_goals rename_i heq
  all_goals first|(cases heq;rw[zgT h];done)|cases heq
 |lt i x t aY=>
  intro u h
  cases u with
  |lt j y u=>
   simp only[se,Bool.and_eq_true]at h;rw[Nat.eq_of_beq_eq_true h.1,zgU h.2.1,aY h.2.2]
  |_=>simp[se]at h
 |fF n t aY=>
  intro u h
  cases u with
  |fF m u=>
   simp only[se,Bool.and_eq_true]at h;rw[zgV h.1,aY h.2]
  |_=>simp[se]at h
 |_=>intro u h;simp[se]at h
theorem zgX{l:List aH}{e:Env}(h:(Ds l).safe M e): ∃S,Ds l=S∧∀t∈l,t=S:=by
 unfold Ds at h⊢
 split at h
 ·rename_i t r
  split at h
  ·rename_i ao
   refine⟨t,by simp only[ao],fun u hu=>?_⟩
   rcases List.mem_cons.1 hu with rfl|hu
   ·rfl
   ·exact(zgW (List.all_eq_true.1 ao u hu)).symm
  ·exact h.elim
 ·exact h.elim
theorem Dt(cS:gV P G M inl){L:List Oper}{wr:List Bool}(kZ:Region.noSelect L.toArray=true){Q:Exit→aQ→Prop}: ∀(n:Nat) (m:List Bool) {S:ay} {e:Env},S.cO→S.cP e→(sf P N B T inl L.toArray wr n m S).safe M e→(∀st,kL G N B M (sf P N B T inl L.toArray wr n m S) e S.k .normal st→Q .normal st)→eN P G L Q wr n m (S.den G N B e)
 |0,m,S,e,ag,hf,ao,ed=>by
  unfold sf at ao ed
  split at ao
  ·rename_i ah
   rw[ah]at ed;exact eN.done (ed _ ⟨.b8,S,e,rfl,trivial,bV.refl _,ag,hf,cp.refl _ _,Nat.le_refl _⟩) ah
  ·exact ao.elim
 |n+1,m,S,e,ag,hf,ao,ed=>by
  unfold sf at ao ed;simp only[HS]at ao ed
  cases ah:Region.ready .any L.toArray m.toArray with
  |nil=>
   rw[ah]at ed;exact eN.done (ed _ ⟨.b8,S,e,rfl,trivial,bV.refl _,ag,hf,cp.refl _ _,Nat.le_refl _⟩) ah
  |cons i rd=>
   rw[ah]at ao ed;simp only at ao ed
   split at ao
   ·rename_i j qB
    rw[qB]at ed;simp only at ed
    split at ao
    ·rename_i o au hc
     rw[au,hc]at ed;simp only[Bool.and_eq_true,Bool.not_eq_true']at hc;simp only at ed
     split at ao
     ·rename_i Ae
      rw[Ae]at ed;simp only at ed
      cases Wu:Ac P N L.toArray S o with
      |true=>
       obtain⟨aO,aD,s1,s2,iQ,jf,jg,ku,nF⟩:=zgQ (G:=G) (B:=B) Wu ag hf ao;exact eN.RQ j (by simpa using au) nF (Dt cS kZ n (m.set j true) s1 s2 jg fun st ar=>ed st (ar.sub ku iQ jf)) kZ hc.2.1 (by rw[ah];exact hc.1) hc.2.2
      |false=>
       rw[Wu,Bool.false_or]at Ae;obtain⟨aO,aD,s1,s2,iQ,jf,jg,ku,nF⟩:=zgO (G:=G) (B:=B) ag hf ao;exact eN.zgC j (by simpa using au) nF (Dt cS kZ n (m.set j true) s1 s2 jg fun st ar=>ed st (ar.sub ku iQ jf)) kZ hc.2.1 (by rw[ah];exact hc.1) Ae
     ·exact ao.elim
    ·exact ao.elim
   ·rename_i qB
    rw[qB]at ed;simp only at ed
    split at ao
    ·rename_i o au
     rw[au]at ed;simp only at ed
     split at ao
     ·rename_i sg
      rw[sg]at ed
      have sg:=of_decide_eq_true sg
      simp only at ed;obtain⟨t1,_,t3⟩:=NQ (G:=G) (B:=B) ag hf ao
      have next: ∀t,vq G N B M (sd P N B T inl L.toArray o S) e S.k t→eN P G L Q wr n (m.set i true) t:=fun t ⟨aO,aD,ab,ae,aw,aM,bn,cl⟩=>by
       subst cl;obtain⟨dr,bg,dp,di,hN,oT,vt,vu,tI⟩:=t3 aO aD ab ae aw aM bn
       have:=Dt cS kZ n (m.set i true) di hN vu fun st ar=>ed st (ar.sub tI oT vt)
       exact fun E a w ah=>this E a w (dp E G a w ah)
      obtain⟨a7,zI⟩:=Wp (G:=G) (B:=B) (T:=T) cS ag hf t1
      cases hw:oW P o with
      |true=>exact eN.zgD (by simpa using au) ah (sg.trans hw) (a7 hw) next
      |false=>exact eN.one (by simpa using au) ah (sg.trans hw) (zI hw) next
     ·exact ao.elim
    ·rename_i _ rd _ _ gQ
     have Wv: ∀st,kL G N B M (Ds ((i::rd).map fun j=>match L.toArray[j]? with
      |some o=>match decide (wr.getD j false=oW P o)with
       |true=>r6 N S o.dst (HP N L.toArray S o) (sd P N B T inl L.toArray o S) (sf P N B T inl L.toArray wr n (m.set j true))
       |false=>.bad 78
      |none=>.bad 77)) e S.k .normal st→Q .normal st:=fun st ar=>ed st (by
      split
      ·rename_i cb lS;exact(gQ cb rfl lS).elim
      ·exact ar)
     clear ed;obtain⟨U,u3,fi⟩:=zgX ao;rw[u3]at Wv ao;refine eN.any (by rw[ah];simp) fun j aj=>?_
     rw[ah]at aj
     have Af:=fi _ (List.mem_map.2 ⟨j,aj,rfl⟩)
     split at Af
     ·rename_i o au
      split at Af
      ·rename_i sg
       have sg:=of_decide_eq_true sg
       have fK:(r6 N S o.dst (HP N L.toArray S o) (sd P N B T inl L.toArray o S) (sf P N B T inl L.toArray wr n (m.set j true))).safe M e:=by rw[Af];exact ao
       obtain⟨t1,_,t3⟩:=NQ (G:=G) (B:=B) ag hf fK;refine⟨o,by simpa using au,vq G N B M (sd P N B T inl L.toArray o S) e S.k,fun t ⟨aO,aD,ab,ae,aw,aM,bn,cl⟩=>?_,fun E a w dE=>?_⟩
       ·subst cl
        obtain⟨dr,bg,dp,di,hN,oT,vt,vu,tI⟩:=t3 aO aD ab ae aw aM bn
        have:=Dt cS kZ n (m.set j true) di hN vu fun st ar=>Wv st (by rw[←Af];exact ar.sub tI oT vt)
        exact fun E a w ah=>this E a w (dp E G a w ah)
       ·obtain⟨a7,zI⟩:=Wp (G:=G) (B:=B) (T:=T) cS ag hf t1
        cases hw:oW P o with
        |true=>
         obtain⟨y1,tl⟩:=a7 hw E a w dE;exact .inl ⟨y1,fun K Q hK=>tl K Q fun t aJ bb w' dF=>hK t aJ bb w' dF (.inl (sg.trans hw))⟩
        |false=>
         rcases zI hw E a w dE with⟨y1,tl⟩|⟨y1,tl⟩
         ·exact .inl ⟨y1,fun K Q hK=>tl K Q fun t aJ bb w' dF an=>hK t aJ bb w' dF (.inr an)⟩
         ·exact .inr ⟨sg.trans hw,y1,tl⟩
      ·rw[←Af]at ao;exact ao.elim
     ·rw[←Af]at ao;exact ao.elim
theorem zgY(cS:gV P G M inl):Ol P G N B M (O4 P N B T inl):=by
 intro id ops S e ag hf ao
 have h4:ops=ops.toList.toArray:=by simp
 rw[h4]at ao⊢
 generalize ops.toList=L at ao⊢
 unfold O4 at ao⊢
 split at ao
 ·rename_i hc
  simp only[Bool.and_eq_true]at hc;rw[HS]at ao⊢;refine b2.RR _ (Dt cS hc.2 _ _ ag hf ao fun st ar=>ar) hc.1 (by simp)
 ·exact ao.elim
def rI.all(P:Program)(T:List (Nat × bX)):rI:=⟨fun N B _=>OP N B,fun N B inl=>O4 P N B T inl⟩
theorem zbu:Oq P G M (rI.all P T):=fun _ cS _ _=>⟨zgz,zgY cS⟩
end
end Go.aK
namespace Go.aK
open Go
section
variable {P:Program} {G:aR} {f:FuncId} {args:List aC} {σ:Heap} {n:Nat} {R:aC→Heap→Prop}
theorem eJ.arg{td:List aC}(h:eJ P G f args σ n R)(a6:gu td args):eJ P G f td σ n R:=by
 intro w β ro dJ ab ae aw aM bn
 refine h w β ro dJ (by rw[ab,a6.at.1]) (fun i x hx=>?_) aw aM bn
 obtain⟨y,aA,ao⟩:=a6.at.2 i x hx
 exact ao _ _ _ _ _ _ (ae i y aA)
theorem eJ.res{pj:aC→Heap→Prop}(h:eJ P G f args σ n R)(aG: ∀r cc,R r cc→pj r cc):eJ P G f args σ n pj:=by
 intro w β ro dJ ab ae aw aM bn
 refine Calls.mono (h w β ro dJ ab ae aw aM bn) fun e w' ⟨v,iP,cU,cK,ro',bL,he,cl,m5⟩=>?_
 exact⟨v,iP,cU,cK,ro',bL,he,aG _ _ cl,m5⟩
theorem nM(β:Nat→Value)(b:Nat): ¬Own ([]:Heap) β b:=fun⟨_,_,ai,_⟩=>by simp[aE]at ai
theorem eJ.frame(h:eJ P G f args [] 0 R)(ar:fX args=true)(ib: ∀r cc,R r cc→iK r=true):eJ P G f args σ n fun r cc=>cc=σ∧∃gl,R r gl:=by
 intro w β ro dJ ab ae aw aM bn
 refine Calls.mono (h w β ro dJ ab (fun i x hx=>pw (ae i x hx) (pv ar hx)) ⟨by simp[aE],by simp[aE],fun b _=>nM β b,aw.lt⟩ aM (by simp[aE])) fun e w' ⟨v,r,gl,cK,ro',bL,he,ah,dE,gf,cI⟩=>?_
 have oF: ∀b,b<w.heap.size→w'.heap[b]? =w.heap[b]? :=fun b ag=>cI.frame b ag (nM β b)
 have h5:dn ⟨w,ro,σ,β,n,[]⟩ G ⟨[],σ,n,n⟩ ⟨#[],[]⟩ w β ro:=⟨rfl,rfl,by simp,aw,aM,⟨rfl,rfl,rfl,Nat.le_refl _,fun _ _ _=>rfl,fun _ h=>.inl h,fun _ h=>h,fun _ h=>.inl h,fun id _ o ai=>⟨by simp[ai],rfl⟩,bn,Nat.le_refl _⟩,Nat.le_refl _⟩
 have dG:=h5.grow (w':=w') (ro':=ro') cI.os cI.tape cI.output cI.size oF cI.gA (fun b ag=>by
  rcases cI.hz b ag with q|q|q
  ·exact .inl q
  ·exact absurd q (nM β b)
  ·exact .inr ⟨q,gf.lt b ag⟩)
 exact⟨v,r,σ,β,ro',n,he,⟨rfl,gl,ah⟩,pw dE (ib r gl ah),dG.heap,dG.trans⟩
theorem eJ.zgZ{td:List aC}(h:eJ P G f args [] 0 R)(a6:gu (j9 σ td) args)(ar:fX (j9 σ td)=true)(ib: ∀r cc,R r cc→mB r=true):eJ P G f td σ n fun r cc=>cc=σ∧∃gl,R r gl:=by
 have h:=h.arg a6
 intro w β ro dJ ab ae aw aM bn
 have rJ: ∀b,Own σ β b→b<w.heap.size:=fun b ⟨k,p,an,ar,bc⟩=>(aw.dq k p an).iG ar bc
 refine Calls.mono (h w β (y0 ro σ β) dJ (by rw[yY];exact ab) (fun i x hx=>?_) ⟨by simp[aE],by simp[aE],fun b _=>nM β b,fun b ag=>ag.elim (aw.lt b) (rJ b)⟩
  (aM.keep (fun _ _=>rfl) fun _ h=>.inl h) (by simp[aE])) fun e w' ⟨v,r,gl,cK,ro',bL,he,ah,dE,gf,cI⟩=>?_
 ·obtain⟨z,aT,rfl⟩:=yZ _ hx
  exact pw (Tn aw (ae i z aT)) (pv ar hx)
 have oF: ∀b,b<w.heap.size→w'.heap[b]? =w.heap[b]? :=fun b ag=>cI.frame b ag (nM β b)
 have h5:dn ⟨w,ro,σ,β,n,[]⟩ G ⟨[],σ,n,n⟩ ⟨#[],[]⟩ w β ro:=⟨rfl,rfl,by simp,aw,aM,⟨rfl,rfl,rfl,Nat.le_refl _,fun _ _ _=>rfl,fun _ h=>.inl h,fun _ h=>h,fun _ h=>.inl h,fun id _ o ai=>⟨by simp[ai],rfl⟩,bn,Nat.le_refl _⟩,Nat.le_refl _⟩
 have dG:=h5.grow (w':=w') (ro':=ro) cI.os cI.tape cI.output cI.size oF (fun _ h=>h) (fun _ h=>.inl h)
 exact⟨v,r,σ,β,ro,n,he,⟨rfl,gl,ah⟩,To dE (ib r gl ah),dG.heap,dG.trans⟩
end
def aL.cC(d:aL):aC:=
 match d with
 |⟨.st c,x⟩=>.agg ((df c x).map .ad)
 |⟨r,x⟩=>.ad (gr r x)
def oX(rs:List aX)(x:(ga rs).den):List aC:=(eK rs x).map aL.cC
def m0(rs:List aX)(x:(ga rs).den):aC:=
 match oX rs x with
 |[v]=>v
 |l=>.tuple l
structure jM where
 f:Nat
 j:Nat
 ps:List aX
 rs:List aX
 bZ:Bool
def eF(P:Program)(G:aR)(f:Nat)(m:bo):Prop:=
 ∀x:(ga m.ps).den,ql m.pre x→eJ P G f (oX m.ps x) [] 0 fun v _=>v=m0 m.rs (m.m x)
def Ww(P:Program)(G:aR)(M:List bo)(c:jM):Prop:=
 (fD bo.d M c.j).ps=c.ps∧(fD bo.d M c.j).rs=c.rs∧eF P G c.f (fD bo.d M c.j)∧(c.bZ=true→(fD bo.d M c.j).pre=none)
def uM(P:Program)(G:aR)(M:List bo)(C:List jM):Prop:=∀c∈C,Ww P G M c
def Du(f:Nat):List jM→Option jM
 |[]=>none
 |c::r=>match Nat.beq c.f f with
  |true=>some c
  |false=>Du f r
def Dv(r:aX)(i:Nat):af:=
 match r with
 | .st c=>.cA (kc c i 0 (ft c))
 |r=>.bs r i
def jE:Nat→List aX→List af
 |_,[]=>[]
 |i,r::rs=>Dv r i::jE (i+1) rs
def pO(rs:List aX)(p:Nat):Nat→List aX→List b1
 |_,[]=>[]
 |i,_::r=>.tf rs p i::pO rs p (i+1) r
def aX.jS:aX→Bool
 | .st _=>true
 |r=>r.one
def aX.xr:aX→Bool
 | .int _=>true
 | .bool=>true
 | .str=>true
 | .st c=>(ft c).all aX.cmp
 |_=>false
def O6(S:ay)(r:aX)(a:af):Option af:=
 match r,a with
 | .st c,.cA l=>match iA (ft c) l with
  |true=>some a
  |false=>none
 | .li c,.aq id=>match dK S.h id with
  |some (.rw _ d x)=>match decide (c=d)&&x.fr (.li c)with
   |true=>some x
   |false=>none
  |_=>none
 | .mp k v,.ie id=>match dK S.h id with
  |some (.it (.mp a8 bu) _ x)=>match(iW a8 k&&iW bu v)&&x.fr (.mp k v)with
   |true=>some x
   |false=>none
  |_=>none
 |r,a=>match r.one&&a.fr r with
  |true=>some a
  |false=>none
def tJ(S:ay):List aX→List af→Option (List af)
 |[],[]=>some []
 |r::rs,a::aI=>match O6 S r a,tJ S rs aI with
  |some x,some l=>some (x::l)
  |_,_=>none
 |_,_=>none
def vv:List af→Bool
 |[]=>true
 | .aq _::_=>false
 | .ie _::_=>false
 |_::r=>vv r
def jX(c:jM)(aI:List af)(k:Nat):List b1:=
 match c.rs with
 |[_]=>[.ca c.j aI]
 |rs=>.ca c.j aI::pO rs k 0 rs
def Ag(c:jM)(k:Nat):af:=
 match c.rs with
 |[r]=>Dv r k
 |rs=>.tp (jE (k+1) rs)
def HT(S:ay)(xs:List b1)(v:af):ay:={S with l:=bd.put .emp 0 v,k:=S.k+xs.length}
def HU(c:jM)(xs:List af):List gE:=
 match c.bZ with
 |true=>[]
 |false=>[.ca c.j xs]
def O7(C:List jM)(inl:Nat→List af→ay→aH)(f:Nat)(aI:List af)(S:ay):aH:=
 match Du f C with
 |none=>inl f aI S
 |some c=>match tJ S c.ps aI with
  |none=>inl f aI S
  |some xs=>match c.rs.all aX.jS&&(vv aI||c.rs.all aX.xr)&&(af.cW S.k xs&&af.tw S.n (Ag c S.k))with
   |true=>emit S.k (jX c xs S.k) (HU c xs) (.dc .b8 (HT S (jX c xs S.k) (Ag c S.k)))
   |false=>inl f aI S
theorem Ah: ∀{rs:List aX} {ds:List aL},ds.map aL.r=rs→eK rs (cw rs ds)=ds
 |[],[],_=>rfl
 |[],_::_,h=>by cases h
 |[r],ds,h=>by
  obtain⟨d,qI,rfl,ab,ae⟩:=m7 h
  cases nO ae
  subst ab;show[⟨d.r,d.aI d.r⟩]=[d];rw[Cl]
 |r::s::l,ds,h=>by
  obtain⟨d,qI,rfl,ab,ae⟩:=m7 h;subst ab;show(⟨d.r,d.aI d.r⟩:aL)::eK (s::l) (cw (s::l) qI)=d::qI;rw[Cl,Ah ae]
theorem vw: ∀{rs:List aX} {x:(ga rs).den},(eK rs x).map aL.r=rs
 |[],_=>rfl
 |[_],_=>rfl
 |r::s::l,x=>by
  show r::(eK (s::l) x.2).map aL.r=_;rw[vw]
section
variable {G:aR} {e:Env} {S:ay}
theorem Wx{r:aX}{x:r.den}(h: ∀c,r≠ .st c):(⟨r,x⟩:aL).cC= .ad (gr r x):=by
 cases r with
 |st c=>exact absurd rfl (h c)
 |_=>rfl
theorem Wy{r:aX}(h:r.one=true): ∀c,r≠ .st c:=fun c hc=>by subst hc;cases h
theorem Wz{r:aX}{a:af}(h:a.fr r=true): ∃y,a.den G e= .ad y:=by
 unfold af.fr at h
 split at h<;>first|exact⟨_,rfl⟩|cases h
theorem WA: ∀{rs:List aX} {l:List af},iA rs l=true→∃ys:List aU,af.b0 G e l=ys.map .ad
 |[],[],_=>⟨[],rfl⟩
 |[],_::_,h=>by cases h
 |_::_,[],h=>by cases h
 |r::rs,x::xs,h=>by
  simp only[iA,Bool.and_eq_true]at h;obtain⟨y,aA⟩:=Wz (G:=G) (e:=e) h.1;obtain⟨ys,nI⟩:=WA (rs:=rs) h.2;exact⟨y::ys,by simp only[af.b0,aA,nI,List.map_cons]⟩
theorem WB{σ:Heap}: ∀{ys:List aU},j9 σ (ys.map .ad)=ys.map .ad
 |[]=>rfl
 |y::ys=>by simp only[List.map_cons,j9,k5,WB]
theorem zg0{r:aX}{a x:af}(h:O6 S r a=some x):
 Sub (k5 (c6 G e S.h) (a.den G e)) (aL.cC ⟨r,x.get e r⟩)∧iK (k5 (c6 G e S.h) (a.den G e))=true∧((∀id,a≠ .aq id∧a≠ .ie id)→k5 (c6 G e S.h) (a.den G e)=a.den G e):=by
 unfold O6 at h
 split at h
 ·rename_i c l
  split at h
  ·rename_i av
   cases h;obtain⟨ys,aA⟩:=WA (G:=G) (e:=e) av
   have ao:=Cs (G:=G) (e:=e) av
   have hd:k5 (c6 G e S.h) ((af.cA l).den G e)=(af.cA l).den G e:=by simp only[af.den,k5,aA,WB]
   rw[hd];refine⟨?_,by simp only[af.den,aA,iK,B7],fun _=>rfl⟩
   simp only[af.den];exact ao.agg
  ·cases h
 ·rename_i c id
  split at h
  ·rename_i t d y ai
   split at h
   ·rename_i hc
    cases h;simp only[Bool.and_eq_true,decide_eq_true_eq]at hc;obtain⟨rfl,hx⟩:=hc
    have aV:aE (c6 G e S.h) id=some (.row false t (du c) (List.map (df c) (x.aN e (.li c)))):=by rw[e7,ai];rfl
    have hd:k5 (c6 G e S.h) ((af.aq id).den G e)= .ad (.aq (du c) (List.map (df c) (x.aN e (.li c)))):=by simp only[af.den,k5,aV]
    rw[hd];exact⟨m8.cC fun _ _ _ h=>.li _ _ _ h,rfl,fun h=>absurd rfl (h id).1⟩
   ·cases h
  ·cases h
 ·rename_i k v id
  split at h
  ·rename_i a8 bu dv y ai
   split at h
   ·rename_i hc
    cases h;simp only[Bool.and_eq_true]at hc
    cases iz hc.1.1
    cases iz hc.1.2
    have aV:aE (c6 G e S.h) id=some (.bI (kp v.agg (ho (mC k) (jR v) (x.aN e (.mp k v))))):=by rw[e7,ai];rfl
    have hd:k5 (c6 G e S.h) ((af.ie id).den G e)= .ad (y4 v.agg (ho (mC k) (jR v) (x.aN e (.mp k v)))):=by simp only[af.den,k5,aV]<;>rfl
    rw[hd];refine⟨?_,rfl,fun h=>absurd rfl (h id).2⟩
    show Sub _ (.ad (gr (.mp k v) (x.aN e (.mp k v))));rw[Ue];exact Sub.refl _
   ·cases h
  ·cases h
 ·split at h
  ·rename_i hc
   cases h;simp only[Bool.and_eq_true]at hc;obtain⟨y,aA⟩:=Wz (G:=G) (e:=e) hc.2
   have hd:k5 (c6 G e S.h) (a.den G e)=a.den G e:=by rw[aA];rfl
   rw[hd];refine⟨?_,by rw[aA];rfl,fun _=>rfl⟩
   rw[Wx (Wy hc.1),GI hc.1];exact wV hc.2
  ·cases h
theorem Ai: ∀{rs:List aX} {aI xs:List af},tJ S rs aI=some xs→
 gu (j9 (c6 G e S.h) (af.b0 G e aI)) ((hP e rs xs).map aL.cC)∧fX (j9 (c6 G e S.h) (af.b0 G e aI))=true∧(vv aI=true→j9 (c6 G e S.h) (af.b0 G e aI)=af.b0 G e aI)∧(hP e rs xs).map aL.r=rs
 |[],[],_,h=>by cases h;exact⟨.nil,rfl,fun _=>rfl,rfl⟩
 |[],_::_,_,h=>by cases h
 |_::_,[],_,h=>by cases h
 |r::rs,a::aI,xs,h=>by
  simp only[tJ]at h
  split at h
  ·rename_i x l ab ae
   cases h;obtain⟨ct,a2,a3⟩:=zg0 (G:=G) (e:=e) ab;obtain⟨fV,h3,iB,vb⟩:=Ai ae;refine⟨.cons ct fV,by simp only[af.b0,j9,fX,a2,h3,Bool.and_self],fun hn=>?_,by simp only[hP,List.map_cons,vb]⟩
   have:(∀id,a≠ .aq id∧a≠ .ie id)∧vv aI=true:=by
    cases a<;>first|(cases hn;done)|exact⟨fun id=>⟨fun bf=>(by cases bf),fun bf=>(by cases bf)⟩,hn⟩
   simp only[af.b0,j9,a3 this.1,iB this.2]
  ·cases h
end
section
variable {G:aR} {e:Env}
theorem zg1(d:aL):iK d.cC=true:=by
 unfold aL.cC
 split
 ·simp only[iK,B7]
 ·rfl
theorem HV: ∀l:List aL,fX (l.map aL.cC)=true
 |[]=>rfl
 |d::l=>by simp only[List.map_cons,fX,zg1,HV l,Bool.and_self]
theorem O8{rs:List aX}{x:(ga rs).den}:iK (m0 rs x)=true:=by
 have h:=HV (eK rs x)
 unfold m0 oX
 split
 ·rename_i v az
  rw[az]at h;simpa[fX]using h
 ·exact h
theorem WC: ∀{ds:List aL},(∀d∈ds,d.r.xr=true∧∀c,d.r≠ .st c)→qF (ds.map fun d=>.ad d.ad)=true
 |[],_=>rfl
 |d::ds,h=>by
  have ab:=h d (List.mem_cons_self ..)
  have ae:=WC (ds:=ds) fun x hx=>h x (List.mem_cons_of_mem _ hx)
  obtain⟨r,x⟩:=d
  cases r<;>first|(exact absurd rfl (ab.2 _))|(cases ab.1;done)|exact ae
theorem WD{d:aL}(h:d.r.xr=true):mB d.cC=true:=by
 obtain⟨r,x⟩:=d
 cases r with
 |st c=>
  show mB (.agg ((df c x).map .ad))=true
  have hc:df c x=(hh c x).map aL.ad:=by unfold df;rfl
  rw[hc,List.map_map];simp only[mB];refine WC fun d hd=>?_
  have ah:d.r∈ft c:=by
   have:=Ma c x
   rw[←this];exact List.mem_map_of_mem hd
  have a6:d.r.cmp=true:=List.all_eq_true.1 (show(ft c).all _=true from h) d.r ah
  cases hd:d.r<;>rw[hd]at a6<;>first|(cases a6;done)|exact⟨rfl,fun c hc=>by cases hc⟩
 |_=>first|rfl|cases h
theorem WE: ∀{l:List aL},(∀d∈l,d.r.xr=true)→qF (l.map aL.cC)=true
 |[],_=>rfl
 |d::l,h=>by
  simp only[List.map_cons,qF,WD (h d (List.mem_cons_self ..)),WE (l:=l) fun x hx=>h x (List.mem_cons_of_mem _ hx),Bool.and_self]
theorem zg2{rs:List aX}{x:(ga rs).den}(h:rs.all aX.xr=true):mB (m0 rs x)=true:=by
 have h:=WE (l:=eK rs x) fun d hd=>by
  have ah:d.r∈rs:=by
   have:=vw (rs:=rs) (x:=x)
   rw[←this];exact List.mem_map_of_mem hd
  exact List.all_eq_true.1 h d.r ah
 unfold m0 oX
 split
 ·rename_i v az
  rw[az]at h;simpa[qF]using h
 ·exact h
end
section
variable {P:Program} {G:aR} {M:List bo} {C:List jM} {inl:Nat→List af→ay→aH}
theorem WG{f:Nat}{c:jM}: ∀{C:List jM},Du f C=some c→c∈C∧c.f=f
 |[],h=>by cases h
 |d::r,h=>by
  unfold Du at h
  split at h
  ·rename_i hd;cases h;exact⟨List.mem_cons_self ..,Nat.eq_of_beq_eq_true hd⟩
  ·obtain⟨ab,ae⟩:=WG h;exact⟨List.mem_cons_of_mem _ ab,ae⟩
theorem O9(rs:List aX)(p:Nat): ∀(l:List aX) (i j:Nat),(pO rs p i l)[j]? =if j<l.length then some (.tf rs p (i+j))else none
 |[],i,j=>by simp[pO]
 |_::l,i,0=>by simp[pO]
 |_::l,i,j+1=>by
  simp only[pO,List.getElem?_cons_succ,O9 rs p l (i+1) j,List.length_cons,Nat.add_lt_add_iff_right]
  have:i+1+j=i+(j+1):=by omega
  rw[this]
theorem WH(rs:List aX)(p:Nat): ∀(l:List aX) (i k:Nat),p<k→iC k (pO rs p i l)=true
 |[],_,_,_=>rfl
 |_::l,i,k,h=>by
  simp only[pO,iC,b1.lt,l1 h,Bool.true_and];exact WH rs p l (i+1) (k+1) (by omega)
theorem HW{c:jM}{xs:List af}{k:Nat}(h:af.cW k xs=true):iC k (jX c xs k)=true:=by
 unfold jX
 split
 ·simp only[iC,b1.lt,h,Bool.and_self]
 ·simp only[iC,b1.lt,h,Bool.true_and]
  exact WH _ _ _ _ _ (Nat.lt_succ_self k)
theorem Pb(rs:List aX)(p:Nat): ∀(l:List aX) (i:Nat),(pO rs p i l).length=l.length
 |[],_=>rfl
 |_::l,i=>by simp[pO,Pb rs p l (i+1)]
theorem Pc{e:Env}{r:aX}{i:Nat}{x:r.den}(h:Env.at e i=⟨r,x⟩):(Dv r i).den G e=aL.cC ⟨r,x⟩:=by
 have a6:(Env.at e i).aI r=x:=by rw[h,c3]
 cases r with
 |st c=>
  show aC.agg (af.b0 G e (kc c i 0 (ft c)))= .agg ((df c x).map .ad);rw[uX,a6]
 |_=>show aC.ad (gr _ ((Env.at e i).aI _))= .ad (gr _ x);rw[a6]
theorem Dw{e:Env}: ∀{rs:List aX} {i:Nat} {ds:List aL},ds.map aL.r=rs→(∀j d,ds[j]? =some d→Env.at e (i+j)=d)→af.b0 G e (jE i rs)=ds.map aL.cC
 |[],i,ds,h,_=>by cases nO h;rfl
 |r::rs,i,ds,h,hd=>by
  obtain⟨d,qI,rfl,ab,ae⟩:=m7 h;subst ab
  have aS:=hd 0 d rfl
  simp only[jE,af.b0,List.map_cons,List.cons.injEq];refine⟨Pc (x:=d.v) aS,Dw ae fun j EY aj=>?_⟩
  have:=hd (j+1) EY (by simpa using aj)
  rw[←this];congr 1;omega
theorem HX{c:bX}{i k:Nat}(h:i<k): ∀{rs:List aX} {j:Nat},af.cW k (kc c i j rs)=true
 |[],_=>rfl
 |r::rs,j=>by simp only[kc,af.cW,af.lt,l1 h,HX h (rs:=rs),Bool.and_self]
theorem Pd{r:aX}{i k:Nat}(h:i<k):(Dv r i).lt k=true:=by
 cases r with
 |st c=>exact HX h
 |_=>exact l1 h
theorem Dx: ∀{rs:List aX} {i k:Nat},i+rs.length≤k→af.cW k (jE i rs)=true
 |[],_,_,_=>rfl
 |r::rs,i,k,h=>by
  simp only[List.length_cons]at h;simp only[jE,af.cW,Pd (r:=r) (show i<k by omega),Dx (rs:=rs) (show i+1+rs.length≤k by omega),Bool.and_self]
theorem Pe{α:Type}{d:α}: ∀{l:List α} {i:Nat} {x:α},l[i]? =some x→fD d l i=x
 |[],_,_,h=>by cases h
 |y::l,0,x,h=>by simpa[fD]using h
 |y::l,i+1,x,h=>by
  simp only[fD];exact Pe (by simpa using h)
theorem zg3{c:jM}{xs:List af}{k:Nat}{e:Env}{y:(ga c.rs).den}(av:af.cW k xs=true)(aS:Env.at (dP M e k (jX c xs k)) k=⟨ga c.rs,y⟩):
 (Ag c k).den G (dP M e k (jX c xs k))=m0 c.rs y:=by
 have fq:=kJ (M:=M) (e:=e) (HW (c:=c) av)
 obtain⟨f,HY,ps,rs,bZ⟩:=c
 show(Ag ⟨f,HY,ps,rs,bZ⟩ k).den G _=m0 rs y
 match rs,y,aS,fq with
 |[],y,aS,fq=>rfl
 |[r],y,aS,fq=>exact Pc aS
 |r::s::l,y,aS,fq=>
  have oG:(eK (r::s::l) y).map aL.r=r::s::l:=vw
  have ko:m0 (r::s::l) y= .tuple ((eK (r::s::l) y).map aL.cC):=by
   unfold m0 oX
   split
   ·rename_i v az
    have:=congrArg List.length oG
    have ae:=congrArg List.length az
    simp only[List.length_map,List.length_cons]at this ae;simp only[List.length_nil]at ae;omega
   ·rfl
  rw[ko];show aC.tuple (af.b0 G _ (jE (k+1) (r::s::l)))=_
  congr 1
  refine Dw oG fun j d aj=>?_
  have hlen:j<(r::s::l).length:=by
   have ab:=(List.getElem?_eq_some_iff.1 aj).1
   have:=congrArg List.length oG
   rw[List.length_map]at this;omega
  have ab:=fq (j+1) (.tf (r::s::l) k j) (by
   show(b1.ca HY xs::pO (r::s::l) k 0 (r::s::l))[j+1]? =_
   rw[List.getElem?_cons_succ,O9,if_pos hlen,Nat.zero_add])
  rw[show k+1+j=k+(j+1)by omega,ab]
  simp only[b1.den,aS,c3];exact Pe aj
theorem zg4(ld:uM P G M C)(cS:gV P G M inl):gV P G M (O7 C inl):=fun f aI S e ag av hf ao=>by
 unfold O7 at ao⊢
 cases hc:Du f C with
 |none=>simp only[hc]at ao⊢;exact cS f aI S e ag av hf ao
 |some c=>
  simp only[hc]at ao⊢
  cases hx:tJ S c.ps aI with
  |none=>simp only[hx]at ao⊢;exact cS f aI S e ag av hf ao
  |some xs=>
   simp only[hx]at ao⊢
   split at ao
   rotate_left
   ·exact cS f aI S e ag av hf ao
   rename_i an;simp only[Bool.and_eq_true]at an;obtain⟨⟨Od,wc⟩,Dy,GK⟩:=an;obtain⟨hm,Dz⟩:=WG hc;obtain⟨g1,g2,g3,g4⟩:=ld c hm;obtain⟨hn,_⟩:=nV ao
   have xt:=HW (c:=c) Dy
   have b4:cp S.k e (dP M e S.k (jX c xs S.k)):=la (Nat.le_refl _)
   have bW:c.bZ=false→gE.ok M (dP M e S.k (jX c xs S.k)) (.ca c.j xs):=fun e4=>hn _ (by unfold HU;rw[e4];exact List.mem_singleton.2 rfl)
   obtain⟨ct,a2,a3,a4⟩:=Ai (G:=G) (e:=e) hx
   have fq:=kJ (M:=M) (e:=e) xt 0 (.ca c.j xs) (by unfold jX;split<;>rfl)
   obtain⟨WI,q7,zkk,zkl,WJ⟩:=c;simp only at g1 g2 g3 g4 Dz Od wc Dy GK xt b4 bW ct a2 a3 a4 fq hx;subst g1 g2 Dz;simp only[Nat.add_zero,b1.den]at fq;simp only[gE.ok]at bW;rw[zj b4 Dy]at fq
   have gY:=g3 (cw _ (hP e (fD bo.d M q7).ps xs)) (by
    cases WJ with
    |true=>rw[g4 rfl];trivial
    |false=>
     have:=bW rfl
     rw[zj b4 Dy]at this
     exact this)
   have xm:oX (fD bo.d M q7).ps (cw (fD bo.d M q7).ps (hP e (fD bo.d M q7).ps xs))=(hP e (fD bo.d M q7).ps xs).map aL.cC:=by
    unfold oX;rw[Ah a4]
   rw[xm]at gY
   have az:=zg3 (G:=G) (c:=⟨WI,q7,(fD bo.d M q7).ps,(fD bo.d M q7).rs,WJ⟩) Dy fq
   have lR:eJ P G WI (af.b0 G e aI) (c6 G e S.h) S.n fun r cc=>cc=c6 G e S.h∧∃_:Heap,r=m0 (fD bo.d M q7).rs ((fD bo.d M q7).m (cw _ (hP e (fD bo.d M q7).ps xs))):=by
    cases y5:vv aI with
    |true=>
     rw[a3 y5]at ct a2;exact((gY.arg ct).frame a2 fun r cc ah=>by rw[ah];exact O8).res fun r cc ⟨ab,gl,ae⟩=>⟨ab,gl,ae⟩
    |false=>
     rw[y5,Bool.false_or]at wc;exact(gY.zgZ ct a2 fun r cc ah=>by rw[ah];exact zg2 wc).res fun r cc ⟨ab,gl,ae⟩=>⟨ab,gl,ae⟩
   refine lR.res fun r cc ⟨ab,_,ae⟩=>⟨_,_,by rw[nd];rfl,?_,?_,?_,?_,b4,Nat.le_add_right _ _⟩
   ·rw[ae,←az]
    show _=af.den G _ (ay.at (HT S _ _) 0);unfold HT ay.at
    simp only[bd.kl,if_true]
   ·rw[ab];exact(CG b4 ag.h).symm
   ·refine⟨fun i x hi=>?_,w0 (Nat.le_add_right _ _) ag.h,qP (Nat.le_add_right _ _) ag.g⟩
    simp only[HT,bd.kl]at hi
    split at hi
    ·cases hi
     show(Ag _ S.k).lt (S.k+_)=true;unfold Ag jX
     split
     ·exact Pd (Nat.lt_succ_self _)
     ·simp only[af.lt]
      refine Dx ?_
      simp only[List.length_cons,Pb];omega
    ·simp[bd.get]at hi
   ·exact jU b4 ag.g hf
end
end Go.aK
namespace Go.aK
open Go
section
variable {P:Program} {G:aR} {f:FuncId} {args:List aC} {R:aC→Heap→Prop}
theorem eJ.ret(eG:Prop→aC→Prop)(h:eJ P G f args [] 0 R){Q:aC→Prop}(ib: ∀r cc,R r cc→∃v,Sub (k5 cc r) v∧iK v=true∧Q v):eJ P G f args [] 0 fun v _=>Q v:=by
 intro w β ro dJ ab ae aw aM bn
 refine Calls.mono (h w β ro dJ ab ae aw aM bn) fun e w' ⟨v,r,cc,cK,ro',bL,he,ah,dE,gf,cI⟩=>?_
 obtain⟨u,hu,ar,aG⟩:=ib r cc ah
 have rJ: ∀b,Own cc cK b→b<w'.heap.size:=fun b ⟨k,p,an,ar,bc⟩=>(gf.dq k p an).iG ar bc
 refine⟨v,u,[],cK,y0 ro' cc cK,bL,he,aG,pw (hu _ _ _ _ _ _ (Tn gf dE)) ar,⟨by simp[aE],by simp[aE],fun b _=>nM cK b,fun b ag=>ag.elim (gf.lt b) (rJ b)⟩,
  ⟨cI.os,cI.tape,cI.output,cI.size,cI.frame,fun b ag=>?_,fun b ag=>.inl (cI.gA b ag),fun b ag=>absurd ag (nM cK b),by simp[aE],by simp[aE],cI.le⟩⟩
 rcases ag with ag|ag
 ·exact cI.hz b ag
 ·exact .inr (cI.fU b ag)
end
def jl:Nat→List aL→Env
 |_,[]=>.emp
 |i,d::ds=>bd.put (jl (i+1) ds) i d
theorem Pf: ∀{ds:List aL} {i j:Nat} {d:aL},ds[j]? =some d→Env.at (jl i ds) (i+j)=d
 |[],_,_,_,h=>by cases h
 |x::ds,i,0,d,h=>by
  have h:x=d:=by simpa using h
  simp only[jl,Env.k7,Nat.add_zero,if_true,h]
 |x::ds,i,j+1,d,h=>by
  have:=Pf (i:=i+1) (show ds[j]? =some d by simpa using h)
  simp only[jl,Env.k7];rw[if_neg (by omega),←this]
  congr 1
  omega
def xu(rs:List aX)(v:af):List af:=
 match rs,v with
 |[_],v=>[v]
 |_,.tp l=>l
 |_,x=>[x]
def Pg(rs:List aX)(v:af):Bool:=
 match rs,v with
 |[_],_=>true
 |_,.tp _=>true
 |_,_=>false
def HZ(rs:List aX)(C:ay):Option (List af):=
 match Pg rs (C.at 0)with
 |true=>tJ C rs (xu rs (C.at 0))
 |false=>none
def DA(rs:List aX)(C:ay):Bool:=(HZ rs C).isSome
def Ph(rs:List aX)(C:ay)(e:Env):(ga rs).den:=
 match HZ rs C with
 |some l=>cw rs (hP e rs l)
 |none=>(ga rs).gm
def Pj(M:List bo)(t:aH)(rs:List aX)(e:Env):(ga rs).den:=t.fold M e (fun _ C aF=>Ph rs C aF) (ga rs).gm
def xv(n:Nat):ay:=⟨.emp,[],0,n,[]⟩
section
variable {P:Program} {G:aR} {M:List bo} {C:List jM} {inl:Nat→List af→ay→aH}
theorem zg5{rs:List aX}{S:ay}{e:Env}{l:List af}(h:HZ rs S=some l):Sub (k5 (c6 G e S.h) ((S.at 0).den G e)) (m0 rs (cw rs (hP e rs l))):=by
 unfold HZ at h
 split at h
 rotate_left
 ·cases h
 rename_i aJ
 obtain⟨ct,_,_,a4⟩:=Ai (G:=G) (e:=e) h
 have xm:oX rs (cw rs (hP e rs l))=(hP e rs l).map aL.cC:=by unfold oX;rw[Ah a4]
 unfold m0
 rw[xm]
 match rs,ct,a4,aJ with
 |[r],ct,a4,aJ=>
  obtain⟨d,qI,az,ab,ae⟩:=m7 a4
  cases nO ae
  rw[az]at ct⊢;simp only[xu,af.b0,j9,List.map_cons,List.map_nil]at ct⊢
  cases ct with
  |cons h _=>exact h
 |[],ct,a4,aJ=>
  cases az:S.at 0 with
  |tp m=>
   rw[az]at ct;rw[nO a4];rw[nO a4]at ct;exact ct.tuple
  |_=>rw[az]at aJ;cases aJ
 |r::s::q,ct,a4,aJ=>
  cases az:S.at 0 with
  |tp m=>
   rw[az]at ct
   have av:=congrArg List.length a4
   simp only[List.length_map,List.length_cons]at av;generalize hP e (r::s::q) l=ds at ct av⊢
   match ds,av with
   |d::d2::ds,_=>exact ct.tuple
  |_=>rw[az]at aJ;cases aJ
theorem WK{t:aH}{p:ay→Bool}(h:t.gG.all p=true){e aF:Env}{S:ay}(ah:run M t e=some (.b8,S,aF)):p S=true:=List.all_eq_true.1 h S (oR ah)
theorem WL(cS:gV P G M inl){f:Nat}{m:bo}(t:aH)(aJ:inl f (jE 0 m.ps) (xv m.ps.length)=t)(he:t.gG.all (DA m.rs)=true)
 (ao: ∀x,ql m.pre x→t.safe M (jl 0 (eK m.ps x)))(hm: ∀x,ql m.pre x→Pj M t m.rs (jl 0 (eK m.ps x))=m.m x):eF P G f m:=fun x hx=>by
 subst aJ
 have av:m.ps.length=(eK m.ps x).length:=by have:=congrArg List.length (vw (rs:=m.ps) (x:=x));rw[List.length_map]at this;exact this.symm
 have h:=cS f (jE 0 m.ps) (xv m.ps.length) (jl 0 (eK m.ps x)) ⟨fun i x hi=>by simp[xv,bd.get]at hi,rfl,rfl⟩ (Dx (by show 0+_≤m.ps.length;omega)) (fun c hc=>by cases hc) (ao x hx)
 have hd:af.b0 G (jl 0 (eK m.ps x)) (jE 0 m.ps)=oX m.ps x:=Dw vw fun j d aj=>Pf aj
 rw[hd]at h
 refine(eJ.ret (fun _ _=>True) h (Q:=fun v=>v=m0 m.rs (m.m x)) fun r cc ah=>?_)
 obtain⟨aO,aF,cy,rfl,rfl,_⟩:=ah
 have pJ:=WK he cy
 obtain⟨l,nK⟩:=Option.isSome_iff_exists.1 pJ
 refine⟨_,zg5 nK,O8,?_⟩
 have:=hm x hx
 unfold Pj at this
 rw[lB cy]at this
 unfold Ph at this
 rw[nK]at this
 rw[←this]
theorem zg6(cS:gV P G M inl){f:Nat}{m:bo}(t:aH)(aJ:inl f (jE 0 m.ps) (xv m.ps.length)=t)(he:(t.clean&&t.gG.all (DA m.rs))=true)
 (hm: ∀x,Pj M t m.rs (jl 0 (eK m.ps x))=m.m x):eF P G f m:=by
 simp only[Bool.and_eq_true]at he
 exact WL cS t aJ he.2 (fun _ _=>tk M he.1) fun x _=>hm x
theorem uM.nil:uM P G M []:=fun _ h=>by cases h
theorem uM.cons{c:jM}(h:Ww P G M c)(ld:uM P G M C):uM P G M (c::C):=fun d hd=>by
 rcases List.mem_cons.1 hd with rfl|hd
 ·exact h
 ·exact ld d hd
end
end Go.aK
namespace Go.aK
open Go
def aH.lF(M:List bo):aH→{X:Type}→Env→(cf→ay→Env→X)→X→X
 | .dc x S,_,e,K,_=>K x S e
 | .lt i x t,_,e,K,d=>t.lF M (bd.put e i (x.den M e)) K d
 | .fF _ t,_,e,K,d=>t.lF M e K d
 | .it g a b,_,e,K,d=>bif g.aN e .bool then a.lF M e K d else b.lF M e K d
 | .eo n a ps k,_,e,K,d=>a.lF M e (fun x S aF=>bif x.b6 n then k.lF M (gF e (fun r p=>⟨r,(p.dO S).get aF r⟩) ps) K d else K x S aF) d
 | .e6 m xid dZ cg ca a k,X,e,K,d=>Sum.elim (fun r=>r) (fun v=>k.lF M (bw e ca v) K d)
  (bJ (fun i (v:b9 ca)=>(a.lF M (bw (bd.put e cg ⟨.int .i64,(i:Int)⟩) ca v) (e2 m xid ca K) (.c9 v):Step X (b9 ca))) 0 (cN (dZ.den M e)).toNat (cw _ (eu e ca)))
 | .fz m xid ca a k,X,e,K,d=>Sum.elim (fun r=>r) (fun v=>k.lF M (bw e ca v) K d)
  (dA (fun v=>(a.lF M (bw e ca v) (e2 m xid ca K) (.c9 v):Step X (b9 ca))) dt (cw _ (eu e ca)))
 | .bad _,_,_,_,d=>d
section
variable {M:List bo}
theorem oY: ∀(t:aH) {X:Type} (e:Env) (K:cf→ay→Env→X) (d:X),t.lF M e K d=t.fold M e K d
 | .dc _ _,_,_,_,_=>rfl
 | .lt i x t,_,e,K,d=>oY t _ K d
 | .fF _ t,_,e,K,d=>oY t _ K d
 | .it g a b,_,e,K,d=>by simp only[aH.lF,aH.fold,oY a,oY b]
 | .eo n a ps k,X,e,K,d=>by
  show a.lF M e (fun x S aF=>bif x.b6 n then k.lF M (gF e (fun r p=>⟨r,(p.dO S).get aF r⟩) ps) K d else K x S aF) d=(aH.eo n a ps k).fold M e K d
  rw[oY a]
  cases ah:run M a e with
  |none=>rw[CB ah,u1 ah]
  |some l=>
   obtain⟨x,S,aF⟩:=l;rw[lB ah]
   cases hx:x.b6 n with
   |true=>rw[cond_true,rY ah hx,oY k]
   |false=>rw[cond_false,oL ah hx]
 | .e6 m xid dZ cg ca a k,X,e,K,d=>by
  rw[zi];simp only[aH.lF,oY a,oY k]
 | .fz m xid ca a k,X,e,K,d=>by
  simp only[aH.lF,aH.fold,oY a,oY k]
 | .bad _,_,_,_,_=>rfl
def aH.wp(M:List bo):aH→Env→(cf→ay→Env→Prop)→Prop
 | .dc x S,e,Q=>Q x S e
 | .lt i x t,e,Q=>t.wp M (bd.put e i (x.den M e)) Q
 | .fF n t,e,Q=>n.ok M e∧t.wp M e Q
 | .it g a b,e,Q=>(g.aN e .bool=true→a.wp M e Q)∧(g.aN e .bool=false→b.wp M e Q)
 | .eo n a ps k,e,Q=>a.wp M e fun x S aF=>bif x.b6 n then k.wp M (gF e (fun r p=>⟨r,(p.dO S).get aF r⟩) ps) Q else Q x S aF
 | .e6 m xid dZ cg ca a k,e,Q=>∃I:Nat→b9 ca→Prop,I 0 (cw _ (eu e ca))∧(∀(i:Nat) (v:b9 ca),i<(cN (dZ.den M e)).toNat→I i v→
  a.wp M (bw (bd.put e cg ⟨.int .i64,(i:Int)⟩) ca v) fun x S aF=>bif x.b6 m then I (i+1) (cw _ (gp S aF ca))else bif x.dy xid then k.wp M (bw e ca (cw _ (gp S aF ca))) Q else Q x S aF)∧
  ∀v,I (cN (dZ.den M e)).toNat v→k.wp M (bw e ca v) Q
 | .fz m xid ca a k,e,Q=>∃(I:b9 ca→Prop) (kP:b9 ca→Nat),I (cw _ (eu e ca))∧kP (cw _ (eu e ca))<dt∧∀(v:b9 ca),I v→
  a.wp M (bw e ca v) fun x S aF=>bif x.b6 m then I (cw _ (gp S aF ca))∧kP (cw _ (gp S aF ca))<kP v else bif x.dy xid then k.wp M (bw e ca (cw _ (gp S aF ca))) Q else Q x S aF
 | .bad _,_,_=>False
theorem WM{R A:Type}{b:Nat→A→Step R A}(I:Nat→A→Prop)(xw:R→Prop)(vx:A→Prop)(n:Nat)(h: ∀i v,i<n→I i v→(∀r,b i v= .ret r→xw r)∧(∀bu,b i v= .c9 bu→vx bu)∧∀bu,b i v= .bM bu→I (i+1) bu)
 (he: ∀v,I n v→vx v): ∀(m k:Nat) (a:A),k+m=n→I k a→(∀r,bJ b k m a= .inl r→xw r)∧∀v,bJ b k m a= .inr v→vx v
 |0,k,a,hn,hi=>by
  have:k=n:=by omega
  subst this;exact⟨fun r ah=>(by cases ah),fun v az=>(by cases az;exact he a hi)⟩
 |m+1,k,a,hn,hi=>by
  obtain⟨ab,ae,aw⟩:=h k a (by omega) hi
  simp only[bJ]
  cases ag:b k a with
  |ret r=>exact⟨fun eG ah=>(by cases ah;exact ab r ag),fun v az=>(by cases az)⟩
  |c9 v=>exact⟨fun eG ah=>(by cases ah),fun bu az=>(by cases az;exact ae v ag)⟩
  |bM v=>exact WM I xw vx n h he m (k+1) v (by omega) (aw v ag)
theorem WN{R A:Type}{b:A→Step R A}(I:A→Prop)(kP:A→Nat)(xw:R→Prop)(vx:A→Prop)(h: ∀v,I v→(∀r,b v= .ret r→xw r)∧(∀bu,b v= .c9 bu→vx bu)∧∀bu,b v= .bM bu→I bu∧kP bu<kP v):
 ∀(m:Nat) (a:A),kP a<m→I a→lx b m a∧(∀r,dA b m a= .inl r→xw r)∧∀v,dA b m a= .inr v→vx v
 |0,a,hm,_=>absurd hm (Nat.not_lt_zero _)
 |m+1,a,hm,hi=>by
  obtain⟨ab,ae,aw⟩:=h a hi;simp only[dA,lx]
  cases ag:b a with
  |ret r=>exact⟨trivial,fun eG ah=>(by cases ah;exact ab r ag),fun v az=>(by cases az)⟩
  |c9 v=>exact⟨trivial,fun eG ah=>(by cases ah),fun bu az=>(by cases az;exact ae v ag)⟩
  |bM v=>
   obtain⟨g1,g2⟩:=aw v ag;exact WN I kP xw vx h m v (by omega) g1
def H0(M:List bo)(t:aH)(e:Env)(Q:cf→ay→Env→Prop):Prop:=∃x S aF,run M t e=some (x,S,aF)∧Q x S aF
theorem WO{m xid:Nat}{ca:List iL}{a:aH}{e:Env}{v:b9 ca}{J:b9 ca→Prop}{B:b9 ca→Prop}{Q:cf→ay→Env→Prop}
 (h:H0 M a e fun x S aF=>bif x.b6 m then J (cw _ (gp S aF ca))else bif x.dy xid then B (cw _ (gp S aF ca))else Q x S aF):
 (∀r,dD M m xid ca a e v= .ret r→∃x S aF,r=some (x,S,aF)∧Q x S aF)∧(∀bu,dD M m xid ca a e v= .c9 bu→B bu)∧∀bu,dD M m xid ca a e v= .bM bu→J bu:=by
 obtain⟨x,S,aF,ah,aG⟩:=h
 unfold dD
 rw[ah]
 simp only
 cases hx:x.b6 m with
 |true=>
  rw[hx,cond_true]at aG;rw[pD hx];exact⟨fun r aV=>(by cases aV),fun bu aV=>(by cases aV),fun bu aV=>(by cases aV;exact aG)⟩
 |false=>
  rw[hx,cond_false]at aG
  cases aA:x.dy xid with
  |true=>
   rw[aA,cond_true]at aG;rw[pE hx aA];exact⟨fun r aV=>(by cases aV),fun bu aV=>(by cases aV;exact aG),fun bu aV=>(by cases aV)⟩
  |false=>
   rw[aA,cond_false]at aG;rw[lA hx aA];exact⟨fun r aV=>(by cases aV;exact⟨_,_,_,rfl,aG⟩),fun bu aV=>(by cases aV),fun bu aV=>(by cases aV)⟩
theorem l8: ∀(t:aH) {e:Env} {Q:cf→ay→Env→Prop},t.wp M e Q→t.safe M e∧H0 M t e Q
 | .dc x S,e,Q,h=>⟨trivial,x,S,e,rfl,h⟩
 | .lt i x t,e,Q,h=>l8 t (e:=bd.put e i (x.den M e)) h
 | .fF n t,e,Q,h=>⟨⟨h.1,(l8 t h.2).1⟩,(l8 t h.2).2⟩
 | .it g a b,e,Q,h=>by
  refine⟨⟨fun ai=>(l8 a (h.1 ai)).1,fun ai=>(l8 b (h.2 ai)).1⟩,?_⟩
  cases ai:g.aN e .bool with
  |true=>
   obtain⟨x,S,aF,ab,ae⟩:=(l8 a (h.1 ai)).2;exact⟨x,S,aF,by rw[vi ai];exact ab,ae⟩
  |false=>
   obtain⟨x,S,aF,ab,ae⟩:=(l8 b (h.2 ai)).2;exact⟨x,S,aF,by rw[vi ai];exact ab,ae⟩
 | .eo n a ps k,e,Q,h=>by
  obtain⟨ab,x,aO,aD,ah,aw⟩:=l8 a h
  cases hx:x.b6 n with
  |true=>
   rw[hx,cond_true]at aw;obtain⟨fm,ly,bP,aF,ha,oq⟩:=l8 k aw;refine⟨⟨ab,fun _=>?_⟩,ly,bP,aF,by unfold run;rw[rY ah hx];exact ha,oq⟩
   have:(fun(r:aX) (p:fa)=>(⟨r,bif a.kH n
    then a.fold M e (fun _ S aF=>(p.dO S).get aF r) r.gm
    else a.fold M e (fun x S aF=>bif x.b6 n then(p.dO S).get aF r else r.gm) r.gm⟩:aL))=fun r p=>⟨r,(p.dO aO).get aD r⟩:=by
    funext r p
    simp only[lB ah,hx]
    cases a.kH n<;>rfl
   rw[this];exact fm
  |false=>
   rw[hx,cond_false]at aw;exact⟨⟨ab,fun aj=>by rw[lB ah,hx]at aj;cases aj⟩,x,aO,aD,by unfold run;rw[oL ah hx],aw⟩
 | .e6 m xid dZ cg ca a k,e,Q,h=>by
  obtain⟨I,aS,ag,he⟩:=h
  have DB:=fun(i:Nat) (v:b9 ca) hi az=>l8 a (ag i v hi az)
  have DC:=fun(i:Nat) (v:b9 ca) hi az=>WO (v:=v) (J:=I (i+1)) (B:=fun bu=>k.wp M (bw e ca bu) Q) (Q:=Q) (DB i v hi az).2
  obtain⟨br,dV⟩:=WM I (fun r=>∃x S aF,r=some (x,S,aF)∧Q x S aF) (fun v=>k.wp M (bw e ca v) Q) (cN (dZ.den M e)).toNat DC (fun v az=>he v az) (cN (dZ.den M e)).toNat 0 _ (Nat.zero_add _) aS
  have j3:(fun(i:Nat) (v:b9 ca)=>(a.fold M (bw (bd.put e cg ⟨.int .i64,(i:Int)⟩) ca v) (e2 m xid ca fun _ _ _=>()) (.c9 v):Step Unit (b9 ca)))=fun(i:Nat) v=>jA (fun _=>()) (dD M m xid ca a (bw (bd.put e cg ⟨.int .i64,(i:Int)⟩) ca v) v):=by
   funext i v
   exact kf ..
  have zL:=wX (fun _:Option oK=>()) (b:=fun(i:Nat) v=>dD M m xid ca a (bw (bd.put e cg ⟨.int .i64,(i:Int)⟩) ca v) v) (c:=fun(i:Nat) v=>jA (fun _=>()) (dD M m xid ca a (bw (bd.put e cg ⟨.int .i64,(i:Int)⟩) ca v) v)) (fun _ _=>rfl) (cN (dZ.den M e)).toNat 0 (cw _ (eu e ca))
  refine⟨⟨⟨I,aS,fun i v hi az=>⟨(DB i v hi az).1,fun bu hn=>(DC i v hi az).2.2 bu ?_⟩⟩,?_⟩,?_⟩
  ·rw[kf]at hn
   exact u2 hn
  ·rw[j3,zL]
   cases av:bJ (fun(i:Nat) v=>dD M m xid ca a (bw (bd.put e cg ⟨.int .i64,(i:Int)⟩) ca v) v) 0 (cN (dZ.den M e)).toNat (cw _ (eu e ca))with
   |inl r=>trivial
   |inr v=>exact(l8 k (dV v av)).1
  ·unfold H0
   rw[GY]
   cases av:bJ (fun(i:Nat) v=>dD M m xid ca a (bw (bd.put e cg ⟨.int .i64,(i:Int)⟩) ca v) v) 0 (cN (dZ.den M e)).toNat (cw _ (eu e ca))with
   |inl r=>exact br r av
   |inr v=>exact(l8 k (dV v av)).2
 | .fz m xid ca a k,e,Q,h=>by
  obtain⟨I,kP,aS,hm,ag⟩:=h
  have DB:=fun(v:b9 ca) az=>l8 a (ag v az)
  have DC:=fun(v:b9 ca) az=>WO (v:=v) (J:=fun bu=>I bu∧kP bu<kP v) (B:=fun bu=>k.wp M (bw e ca bu) Q) (Q:=Q) (DB v az).2
  obtain⟨Fc,br,dV⟩:=WN I kP (fun r=>∃x S aF,r=some (x,S,aF)∧Q x S aF) (fun v=>k.wp M (bw e ca v) Q) DC dt _ hm aS
  have j3:(fun(v:b9 ca)=>(a.fold M (bw e ca v) (e2 m xid ca fun _ _ _=>()) (.c9 v):Step Unit (b9 ca)))=fun v=>jA (fun _=>()) (dD M m xid ca a (bw e ca v) v):=by
   funext v
   exact kf ..
  have zL:=zf (fun _:Option oK=>()) (b:=fun v=>dD M m xid ca a (bw e ca v) v) (c:=fun v=>jA (fun _=>()) (dD M m xid ca a (bw e ca v) v)) (fun _=>rfl) dt (cw _ (eu e ca))
  have zg7:=Mq (fun _:Option oK=>()) (b:=fun v=>dD M m xid ca a (bw e ca v) v) (c:=fun v=>jA (fun _=>()) (dD M m xid ca a (bw e ca v) v)) (fun _=>rfl) dt (cw _ (eu e ca))
  refine⟨⟨⟨I,aS,fun v az=>⟨(DB v az).1,fun bu hn=>((DC v az).2.2 bu ?_).1⟩⟩,?_,?_⟩,?_⟩
  ·rw[kf]at hn
   exact u2 hn
  ·rw[j3]
   exact zg7.2 Fc
  ·rw[j3,zL]
   cases av:dA (fun v=>dD M m xid ca a (bw e ca v) v) dt (cw _ (eu e ca))with
   |inl r=>trivial
   |inr v=>exact(l8 k (dV v av)).1
  ·unfold H0
   rw[GZ]
   cases av:dA (fun v=>dD M m xid ca a (bw e ca v) v) dt (cw _ (eu e ca))with
   |inl r=>exact br r av
   |inr v=>exact(l8 k (dV v av)).2
 | .bad _,_,_,h=>h.elim
end
def Pk(M:List bo)(t:aH)(rs:List aX)(e:Env):(ga rs).den:=t.lF M e (fun _ C aF=>Ph rs C aF) (ga rs).gm
section
variable {P:Program} {G:aR} {M:List bo} {inl:Nat→List af→ay→aH}
theorem yG(cS:gV P G M inl){f:Nat}{m:bo}(t:aH)(aJ:inl f (jE 0 m.ps) (xv m.ps.length)=t)(he:(t.clean&&t.gG.all (DA m.rs))=true)
 (hm: ∀x,Pk M t m.rs (jl 0 (eK m.ps x))=m.m x):eF P G f m:=
 zg6 cS t aJ he fun x=>by rw[←hm x];exact(oY t _ _ _).symm
theorem zg8(cS:gV P G M inl){f:Nat}{m:bo}(t:aH)(aJ:inl f (jE 0 m.ps) (xv m.ps.length)=t)(he:t.gG.all (DA m.rs)=true)
 (ao: ∀x,ql m.pre x→t.wp M (jl 0 (eK m.ps x)) fun _ _ _=>True)(hm: ∀x,Pk M t m.rs (jl 0 (eK m.ps x))=m.m x):eF P G f m:=
 WL cS t aJ he (fun x hx=>(l8 t (ao x hx)).1) fun x _=>by rw[←hm x];exact(oY t _ _ _).symm
end
end Go.aK
