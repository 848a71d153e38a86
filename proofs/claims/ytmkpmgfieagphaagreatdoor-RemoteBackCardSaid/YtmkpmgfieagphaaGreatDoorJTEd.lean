/- TD, part Z: regions of drawn order, sound. Conditions: none. -/
import Derived.Test.YtmkpmgfieagphaaGreatDoorJTDy
namespace Go.aM
open Go
def xY(v:ab):Bool:=
 match v.rt with
 |some (.int _)=>true
 |some .bool=>true
 |some .str=>true
 |_=>false
def M1(P:Program)(S:aq)(t:TypeId)(id:Nat)(i:ab):Option dt:=
 match i.rt,kc P t,db S.h id with
 |some (.int k),some n,some (.rw _ c y)=>match Nat.beq n (bZ c)with
  |true=>some ⟨[],po S.g (.iQ c) (.kh c k) y i,.gM id i 0⟩
  |false=>none
 |_,_,_=>none
def M3(P:Program)(S:aq)(t:TypeId)(x i:ab):Option dt:=
 match i.rt,kc P t,va x with
 |some (.int k),some n,some c=>match Nat.beq n (bZ c)with
  |true=>some ⟨[.f2 (.kh c k) x i],po S.g (.iQ c) (.kh c k) x i,.ip c S.k 0⟩
  |false=>none
 |_,_,_=>none
def M4(P:Program)(S:aq)(t:TypeId)(id off:Nat)(i:ab):Option dt:=
 match i.rt,uF P t,u5 S (.eb id off)with
 |some (.int _),some (len,n),some _=>match i with
  | .cs (.int _ (.ofNat j))=>match Nat.blt j len,xi (j*n) (.eb id off)with
   |true,some p=>some ⟨[],[],p⟩
   |_,_=>none
  |i=>some ⟨[],xg S.g len i,.gT id off i n⟩
 |_,_,_=>none
def E7(P:Program)(N:Nat)(S:aq)(t:TypeId)(x:ab)(lo hi:Option Operand):Option dt:=
 match xn N S lo,xn N S hi,x.rt,kc P t with
 |some l,some h,some (.li c),some n=>match Nat.beq n (bZ c)with
  |true=>some ⟨[.eB c x l h],[.eB c x l h],.aV (.li c) S.k⟩
  |false=>none
 |_,_,_,_=>none
def r2(P:Program)(N:Nat)(S:aq)(o:Oper):Option dt:=
 match o.op with
 | .move x=>some ⟨[],[],S.aZ N x⟩
 | .assign x=>some ⟨[],[],S.aZ N x⟩
 | .nilCheck x=>match tc S (S.aZ N x)with
  |true=>some ⟨[],[],S.aZ N x⟩
  |false=>none
 | .fieldAddr t x f=>match sJ P t f,tc S (S.aZ N x)with
  |some k,true=>match xi k (S.aZ N x)with
   |some p=>some ⟨[],[],p⟩
   |none=>none
  |_,_=>none
 | .load t x=>match u5 S (S.aZ N x)with
  |some l=>match p9 P t l with
   |some v=>some ⟨[],[],v⟩
   |none=>none
  |none=>match qD P N S o with
   |some r=>match xY r.v with
    |true=>some r
    |false=>none
   |none=>none
 | .indexAddr t x i=>match S.aZ N x with
  | .aO id=>M1 P S t id (S.aZ N i)
  | .eb id off=>M4 P S t id off (S.aZ N i)
  |y=>M3 P S t y (S.aZ N i)
 | .slice t x lo hi none=>match E7 P N S t (S.aZ N x) lo hi with
  |some r=>some r
  |none=>match qD P N S o with
   |some r=>match xY r.v with
    |true=>some r
    |false=>none
   |none=>none
 |_=>match qD P N S o with
  |some r=>match xY r.v with
   |true=>some r
   |false=>none
  |none=>none
def ny(o:Oper):Bool:=
 match o.op with
 | .store _ _ _=>true
 | .alloc _=>true
 | .box _ _=>true
 | .buildSlice _ _ _=>true
 | .mapUpdate _ _ _ _=>true
 | .call c=>match c.callee with
  | .builtin .append=>true
  | .builtin .copy=>true
  |_=>false
 |_=>false
mutual
def ab.pure:ab→Bool
 | .aV _ _=>true
 | .fd _ _ _ _=>true
 | .cs _=>true
 | .ip _ _ _=>true
 | .ch l=>ab.e4 l
 | .tp l=>ab.e4 l
 | .fn _ a b=>ab.e4 a&&ab.e4 b
 |_=>false
def ab.e4:List ab→Bool
 |[]=>true
 |x::r=>ab.pure x&&ab.e4 r
end
def M5(S:aq)(dst:Option Nat)(C:aq):aB:=
 match ab.pure (C.at 0)with
 |true=>.cH .cj ((⟨S.l,S.h,S.n,C.k,C.g⟩:aq).put dst (C.at 0))
 |false=>.bad 74
def r3(P:Program)(N B:Nat)(T:List (Nat × bL))(inl:Nat→List ab→aq→aB)(o:Oper)(S:aq):aB:=
 match ny o with
 |true=>match Ez P N B T S o with
  |some r=>match hs S.k r.xs&&(r.v.lt (S.k+r.xs.length)&&eH (S.k+r.xs.length) r.h)with
   |true=>emit S.k r.xs r.ns (.cH .cj ((r.st S o.dst).e2 S.k r.xs))
   |false=>.bad 31
  |none=>.bad (100+Md o)
 |false=>match qD P N S o with
  |some r=>match hs S.k r.xs&&r.v.lt (S.k+r.xs.length)with
   |true=>emit S.k r.xs r.ns (.cH .cj ((S.e2 S.k r.xs).put o.dst r.v))
   |false=>.bad 30
  |none=>match AD P N S o with
   |some (f,aG)=>match m9 P f&&ab.e4 aG with
    |true=>(inl f aG ⟨.emp,[],0,S.k,S.g⟩).eK (M5 S o.dst) none
    |false=>.bad 32
   |none=>.bad (100+Md o)
def qM(P:Program)(N B:Nat)(T:List (Nat × bL))(inl:Nat→List ab→aq→aB)(ops:Array Oper)(o:Oper)(S:aq):aB:=
 match guardOf N ops S o with
 | .yes=>r3 P N B T inl o S
 | .no=>match ny o with
  |false=>.cH .cj (S.put o.dst (.tp []))
  |true=>.bad 73
 | .on gs=>match lS S.k gs&& !(ny o)with
  |true=>match qD P N {S with g:=ht gs S.g} o with
   |some r=>match hs S.k r.xs&&r.v.lt (S.k+r.xs.length)with
    |true=>emit S.k r.xs (r.ns.map (qH gs)) (.cH .cj ((S.e2 S.k r.xs).put o.dst (km gs r.v)))
    |false=>.bad 35
   |none=>tq (rY S o.dst) gs (r3 P N B T inl o {S with g:=ht gs S.g}) S.g
  |false=>.bad 36
 | .bad=>.bad 37
def tA(P:Program)(N:Nat)(ops:Array Oper)(o:Oper)(S:aq)(k:aq→aB):aB:=
 match guardOf N ops S o with
 | .yes=>match r2 P N S o with
  |some r=>match hs S.k r.xs&&r.v.lt (S.k+r.xs.length)with
   |true=>emit S.k r.xs r.ns (k ((S.e2 S.k r.xs).put o.dst r.v))
   |false=>.bad 30
  |none=>.bad 76
 | .no=>k (S.put o.dst (.tp []))
 | .on gs=>match lS S.k gs with
  |true=>match r2 P N {S with g:=ht gs S.g} o with
   |some r=>match hs S.k r.xs&&r.v.lt (S.k+r.xs.length)with
    |true=>emit S.k r.xs (r.ns.map (qH gs)) (k ((S.e2 S.k r.xs).put o.dst (km gs r.v)))
    |false=>.bad 35
   |none=>.bad 76
  |false=>.bad 36
 | .bad=>.bad 37
def pop(P:Program)(N:Nat)(S:aq)(o:Oper):Bool:=
 match o.op with
 | .move _=>true
 | .assign _=>true
 | .nilCheck _=>true
 | .fieldAddr _ _ _=>true
 | .indexAddr _ _ _=>true
 | .slice t x lo hi none=>(E7 P N S t (S.aZ N x) lo hi).isSome
 |_=>false
def xZ(P:Program)(N:Nat)(ops:Array Oper)(S:aq)(o:Oper):Bool:=
 match guardOf N ops S o with
 | .yes=>pop P N S o
 | .no=>true
 | .on gs=>pop P N {S with g:=ht gs S.g} o
 | .bad=>false
def zgd(P:Program)(N:Nat)(ops:Array Oper)(wr m:List Bool)(S:aq)(i:Nat):Bool:=
 match ops[i]? with
 |some o=>(Region.free .any ops m.toArray i&&(!(wr.getD i false)&&(xZ P N ops S o||E6 ops wr m i)))&&(match guardOf N ops S o with
  | .yes=>(r2 P N S o).isSome
  | .no=>true
  | .on gs=>(r2 P N {S with g:=ht gs S.g} o).isSome
  | .bad=>false)
 |none=>false
def Uh(P:Program)(N:Nat)(ops:Array Oper)(wr m:List Bool)(S:aq):List Nat→Option Nat
 |[]=>none
 |i::r=>match zgd P N ops wr m S i with
  |true=>some i
  |false=>Uh P N ops wr m S r
def E8(N:Nat)(ops:Array Oper)(S:aq)(o:Oper):List (ab × Bool):=
 match guardOf N ops S o with
 | .on gs=>gs
 |_=>[]
def M6:b6→b6→Bool
 | .d1 i f x,.d1 j g y=>Nat.beq i j&&(decide (f=g)&&eI x y)
 | .d2 i f x y,.d2 j g u v=>(Nat.beq i j&&decide (f=g))&&(eI x u&&eI y v)
 | .rg i b,.rg j c=>Nat.beq i j&&eI b c
 | .dT g b,.dT h c=>eI g h&&decide (b=c)
 |_,_=>false
def E9:List b6→List b6→Bool
 |[],[]=>true
 |x::l,y::m=>M6 x y&&E9 l m
 |_,_=>false
def M7:bC→bC→Bool
 | .dn t l,.dn u m=>Nat.beq t u&&pw l m
 | .rw t c x,.rw u d y=>Nat.beq t u&&(decide (c=d)&&eI x y)
 | .it u x p,.it v y q=>decide (u=v)&&(eI x y&&eI p q)
 |_,_=>false
def Fa:List (Nat × bC)→List (Nat × bC)→Bool
 |[],[]=>true
 |(i,x)::l,(j,y)::m=>Nat.beq i j&&(M7 x y&&Fa l m)
 |_,_=>false
def AZ:ba ab→ba ab→Bool
 | .emp,.emp=>true
 | .n v l r,.n w m s=>(match v,w with
  |some x,some y=>eI x y
  |none,none=>true
  |_,_=>false)&&(AZ l m&&AZ r s)
 |_,_=>false
def M8(S U:aq):Bool:=(AZ S.l U.l&&Fa S.h U.h)&&((Nat.beq S.n U.n&&Nat.beq S.k U.k)&&E9 S.g U.g)
def M9:bJ→bJ→Bool
 | .ca j aG,.ca i cO=>Nat.beq j i&&pw aG cO
 | .rK rs p i,.rK qs q j=>decide (rs=qs)&&(Nat.beq p q&&Nat.beq i j)
 | .f1 f x,.f1 g y=>decide (f=g)&&eI x y
 | .f2 f x y,.f2 g u v=>decide (f=g)&&(eI x u&&eI y v)
 | .w5 k v m x,.w5 bk bh vx iI=>(decide (k=bk)&&decide (v=bh))&&(eI m vx&&eI x iI)
 | .u2 k v m x,.u2 bk bh vx iI=>(decide (k=bk)&&decide (v=bh))&&(eI m vx&&eI x iI)
 |_,_=>false
def Na:fe→fe→Bool
 | .f2 n f x y,.f2 m g u v=>(Nat.beq n m&&decide (f=g))&&(eI x u&&eI y v)
 | .ca j aG,.ca i cO=>Nat.beq j i&&pw aG cO
 | .nth n x,.nth m y=>Nat.beq n m&&eI x y
 |_,_=>false
def qN:aB→aB→Bool
 | .cH .cj S,.cH .cj U=>M8 S U
 | .lt i x t,.lt j y u=>Nat.beq i j&&(M9 x y&&qN t u)
 | .eG n t,.eG m u=>Na n m&&qN t u
 |_,_=>false
def A0:List aB→aB
 |t::r=>match r.all (qN t)with
  |true=>t
  |false=>.bad 71
 |[]=>.bad 71
def qO(P:Program)(N B:Nat)(T:List (Nat × bL))(inl:Nat→List ab→aq→aB)(ops:Array Oper)(wr:List Bool):Nat→List Bool→aq→aB
 |0,m,S=>match Region.ready .any ops m.toArray with
  |[]=>.cH .cj S
  |_=>.bad 70
 |n+1,m,S=>match Region.ready .any ops m.toArray with
  |[]=>.cH .cj S
  |i::rd=>match Uh P N ops wr m S (i::rd)with
   |some j=>match ops[j]?,(Region.ready .any ops m.toArray).contains j&&(Region.free .any ops m.toArray j&& !(wr.getD j false))with
    |some o,true=>match xZ P N ops S o||E6 ops wr m j with
     |true=>tA P N ops o S (qO P N B T inl ops wr n (m.set j true))
     |false=>.bad 79
    |_,_=>.bad 77
   |none=>match rd,ops[i]? with
    |[],some o=>match decide (wr.getD i false=ny o)with
     |true=>qF N S o.dst (E8 N ops S o) (qM P N B T inl ops o S) (qO P N B T inl ops wr n (m.set i true))
     |false=>.bad 78
    |_,_=>A0 ((i::rd).map fun j=>match ops[j]? with
     |some o=>match decide (wr.getD j false=ny o)with
      |true=>qF N S o.dst (E8 N ops S o) (qM P N B T inl ops o S) (qO P N B T inl ops wr n (m.set j true))
      |false=>.bad 78
     |none=>.bad 77)
def Nb(P:Program)(N B:Nat)(T:List (Nat × bL))(inl:Nat→List ab→aq→aB)(ops:Array Oper)(S:aq):aB:=
 match P.follows .mixedOrders&&Region.noSelect ops with
 |true=>qO P N B T inl ops (ops.toList.map ny) ops.size (List.replicate ops.size false) S
 |false=>.bad 75
section
variable {P:Program} {G:a8} {N B:Nat} {M:List aS} {T:List (Nat × bL)} {inl:Nat→List ab→aq→aB}
theorem zge{v:ab}{e:Env}(h:xY v=true): ∃c,v.den G e= .av (.v c):=by
 unfold xY at h
 split at h
 ·rename_i af;exact⟨_,fW af⟩
 ·rename_i af;exact⟨_,fW af⟩
 ·rename_i af;exact⟨_,fW af⟩
 ·cases h
theorem zgf{t:TypeId}{n:Nat}(h:mi P t=some n):scalar P t=false:=by
 unfold mi at h
 unfold scalar
 split at h<;>simp_all
theorem jU.r4{ops:Array Oper}{o:Oper}{s:aP}{v:aD}(h:mA P G o s v)(ah:dN ops s o=some true):jU P G ops o s (s.put o.dst v):=by
 intro E a w ⟨β,ro,af⟩
 have hw:=n3 (ops:=ops) ⟨β,ro,af⟩ ah
 obtain⟨c,aa,ae⟩:=h E a w β ro af
 exact⟨c,.inl ⟨hw,fun dx _=>aa dx⟩,β,ro,af.put _ _ _ ae⟩
theorem Ui{o:Oper}{S:aq}{t:TypeId}{x i:Operand}{r:dt}{e:Env}(an:o.op= .indexAddr t x i)(h:M3 P S t (S.aZ N x) (S.aZ N i)=some r)(hf:S.ct e)(hx: ∀(j:Nat) (x:bJ),r.xs[j]? =some x→Env.at e (S.k+j)=x.den M e)(hn: ∀n∈r.ns,n.ok M e):mA P G o (S.den G N B e) (r.v.den G e):=by
 unfold M3 at h
 split at h
 ·rename_i k n c hi lQ hc
  split at h
  ·rename_i ad
   cases h
   have ad:=Nat.eq_of_beq_eq_true ad
   rw[ad]at lQ
   have hl:aL G (S.den G N B e) i=_:=(bE hf i).trans (jx hi)
   obtain⟨hd,Am⟩:=D4 (G:=G) (e:=e) hc;obtain⟨g1,g2⟩:=xh hf hi hn
   have:=R6 c _ k _ an lQ hl ((bE hf x).trans hd) g1 g2
   have aH:Env.at e S.k=_:=hx 0 _ rfl
   have aa:=Sz (G:=G) (x:=List.getD ((S.aZ N x).aA e (.li c)) (Int.toNat ((S.aZ N i).aA e (.int k))) (az c)) aH
   show mA P G o _ ((ab.ip c S.k 0).den G e);rw[aa];exact this
  ·cases h
 ·cases h
theorem zgg{o:Oper}{s:aP}(t:TypeId)(x i:Operand)(an:o.op= .indexAddr t x i){n:Nat}(aI:kc P t=some n){k:IntKind}{j:Nat}(hi:aL G s i= .av (.v (.int k (j:Int)))){p:aD}(ak:mq s.heap n j (aL G s x)=some p):
 mA P G o s p:=
 fun _ a w β ro af=>by
  obtain⟨cY,len,cap,hc,ag,dB⟩:=Q4 af.heap (af.eval x) ak;obtain⟨e,hu,bP⟩:=zy aI;refine⟨_,fun dx=>?_,dB⟩
  have rv:(0:Int)≤j∧(j:Int)<len:=⟨by omega,by omega⟩
  simp[execOp,an,hc,af.ec hi,Instr.indexAt,asIntOf,run_underlying hu,ag,bP]
theorem Uj{o:Oper}{S:aq}{t:TypeId}{x i:Operand}{id:Nat}{r:dt}{e:Env}(an:o.op= .indexAddr t x i)(bd:S.aZ N x= .aO id)(h:M1 P S t id (S.aZ N i)=some r)(hf:S.ct e)(hx: ∀(j:Nat) (x:bJ),r.xs[j]? =some x→Env.at e (S.k+j)=x.den M e)(hn: ∀n∈r.ns,n.ok M e):mA P G o (S.den G N B e) (r.v.den G e):=by
 unfold M1 at h
 split at h
 ·rename_i k n bz c y hi lQ ah
  split at h
  ·rename_i ad
   cases h
   have ad:=Nat.eq_of_beq_eq_true ad
   have hl:aL G (S.den G N B e) i=_:=(bE hf i).trans (jx hi)
   obtain⟨g1,g2⟩:=xh hf hi hn;obtain⟨j,ag⟩: ∃j:Nat,(S.aZ N i).aA e (.int k)=(j:Int):=⟨_,(Int.toNat_of_nonneg g1).symm⟩;rw[ag]at hl g2
   have g2:(j:Int)<((List.length (y.aA e (.li c)):Nat):Int):=g2
   have:=zgg (P:=P) (o:=o) t x i an lQ hl (p:=.cW id j 0) (by
    rw[bE hf,bd];simp only[ab.den,mq,aq.den,ef,ah,Option.map_some,bC.den]
    rw[if_pos ⟨ad.symm,by rw[List.length_map];omega⟩])
   simp only[ab.den,lP hi,ag,Int.toNat_natCast];exact this
  ·cases h
 ·cases h
theorem Uk{o:Oper}{s:aP}(t:TypeId)(x i:Operand)(an:o.op= .indexAddr t x i){len n:Nat}(aI:uF P t=some (len,n)){k:IntKind}{j:Nat}(hi:aL G s i= .av (.v (.int k (j:Int))))(ag:j<len)
 {cs:List aD}(dI:fl s.heap (aL G s x)=some cs){p:aD}(ak:iK (j*n) (aL G s x)=some p):
 mA P G o s p:=
 fun _ a w β ro af=>by
  obtain⟨cY,hc,dB⟩:=Qq ak dI (af.eval x);unfold uF at aI
  split at aI
  ·rename_i m e hu
   cases uG:P.info? e with
   |none=>simp[uG]at aI
   |some zcu=>
    simp[uG]at aI;obtain⟨rfl,rfl⟩:=aI;refine⟨_,fun dx=>?_,dB⟩
    simp[execOp,an,hc,af.ec hi,Instr.indexAt,asIntOf,run_underlying hu,Instr.sureAddr,ag,sizeOf,typeInfo,uG]
  ·cases aI
theorem Ul{o:Oper}{S:aq}{t:TypeId}{x i:Operand}{id off:Nat}{r:dt}{e:Env}(an:o.op= .indexAddr t x i)(bd:S.aZ N x= .eb id off)(h:M4 P S t id off (S.aZ N i)=some r)(hf:S.ct e)(hn: ∀n∈r.ns,n.ok M e):mA P G o (S.den G N B e) (r.v.den G e):=by
 unfold M4 at h
 split at h
 ·rename_i k len n l hi aY ar
  have hl:aL G (S.den G N B e) i=_:=(bE hf i).trans (jx hi)
  have dI:=Ai (G:=G) (N:=N) (B:=B) (e:=e) ar
  have jy:aL G (S.den G N B e) x=(ab.eb id off).den G e:=by rw[bE hf,bd]
  rw[←jy]at dI
  split at h
  ·rename_i bk j ag
   split at h
   ·rename_i p cL ak
    cases h;refine Uk t x i an aY (k:=bk) (j:=j) (by rw[bE hf,ag];rfl) (e7 cL) dI ?_
    have ai:=Aj (G:=G) (e:=e) ak
    rw[←ai,jy];rfl
   ·cases h
  ·cases h
   have jr:0≤ck ((S.aZ N i).dyn e)∧ck ((S.aZ N i).dyn e)<(len:Int):=DR hf hn
   obtain⟨j,ag⟩: ∃j:Nat,ck ((S.aZ N i).dyn e)=(j:Int):=⟨_,(Int.toNat_of_nonneg jr.1).symm⟩;rw[←lP hi,ag]at hl;refine Uk t x i an aY hl (by omega) dI ?_
   rw[jy];simp only[ab.den,iK,ag,Int.toNat_natCast]
 ·cases h
theorem Um{o:Oper}{S:aq}{t:TypeId}{x:Operand}{lo hi:Option Operand}{r:dt}{e:Env}(an:o.op= .slice t x lo hi none)(h:E7 P N S t (S.aZ N x) lo hi=some r)(hf:S.ct e)(hx: ∀(j:Nat) (x:bJ),r.xs[j]? =some x→Env.at e (S.k+j)=x.den M e)(hn: ∀n∈r.ns,n.ok M e):mA P G o (S.den G N B e) (r.v.den G e):=by
 unfold E7 at h
 split at h
 ·rename_i l h' c n ar bb af lQ
  split at h
  ·rename_i ad
   cases h;rw[Nat.eq_of_beq_eq_true ad]at lQ
   have aH:Env.at e S.k=_:=hx 0 _ rfl
   simp only[ab.den,aH,bJ.den,cA];exact Sk c _ an lQ ((bE hf x).trans (fW af)) (xp hf ar) (xp hf bb) (hn _ (List.mem_singleton.2 rfl))
  ·cases h
 ·cases h
theorem zgh{ops:Array Oper}{o:Oper}{S:aq}{r:dt}{e:Env}(h:r2 P N S o=some r)(hf:S.ct e)(hx: ∀(j:Nat) (x:bJ),r.xs[j]? =some x→Env.at e (S.k+j)=x.den M e)(hn: ∀n∈r.ns,n.ok M e)(ah:dN ops (S.den G N B e) o=some true):
 jU P G ops o (S.den G N B e) ((S.den G N B e).put o.dst (r.v.den G e)):=by
 have key:(match qD P N S o with
  |some r=>match xY r.v with
   |true=>some r
   |false=>none
  |none=>none)=some r→jU P G ops o (S.den G N B e) ((S.den G N B e).put o.dst (r.v.den G e)):=fun h=>by
  split at h
  ·rename_i eR aw
   split at h
   ·rename_i hc
    cases h
    have dD:=vd (G:=G) (B:=B) (M:=M) aw e hf hx hn
    obtain⟨c,zgi⟩:=zge (G:=G) (e:=e) hc;rw[zgi]at dD⊢;exact jU.rD dD ah
   ·cases h
  ·cases h
 unfold r2 at h
 split at h
 ·rename_i x an
  cases h
  have:kf P G o (S.den G N B e)=some ((S.aZ N x).den G e):=by unfold kf;rw[an,←bE hf]
  exact(ho.val this ah).l
 ·rename_i x an
  cases h
  have:kf P G o (S.den G N B e)=some ((S.aZ N x).den G e):=by unfold kf;rw[an,←bE hf]
  exact(ho.val this ah).l
 ·rename_i x an
  split at h
  ·rename_i ak
   cases h
   have:kf P G o (S.den G N B e)=some ((S.aZ N x).den G e):=by
    unfold kf;rw[an];simp only[bE hf,u7 ak]
   exact(ho.val this ah).l
  ·cases h
 ·rename_i t x f an
  split at h
  ·rename_i k aj ak
   split at h
   ·rename_i p ai
    cases h
    have:kf P G o (S.den G N B e)=some (p.den G e):=by
     unfold kf;rw[an];simp only[aj,bE hf,u7 ak,Aj ai]
    exact(ho.val this ah).l
   ·cases h
  ·cases h
 ·rename_i t x an
  split at h
  ·rename_i l ar
   split at h
   ·rename_i v aw
    cases h
    have hc:=Ai (G:=G) (N:=N) (B:=B) (e:=e) ar
    have:Dw P G o (S.den G N B e)=some (v.den G e):=by
     unfold Dw;rw[an];simp only[bE hf,hc]
     rcases TG (G:=G) (e:=e) aw with⟨n,g1,g2,g3,g4⟩|⟨g1,g2,eR,g3⟩
     ·cases l with
      |nil=>simp at g2;omega
      |cons y l=>
       have ai:scalar P t=false:=zgf g1
       rw[g4];simp only[ab.bQ,ai,g1];rw[if_pos ⟨by simpa[me]using g2,g3⟩]
     ·subst g3
      simp only[ab.bQ,g2]
    exact jU.load this ah
   ·cases h
  ·exact key h
 ·rename_i t x i an
  split at h
  ·rename_i id bd
   exact jU.r4 (Uj an bd h hf hx hn) ah
  ·rename_i id off bd
   exact jU.r4 (Ul an bd h hf hn) ah
  ·exact jU.r4 (Ui an h hf hx hn) ah
 ·rename_i t x lo hi an
  split at h
  ·rename_i eR ai
   cases h;exact jU.r4 (Um an ai hf hx hn) ah
  ·exact key h
 ·exact key h
mutual
theorem Un{e:Env}: ∀{x:ab},ab.pure x=true→fA (x.den G e)=true:=fun {x} h=>by
 cases x with
 |ch l=>simp only[ab.den,fA];exact x1 (l:=l) h
 |tp l=>simp only[ab.den,fA];exact x1 (l:=l) h
 |fn f a b=>
  simp only[ab.pure,Bool.and_eq_true]at h;simp only[ab.den,fA,x1 h.1,x1 h.2,Bool.and_self]
 |eb k o=>cases h
 |gM k x o=>cases h
 |gT k o x n=>cases h
 |cO k n=>cases h
 |fg g i o=>cases h
 |aO k=>cases h
 |gW k=>cases h
 |fE g b x=>cases h
 |lN g o=>cases h
 |top=>cases h
 |_=>rfl
theorem x1{e:Env}: ∀{l:List ab},ab.e4 l=true→e4 (ab.bQ G e l)=true:=fun {l} h=>by
 match l with
 |[]=>rfl
 |x::r=>
  simp only[ab.e4,Bool.and_eq_true]at h;simp only[ab.bQ,e4,Un h.1,x1 h.2,Bool.and_self]
end
def tB(G:a8)(N B:Nat)(M:List aS)(t:aB)(e:Env)(aX:Nat):aP→Prop:=fun st=>
 ∃aT aC,run M t e=some (.cj,aT,aC)∧aT.cr∧aT.ct aC∧bX aX e aC∧aX≤aT.k∧st=aT.den G N B aC
theorem Uo(bU:fK P G M inl){ops:Array Oper}{o:Oper}{S:aq}{e:Env}(ad:S.cr)(hf:S.ct e)(ai:(r3 P N B T inl o S).safe M e)(ah:dN ops (S.den G N B e) o=some true):
 (ny o=true→M0 P G ops o (S.den G N B e) (tB G N B M (r3 P N B T inl o S) e S.k))∧(ny o=false→ko P G ops o (S.den G N B e) (tB G N B M (r3 P N B T inl o S) e S.k)):=by
 refine⟨fun hw=>?_,fun hw=>?_⟩
 ·unfold r3 at ai⊢
  rw[hw]at ai⊢;simp only at ai⊢
  split at ai
  ·rename_i r aJ
   split at ai
   ·rename_i hc
    simp only[Bool.and_eq_true]at hc;obtain⟨gR,gw⟩:=mH ai
    have bS:bX S.k e (di M e S.k r.xs):=jW (Nat.le_refl _)
    have dD:=Tl (G:=G) (M:=M) aJ (di M e S.k r.xs) (ik bS ad.g hf) (jz hc.1) gR
    rw[lh bS ad]at dD;obtain⟨dx,eS⟩:=Tr (M:=M) (o:=o) ad hf hc.1 hc.2.1 hc.2.2;exact fun E a w af=>⟨n3 af ah,fun K Q hK=>dD E a w af K Q fun bc w' dW=>hK _ ⟨(r.st S o.dst).e2 S.k r.xs,_,lR,dx,eS,bS,Nat.le_add_right _ _,rfl⟩ bc w' dW⟩
   ·exact ai.elim
  ·exact ai.elim
 ·unfold r3 at ai⊢
  rw[hw]at ai⊢;simp only at ai⊢
  split at ai
  ·rename_i r aw
   split at ai
   ·rename_i hc
    simp only[Bool.and_eq_true]at hc;obtain⟨gR,gw⟩:=mH ai;obtain⟨b7,a2,a3⟩:=rZ (M:=M) (G:=G) (N:=N) (B:=B) ad hf hc.1
    have bS:bX S.k e (di M e S.k r.xs):=jW (Nat.le_refl _)
    have dD:=vd (G:=G) (B:=B) (M:=M) aw (di M e S.k r.xs) (ik bS ad.g hf) (jz hc.1) gR
    rw[lh bS ad]at dD;exact ko.v dD ah ⟨(S.e2 S.k r.xs).put o.dst r.v,_,lR,jd b7 hc.2,je a2,bS,by rw[jf];exact Nat.le_add_right _ _,by rw[fa,a3]⟩
   ·exact ai.elim
  ·split at ai
   ·rename_i f aG uW
    split at ai
    ·rename_i gC
     simp only[Bool.and_eq_true]at gC;obtain⟨gC,Nc⟩:=gC;obtain⟨g1,g2,g3⟩:=jg (inl f aG ⟨.emp,[],0,S.k,S.g⟩) none ai;obtain⟨p,q',args,mX,vg,bI⟩:=Tt (G:=G) (B:=B) uW hf ad
     have G4:(⟨.emp,[],0,S.k,S.g⟩:aq).cr:=⟨fun i x hx=>by simp[ba.get]at hx,rfl,ad.g⟩
     have hk:=bU f _ ⟨.emp,[],0,S.k,S.g⟩ e G4 bI hf g1
     have x2:=x1 (G:=G) (e:=e) Nc
     rw[mX]at hk x2;refine ko.call vg gC ah x2 hk fun r bV ⟨C,ay,aU,da,c9,gk,iJ,kC,jL⟩=>?_
     have ak:=(g3 C ay aU).1
     have kl:ab.pure (C.at 0)=true:=by
      unfold M5 at ak
      split at ak
      ·assumption
      ·exact ak.elim
     refine⟨by rw[da];exact Un kl,(⟨S.l,S.h,S.n,C.k,C.g⟩:aq).put o.dst (C.at 0),ay,?_,?_,je iJ,kC,by rw[jf];exact jL,?_⟩
     ·rw[g2,aU]
      simp only[iA,M5,kl];rfl
     ·refine jd ⟨fun i x hx=>gE jL (ad.l i x hx),s9 jL ad.h,gk.g⟩ ?_
      show(C.at 0).lt C.k=true;unfold aq.at
      cases hC:C.l.get 0 with
      |none=>rfl
      |some y=>exact gk.l 0 y hC
     ·rw[fa,da]
      have:=lh (G:=G) (N:=N) (B:=B) (S:=S) kC ad
      have ae:(aq.mk S.l S.h S.n C.k C.g).den G N B ay=S.den G N B e:=this
      rw[ae]
    ·exact ai.elim
   ·exact ai.elim
theorem zgj{o:Oper}{S:aq}{e:Env}(ad:S.cr)(hf:S.ct e):tB G N B M (.cH .cj (S.put o.dst (.tp []))) e S.k ((S.den G N B e).put o.dst (.tuple [])):=
 ⟨S.put o.dst (.tp []),e,rfl,jd ad rfl,je hf,bX.refl _ _,by rw[jf];exact Nat.le_refl _,by rw[fa];rfl⟩
theorem ko.mono{ops:Array Oper}{o:Oper}{s:aP}{A Up:aP→Prop}(h:ko P G ops o s A)(dq: ∀t,A t→Up t):ko P G ops o s Up:=fun E a w af=>by
 rcases h E a w af with⟨aa,ae⟩|⟨aa,t,ae,au⟩
 ·exact .inl ⟨aa,fun K Q hK=>ae K Q fun t aI=>hK t (dq t aI)⟩
 ·exact .inr ⟨aa,t,dq t ae,au⟩
theorem Uq(bU:fK P G M inl){ops:Array Oper}{o:Oper}{S:aq}{e:Env}(ad:S.cr)(hf:S.ct e)(ai:(qM P N B T inl ops o S).safe M e):
 (ny o=true→M0 P G ops o (S.den G N B e) (tB G N B M (qM P N B T inl ops o S) e S.k))∧(ny o=false→ko P G ops o (S.den G N B e) (tB G N B M (qM P N B T inl ops o S) e S.k)):=by
 have ah:=Mk (G:=G) (N:=N) (B:=B) (ops:=ops) (o:=o) hf
 unfold qM at ai⊢
 cases iU:guardOf N ops S o with
 |yes=>
  rw[iU]at ah ai;exact Uo bU ad hf ai ah
 |no=>
  rw[iU]at ah ai;simp only at ai⊢
  split at ai
  ·rename_i hw
   exact⟨fun h=>(by rw[hw]at h;cases h),fun _=>.no ah (zgj ad hf)⟩
  ·exact ai.elim
 |bad=>rw[iU]at ai;exact ai.elim
 |on gs=>
  rw[iU]at ah ai;simp only at ai⊢;obtain⟨g1,g2⟩:=ah
  split at ai
  ·rename_i Ur
   simp only[Bool.and_eq_true,Bool.not_eq_true']at Ur;obtain⟨kM,hw⟩:=Ur;refine⟨fun h=>(by rw[hw]at h;cases h),fun _=>?_⟩
   split at ai
   ·rename_i q aw
    split at ai
    ·rename_i hc
     simp only[Bool.and_eq_true]at hc;obtain⟨gR,gw⟩:=mH ai;obtain⟨b7,a2,a3⟩:=rZ (M:=M) (G:=G) (N:=N) (B:=B) ad hf hc.1
     have bS:bX S.k e (di M e S.k q.xs):=jW (Nat.le_refl _)
     have h9:fH (di M e S.k q.xs) gs=fH e gs:=EJ bS kM
     have aj:S.k≤S.k+q.xs.length:=Nat.le_add_right _ _
     have fy:(km gs q.v).lt (S.k+q.xs.length)=true:=EH (EI aj kM) hc.2
     have hM: ∀t,t=(S.den G N B e).put o.dst ((km gs q.v).den G (di M e S.k q.xs))→tB G N B M (emit S.k q.xs (q.ns.map (qH gs)) (.cH .cj ((S.e2 S.k q.xs).put o.dst (km gs q.v)))) e S.k t:=fun t aI=>
      ⟨(S.e2 S.k q.xs).put o.dst (km gs q.v),_,lR,jd b7 fy,je a2,bS,by rw[jf];exact Nat.le_add_right _ _,by rw[fa,a3,aI]⟩
     cases fq:fH e gs with
     |true=>
      have h5:=xK hf fq
      have ih:=xJ ad kM
      have dD:=vd (G:=G) (B:=B) (M:=M) aw (di M e S.k q.xs) (ik bS ih.g h5) (jz hc.1) fun n hn=>EM (gR (qH gs n) (List.mem_map.2 ⟨n,hn,rfl⟩)) (h9.trans fq)
      have xM:({S with g:=ht gs S.g}:aq).den G N B (di M e S.k q.xs)=S.den G N B e:=lh (S:={S with g:=ht gs S.g}) bS ih
      rw[xM]at dD;exact ko.v dD (g1 fq) (hM _ (by rw[EK (h9.trans fq)]))
     |false=>exact ko.no (g2 fq) (hM _ (by rw[EL (h9.trans fq)]))
    ·exact ai.elim
   ·cases fq:fH e gs with
    |false=>
     obtain⟨h2,c3,dj,gV⟩:=Mn (M:=M) (x:=r3 P N B T inl o {S with g:=ht gs S.g}) (y:=rY S o.dst) (l:=S.g) fq kM ad.g hf
     obtain⟨aT,rV,pF,Mq,Mr,Ms⟩:=TA (G:=G) (N:=N) (B:=B) (dst:=o.dst) ad dj gV;exact ko.no (g2 fq) ⟨aT,e,by rw[c3,rV];rfl,pF,Mq,bX.refl _ _,Mr,Ms.symm⟩
    |true=>
     have h5:=xK hf fq
     have ih:=xJ ad kM
     obtain⟨f1,f2⟩:=Mm (M:=M) (x:=r3 P N B T inl o {S with g:=ht gs S.g}) (y:=rY S o.dst) (l:=S.g) fq
     refine ko.mono ((Uo bU (S:={S with g:=ht gs S.g}) ih h5 (f2 ai) (g1 fq)).2 hw) fun t ⟨aT,aC,aa,ae⟩=>⟨aT,aC,?_,ae⟩
     rw[f1];exact aa
  ·exact ai.elim
theorem Us{ops:Array Oper}{o:Oper}{S:aq}{e:Env}{k:aq→aB}(X:aP→aP→Prop)(c:aq→Prop)
 (ar: ∀(S:aq) (r:dt) (e:Env),c S→r2 P N S o=some r→S.ct e→(∀(j:Nat) (x:bJ),r.xs[j]? =some x→Env.at e (S.k+j)=x.den M e)→(∀n∈r.ns,n.ok M e)→dN ops (S.den G N B e) o=some true→X (S.den G N B e) ((S.den G N B e).put o.dst (r.v.den G e)))
 (aj: ∀s,dN ops s o=some false→X s (s.put o.dst (.tuple [])))(hC:guardOf N ops S o= .yes→c S)(C9: ∀gs,guardOf N ops S o= .on gs→c {S with g:=ht gs S.g})(ad:S.cr)(hf:S.ct e)(ai:(tA P N ops o S k).safe M e):
 ∃aT aC,aT.cr∧aT.ct aC∧bX S.k e aC∧S.k≤aT.k∧(k aT).safe M aC∧run M (tA P N ops o S k) e=run M (k aT) aC∧X (S.den G N B e) (aT.den G N B aC):=by
 have ah:=Mk (G:=G) (N:=N) (B:=B) (ops:=ops) (o:=o) hf
 unfold tA at ai⊢
 cases iU:guardOf N ops S o with
 |bad=>rw[iU]at ai;exact ai.elim
 |no=>
  rw[iU]at ah ai
  have:=aj _ ah
  exact⟨S.put o.dst (.tp []),e,jd ad rfl,je hf,bX.refl _ _,by rw[jf];exact Nat.le_refl _,ai,rfl,by rw[fa];exact this⟩
 |yes=>
  rw[iU]at ah ai;simp only at ai⊢
  split at ai
  ·rename_i q aw
   split at ai
   ·rename_i hc
    simp only[Bool.and_eq_true]at hc;obtain⟨gR,gw⟩:=mH ai;obtain⟨b7,a2,a3⟩:=rZ (M:=M) (G:=G) (N:=N) (B:=B) ad hf hc.1
    have bS:bX S.k e (di M e S.k q.xs):=jW (Nat.le_refl _)
    have hd:=lh (G:=G) (N:=N) (B:=B) bS ad
    have dD:=ar _ _ _ (hC iU) aw (ik bS ad.g hf) (jz hc.1) gR (by rw[hd];exact ah)
    rw[hd]at dD;exact⟨(S.e2 S.k q.xs).put o.dst q.v,_,jd b7 hc.2,je a2,bS,by rw[jf];exact Nat.le_add_right _ _,gw,lR,by rw[fa,a3];exact dD⟩
   ·exact ai.elim
  ·exact ai.elim
 |on gs=>
  rw[iU]at ah ai;simp only at ai⊢;obtain⟨g1,g2⟩:=ah
  split at ai
  ·rename_i kM
   split at ai
   ·rename_i q aw
    split at ai
    ·rename_i hc
     simp only[Bool.and_eq_true]at hc;obtain⟨gR,gw⟩:=mH ai;obtain⟨b7,a2,a3⟩:=rZ (M:=M) (G:=G) (N:=N) (B:=B) ad hf hc.1
     have bS:bX S.k e (di M e S.k q.xs):=jW (Nat.le_refl _)
     have h9:fH (di M e S.k q.xs) gs=fH e gs:=EJ bS kM
     have q9:S.k≤S.k+q.xs.length:=Nat.le_add_right _ _
     have fy:(km gs q.v).lt (S.k+q.xs.length)=true:=EH (EI q9 kM) hc.2
     refine⟨(S.e2 S.k q.xs).put o.dst (km gs q.v),_,jd b7 fy,je a2,bS,by rw[jf];exact Nat.le_add_right _ _,gw,lR,?_⟩
     rw[fa,a3]
     cases fq:fH e gs with
     |true=>
      have h5:=xK hf fq
      have ih:=xJ ad kM
      have xM:({S with g:=ht gs S.g}:aq).den G N B (di M e S.k q.xs)=S.den G N B e:=lh (S:={S with g:=ht gs S.g}) bS ih
      have dD:=ar _ _ _ (C9 gs iU) aw (ik bS ih.g h5) (jz hc.1) (fun n hn=>EM (gR (qH gs n) (List.mem_map.2 ⟨n,hn,rfl⟩)) (h9.trans fq)) (by rw[xM];exact g1 fq)
      rw[xM]at dD;rw[EK (h9.trans fq)];exact dD
     |false=>
      rw[EL (h9.trans fq)];exact aj _ (g2 fq)
    ·exact ai.elim
   ·exact ai.elim
  ·exact ai.elim
theorem zgk{ops:Array Oper}{o:Oper}{S:aq}{e:Env}{k:aq→aB}(ad:S.cr)(hf:S.ct e)(ai:(tA P N ops o S k).safe M e):
 ∃aT aC,aT.cr∧aT.ct aC∧bX S.k e aC∧S.k≤aT.k∧(k aT).safe M aC∧run M (tA P N ops o S k) e=run M (k aT) aC∧jU P G ops o (S.den G N B e) (aT.den G N B aC):=
 Us (jU P G ops o) (fun _=>True) (fun _ _ _ _ aw hf hx hn ah=>zgh aw hf hx hn ah) (fun _ h=>(ho.skip h).l) (fun _=>trivial) (fun _ _=>trivial) ad hf ai
theorem ho.r4{ops:Array Oper}{o:Oper}{s:aP}{v:aD}(h:mA P G o s v)(ah:dN ops s o=some true):ho P G ops o s (s.put o.dst v):=by
 intro E a w ⟨β,ro,af⟩
 have hw:=n3 (ops:=ops) ⟨β,ro,af⟩ ah
 obtain⟨c,aa,ae⟩:=h E a w β ro af
 exact⟨c,.inl ⟨hw,aa⟩,β,ro,af.put _ _ _ ae⟩
theorem zgl{ops:Array Oper}{o:Oper}{S:aq}{r:dt}{e:Env}(ak:pop P N S o=true)(h:r2 P N S o=some r)(hf:S.ct e)(hx: ∀(j:Nat) (x:bJ),r.xs[j]? =some x→Env.at e (S.k+j)=x.den M e)(hn: ∀n∈r.ns,n.ok M e)(ah:dN ops (S.den G N B e) o=some true):
 ho P G ops o (S.den G N B e) ((S.den G N B e).put o.dst (r.v.den G e)):=by
 unfold r2 at h
 unfold pop at ak
 split at h
 ·rename_i x an
  cases h
  have:kf P G o (S.den G N B e)=some ((S.aZ N x).den G e):=by unfold kf;rw[an,←bE hf]
  exact ho.val this ah
 ·rename_i x an
  cases h
  have:kf P G o (S.den G N B e)=some ((S.aZ N x).den G e):=by unfold kf;rw[an,←bE hf]
  exact ho.val this ah
 ·rename_i x an
  split at h
  ·rename_i aJ
   cases h
   have:kf P G o (S.den G N B e)=some ((S.aZ N x).den G e):=by
    unfold kf;rw[an];simp only[bE hf,u7 aJ]
   exact ho.val this ah
  ·cases h
 ·rename_i t x f an
  split at h
  ·rename_i k aj aJ
   split at h
   ·rename_i p ai
    cases h
    have:kf P G o (S.den G N B e)=some (p.den G e):=by
     unfold kf;rw[an];simp only[aj,bE hf,u7 aJ,Aj ai]
    exact ho.val this ah
   ·cases h
  ·cases h
 ·rename_i t x an
  rw[an]at ak;cases ak
 ·rename_i t x i an
  split at h
  ·rename_i id bd
   exact ho.r4 (Uj an bd h hf hx hn) ah
  ·rename_i id off bd
   exact ho.r4 (Ul an bd h hf hn) ah
  ·exact ho.r4 (Ui an h hf hx hn) ah
 ·rename_i t x lo hi an
  split at h
  ·rename_i eR ai
   cases h;exact ho.r4 (Um an ai hf hx hn) ah
  ·rename_i ai
   rw[an]at ak;simp only[ai,Option.isSome_none]at ak;cases ak
 ·rename_i aa ae au aR bA cB dM
  split at ak
  ·rename_i x an;exact absurd an (aa x)
  ·rename_i x an;exact absurd an (ae x)
  ·rename_i x an;exact absurd an (au x)
  ·rename_i t x f an;exact absurd an (aR t x f)
  ·rename_i t x i an;exact absurd an (cB t x i)
  ·rename_i t x lo hi an;exact absurd an (dM t x lo hi)
  ·cases ak
theorem zgm{ops:Array Oper}{o:Oper}{S:aq}{e:Env}{k:aq→aB}(ak:xZ P N ops S o=true)(ad:S.cr)(hf:S.ct e)(ai:(tA P N ops o S k).safe M e):
 ∃aT aC,aT.cr∧aT.ct aC∧bX S.k e aC∧S.k≤aT.k∧(k aT).safe M aC∧run M (tA P N ops o S k) e=run M (k aT) aC∧ho P G ops o (S.den G N B e) (aT.den G N B aC):=
 Us (ho P G ops o) (fun S=>pop P N S o=true) (fun _ _ _ hc aw hf hx hn ah=>zgl hc aw hf hx hn ah) (fun _ h=>ho.skip h)
  (fun ah=>by unfold xZ at ak;rw[ah]at ak;exact ak) (fun gs ah=>by unfold xZ at ak;rw[ah]at ak;exact ak) ad hf ai
theorem zgn{x y:b6}(h:M6 x y=true):x=y:=by
 unfold M6 at h
 split at h
 ·simp only[Bool.and_eq_true,decide_eq_true_eq]at h;rw[Nat.eq_of_beq_eq_true h.1,h.2.1,e1 h.2.2]
 ·simp only[Bool.and_eq_true,decide_eq_true_eq]at h
  obtain⟨⟨aa,ae⟩,au,aR⟩:=h
  cases Nat.eq_of_beq_eq_true aa;cases ae;rw[e1 au,e1 aR]
 ·simp only[Bool.and_eq_true]at h;rw[Nat.eq_of_beq_eq_true h.1,e1 h.2]
 ·simp only[Bool.and_eq_true,decide_eq_true_eq]at h;rw[e1 h.1,h.2]
 ·cases h
theorem Ut: ∀{l m:List b6},E9 l m=true→l=m
 |[],[],_=>rfl
 |[],_::_,h=>by cases h
 |_::_,[],h=>by cases h
 |x::l,y::m,h=>by
  simp only[E9,Bool.and_eq_true]at h;rw[zgn h.1,Ut h.2]
theorem zgo{x y:bC}(h:M7 x y=true):x=y:=by
 unfold M7 at h
 split at h
 ·simp only[Bool.and_eq_true]at h;rw[Nat.eq_of_beq_eq_true h.1,rT h.2]
 ·simp only[Bool.and_eq_true,decide_eq_true_eq]at h;rw[Nat.eq_of_beq_eq_true h.1,h.2.1,e1 h.2.2]
 ·simp only[Bool.and_eq_true,decide_eq_true_eq]at h;rw[h.1,e1 h.2.1,e1 h.2.2]
 ·cases h
theorem Uu: ∀{l m:List (Nat × bC)},Fa l m=true→l=m
 |[],[],_=>rfl
 |[],_::_,h=>by cases h
 |_::_,[],h=>by cases h
 |(i,x)::l,(j,y)::m,h=>by
  simp only[Fa,Bool.and_eq_true]at h;rw[Nat.eq_of_beq_eq_true h.1,zgo h.2.1,Uu h.2.2]
theorem Nd: ∀{l m:ba ab},AZ l m=true→l=m
 | .emp,.emp,_=>rfl
 | .emp,.n _ _ _,h=>by cases h
 | .n _ _ _,.emp,h=>by cases h
 | .n v l r,.n w m s,h=>by
  simp only[AZ,Bool.and_eq_true]at h;rw[Nd h.2.1,Nd h.2.2]
  have aa:=h.1
  cases v<;>cases w<;>first|rfl|(cases aa;done)|(rw[e1 aa])
theorem zgp{S U:aq}(h:M8 S U=true):S=U:=by
 obtain⟨b7,a2,a3,a4,a5⟩:=S
 obtain⟨gU,jo,hU,tj,xt⟩:=U
 simp only[M8,Bool.and_eq_true]at h
 obtain⟨⟨aa,ae⟩,⟨au,aR⟩,bA⟩:=h
 rw[Nd aa,Uu ae,Nat.eq_of_beq_eq_true au,Nat.eq_of_beq_eq_true aR,Ut bA]
theorem zgq{x y:bJ}(h:M9 x y=true):x=y:=by
 unfold M9 at h
 split at h<;>(try simp only[Bool.and_eq_true,decide_eq_true_eq]at h)
 ·rw[Nat.eq_of_beq_eq_true h.1,rT h.2]
 ·rw[h.1,Nat.eq_of_beq_eq_true h.2.1,Nat.eq_of_beq_eq_true h.2.2]
 ·obtain⟨aa,ae⟩:=h;subst aa;rw[e1 ae]
 ·obtain⟨aa,ae,au⟩:=h;subst aa;rw[e1 ae,e1 au]
 ·obtain⟨⟨aa,ae⟩,au,aR⟩:=h;subst aa ae;rw[e1 au,e1 aR]
 ·obtain⟨⟨aa,ae⟩,au,aR⟩:=h;subst aa ae;rw[e1 au,e1 aR]
 ·cases h
theorem zgr{x y:fe}(h:Na x y=true):x=y:=by
 unfold Na at h
 split at h<;>(try simp only[Bool.and_eq_true,decide_eq_true_eq]at h)
 ·obtain⟨⟨aa,ae⟩,au,aR⟩:=h;subst ae;rw[Nat.eq_of_beq_eq_true aa,e1 au,e1 aR]
 ·rw[Nat.eq_of_beq_eq_true h.1,rT h.2]
 ·rw[Nat.eq_of_beq_eq_true h.1,e1 h.2]
 ·cases h
theorem zgs: ∀{t u:aB},qN t u=true→t=u:=fun {t}=>by
 induction t with
 |cH x S=>
  intro u h;unfold qN at h
  split at h<;>first|(cases h;done)|skip
  all_goals rename_i heq
  all_goals first|(cases heq;rw[zgp h];done)|cases heq
 |lt i x t a1=>
  intro u h
  cases u with
  |lt j y u=>
   simp only[qN,Bool.and_eq_true]at h;rw[Nat.eq_of_beq_eq_true h.1,zgq h.2.1,a1 h.2.2]
  |_=>simp[qN]at h
 |eG n t a1=>
  intro u h
  cases u with
  |eG m u=>
   simp only[qN,Bool.and_eq_true]at h;rw[zgr h.1,a1 h.2]
  |_=>simp[qN]at h
 |_=>intro u h;simp[qN]at h
theorem zgt{l:List aB}{e:Env}(h:(A0 l).safe M e): ∃S,A0 l=S∧∀t∈l,t=S:=by
 unfold A0 at h⊢
 split at h
 ·rename_i t r
  split at h
  ·rename_i ai
   refine⟨t,by simp only[ai],fun u hu=>?_⟩
   rcases List.mem_cons.1 hu with rfl|hu
   ·rfl
   ·exact(zgs (List.all_eq_true.1 ai u hu)).symm
  ·exact h.elim
 ·exact h.elim
theorem A1(bU:fK P G M inl){L:List Oper}{wr:List Bool}(lb:Region.noSelect L.toArray=true){Q:Exit→aP→Prop}: ∀(n:Nat) (m:List Bool) {S:aq} {e:Env},S.cr→S.ct e→(qO P N B T inl L.toArray wr n m S).safe M e→(∀st,jB G N B M (qO P N B T inl L.toArray wr n m S) e S.k .normal st→Q .normal st)→fD P G L Q wr n m (S.den G N B e)
 |0,m,S,e,ad,hf,ai,et=>by
  unfold qO at ai et
  split at ai
  ·rename_i af
   rw[af]at et;exact fD.done (et _ ⟨.cj,S,e,rfl,trivial,cm.refl _,ad,hf,bX.refl _ _,Nat.le_refl _⟩) af
  ·exact ai.elim
 |n+1,m,S,e,ad,hf,ai,et=>by
  unfold qO at ai et
  cases af:Region.ready .any L.toArray m.toArray with
  |nil=>
   rw[af]at et;exact fD.done (et _ ⟨.cj,S,e,rfl,trivial,cm.refl _,ad,hf,bX.refl _ _,Nat.le_refl _⟩) af
  |cons i rd=>
   rw[af]at ai et;simp only at ai et
   split at ai
   ·rename_i j lH
    rw[lH]at et;simp only at et
    split at ai
    ·rename_i o an hc
     rw[an,hc]at et;simp only[Bool.and_eq_true,Bool.not_eq_true']at hc;simp only at et
     split at ai
     ·rename_i x2
      rw[x2]at et;simp only at et
      cases Uv:xZ P N L.toArray S o with
      |true=>
       obtain⟨aT,aC,s1,s2,pA,pB,pC,pD,pE⟩:=zgm (G:=G) (B:=B) Uv ad hf ai;exact fD.zf9 j (by simpa using an) pE (A1 bU lb n (m.set j true) s1 s2 pC fun st ak=>et st (ak.sub pD pA pB)) lb hc.2.1 (by rw[af];exact hc.1) hc.2.2
      |false=>
       rw[Uv,Bool.false_or]at x2;obtain⟨aT,aC,s1,s2,pA,pB,pC,pD,pE⟩:=zgk (G:=G) (B:=B) ad hf ai;exact fD.zf8 j (by simpa using an) pE (A1 bU lb n (m.set j true) s1 s2 pC fun st ak=>et st (ak.sub pD pA pB)) lb hc.2.1 (by rw[af];exact hc.1) x2
     ·exact ai.elim
    ·exact ai.elim
   ·rename_i lH
    rw[lH]at et;simp only at et
    split at ai
    ·rename_i o an
     rw[an]at et;simp only at et
     split at ai
     ·rename_i qP
      rw[qP]at et
      have qP:=of_decide_eq_true qP
      simp only at et;obtain⟨t1,_,t3⟩:=L2 (G:=G) (B:=B) ad hf ai
      have next: ∀t,tB G N B M (qM P N B T inl L.toArray o S) e S.k t→fD P G L Q wr n (m.set i true) t:=fun t ⟨aT,aC,aa,ae,au,aR,bA,cB⟩=>by
       subst cB;obtain⟨dO,bf,c3,dj,gV,pG,A2,x3,Nf⟩:=t3 aT aC aa ae au aR bA
       have:=A1 bU lb n (m.set i true) dj gV x3 fun st ak=>et st (ak.sub Nf pG A2)
       exact fun E a w af=>this E a w (c3 E G a w af)
      obtain⟨ao,bW⟩:=Uq (G:=G) (B:=B) (T:=T) bU ad hf t1
      cases hw:ny o with
      |true=>exact fD.zga (by simpa using an) af (qP.trans hw) (ao hw) next
      |false=>exact fD.one (by simpa using an) af (qP.trans hw) (bW hw) next
     ·exact ai.elim
    ·rename_i _ rd _ _ gd
     have Uw: ∀st,jB G N B M (A0 ((i::rd).map fun j=>match L.toArray[j]? with
      |some o=>match decide (wr.getD j false=ny o)with
       |true=>qF N S o.dst (E8 N L.toArray S o) (qM P N B T inl L.toArray o S) (qO P N B T inl L.toArray wr n (m.set j true))
       |false=>.bad 78
      |none=>.bad 77)) e S.k .normal st→Q .normal st:=fun st ak=>et st (by
      split
      ·rename_i cz mj;exact(gd cz rfl mj).elim
      ·exact ak)
     clear et;obtain⟨U,xb,dZ⟩:=zgt ai;rw[xb]at Uw ai;refine fD.any (by rw[af];simp) fun j ag=>?_
     rw[af]at ag
     have x4:=dZ _ (List.mem_map.2 ⟨j,ag,rfl⟩)
     split at x4
     ·rename_i o an
      split at x4
      ·rename_i qP
       have qP:=of_decide_eq_true qP
       have eX:(qF N S o.dst (E8 N L.toArray S o) (qM P N B T inl L.toArray o S) (qO P N B T inl L.toArray wr n (m.set j true))).safe M e:=by rw[x4];exact ai
       obtain⟨t1,_,t3⟩:=L2 (G:=G) (B:=B) ad hf eX;refine⟨o,by simpa using an,tB G N B M (qM P N B T inl L.toArray o S) e S.k,fun t ⟨aT,aC,aa,ae,au,aR,bA,cB⟩=>?_,fun E a w dB=>?_⟩
       ·subst cB
        obtain⟨dO,bf,c3,dj,gV,pG,A2,x3,Nf⟩:=t3 aT aC aa ae au aR bA
        have:=A1 bU lb n (m.set j true) dj gV x3 fun st ak=>Uw st (by rw[←x4];exact ak.sub Nf pG A2)
        exact fun E a w af=>this E a w (c3 E G a w af)
       ·obtain⟨ao,bW⟩:=Uq (G:=G) (B:=B) (T:=T) bU ad hf t1
        cases hw:ny o with
        |true=>
         obtain⟨y1,rP⟩:=ao hw E a w dB;exact .inl ⟨y1,fun K Q hK=>rP K Q fun t aI bc w' dW=>hK t aI bc w' dW (.inl (qP.trans hw))⟩
        |false=>
         rcases bW hw E a w dB with⟨y1,rP⟩|⟨y1,rP⟩
         ·exact .inl ⟨y1,fun K Q hK=>rP K Q fun t aI bc w' dW aj=>hK t aI bc w' dW (.inr aj)⟩
         ·exact .inr ⟨qP.trans hw,y1,rP⟩
      ·rw[←x4]at ai;exact ai.elim
     ·rw[←x4]at ai;exact ai.elim
theorem zgu(bU:fK P G M inl):My P G N B M (Nb P N B T inl):=by
 intro id ops S e ad hf ai
 have iX:ops=ops.toList.toArray:=by simp
 rw[iX]at ai⊢
 generalize ops.toList=L at ai⊢
 unfold Nb at ai⊢
 split at ai
 ·rename_i hc
  simp only[Bool.and_eq_true]at hc;refine b2.zgc _ (A1 bU hc.2 _ _ ad hf ai fun st ak=>ak) hc.1 (by simp)
 ·exact ai.elim
def jK.all(P:Program)(T:List (Nat × bL)):jK:=⟨fun N B _=>MV N B,fun N B inl=>Nb P N B T inl⟩
theorem G2:MC P G M (jK.all P T):=fun _ bU _ _=>⟨zf4,zgu bU⟩
end
end Go.aM
namespace Go.aM
open Go
section
variable {P:Program} {G:a8} {f:FuncId} {args:List aD} {σ:Heap} {n:Nat} {R:aD→Heap→Prop}
theorem dF.arg{rG:List aD}(h:dF P G f args σ n R)(aY:fQ rG args):dF P G f rG σ n R:=by
 intro w β ro ea aa ae au aR bA
 refine h w β ro ea (by rw[aa,aY.at.1]) (fun i x hx=>?_) au aR bA
 obtain⟨y,ax,ai⟩:=aY.at.2 i x hx
 exact ai _ _ _ _ _ _ (ae i y ax)
theorem dF.res{rb:aD→Heap→Prop}(h:dF P G f args σ n R)(aJ: ∀r bV,R r bV→rb r bV):dF P G f args σ n rb:=by
 intro w β ro ea aa ae au aR bA
 refine Calls.mono (h w β ro ea aa ae au aR bA) fun e w' ⟨v,dv,eV,dL,ro',cJ,he,cB,oU⟩=>?_
 exact⟨v,dv,eV,dL,ro',cJ,he,aJ _ _ cB,oU⟩
theorem k6(β:Nat→Value)(b:Nat): ¬Own ([]:Heap) β b:=fun⟨_,_,ah,_⟩=>by simp[aE]at ah
theorem dF.frame(h:dF P G f args [] 0 R)(ak:e4 args=true)(fL: ∀r bV,R r bV→fA r=true):dF P G f args σ n fun r bV=>bV=σ∧∃fB,R r fB:=by
 intro w β ro ea aa ae au aR bA
 refine Calls.mono (h w β ro ea aa (fun i x hx=>nX (ae i x hx) (m8 ak hx)) ⟨by simp[aE],by simp[aE],fun b _=>k6 β b,au.lt⟩ aR (by simp[aE])) fun e w' ⟨v,r,fB,dL,ro',cJ,he,af,dB,hO,cE⟩=>?_
 have lI: ∀b,b<w.heap.size→w'.heap[b]? =w.heap[b]? :=fun b ad=>cE.frame b ad (k6 β b)
 have gQ:c5 ⟨w,ro,σ,β,n⟩ G ⟨[],σ,n,n⟩ ⟨#[],[]⟩ w β ro:=⟨rfl,rfl,by simp,au,aR,⟨rfl,rfl,rfl,Nat.le_refl _,fun _ _ _=>rfl,fun _ h=>.inl h,fun _ h=>h,fun _ h=>.inl h,fun id _ o ah=>⟨by simp[ah],rfl⟩,bA,Nat.le_refl _⟩,Nat.le_refl _⟩
 have cS:=gQ.grow (w':=w') (ro':=ro') cE.os cE.tape cE.output cE.size lI cE.j7 (fun b ad=>by
  rcases cE.jk b ad with q|q|q
  ·exact .inl q
  ·exact absurd q (k6 β b)
  ·exact .inr ⟨q,hO.lt b ad⟩)
 exact⟨v,r,σ,β,ro',n,he,⟨rfl,fB,af⟩,nX dB (fL r fB af),cS.heap,cS.trans⟩
theorem dF.zgv{rG:List aD}(h:dF P G f args [] 0 R)(aY:fQ (h6 σ rG) args)(ak:e4 (h6 σ rG)=true)(fL: ∀r bV,R r bV→jS r=true):dF P G f rG σ n fun r bV=>bV=σ∧∃fB,R r fB:=by
 have h:=h.arg aY
 intro w β ro ea aa ae au aR bA
 have nU: ∀b,Own σ β b→b<w.heap.size:=fun b ⟨k,p,aj,ak,bg⟩=>(au.c7 k p aj).hJ ak bg
 refine Calls.mono (h w β (uM ro σ β) ea (by rw[uK];exact aa) (fun i x hx=>?_) ⟨by simp[aE],by simp[aE],fun b _=>k6 β b,fun b ad=>ad.elim (au.lt b) (nU b)⟩
  (aR.keep (fun _ _=>rfl) fun _ h=>.inl h) (by simp[aE])) fun e w' ⟨v,r,fB,dL,ro',cJ,he,af,dB,hO,cE⟩=>?_
 ·obtain⟨z,aQ,rfl⟩:=uL _ hx
  exact nX (Ka au (ae i z aQ)) (m8 ak hx)
 have lI: ∀b,b<w.heap.size→w'.heap[b]? =w.heap[b]? :=fun b ad=>cE.frame b ad (k6 β b)
 have gQ:c5 ⟨w,ro,σ,β,n⟩ G ⟨[],σ,n,n⟩ ⟨#[],[]⟩ w β ro:=⟨rfl,rfl,by simp,au,aR,⟨rfl,rfl,rfl,Nat.le_refl _,fun _ _ _=>rfl,fun _ h=>.inl h,fun _ h=>h,fun _ h=>.inl h,fun id _ o ah=>⟨by simp[ah],rfl⟩,bA,Nat.le_refl _⟩,Nat.le_refl _⟩
 have cS:=gQ.grow (w':=w') (ro':=ro) cE.os cE.tape cE.output cE.size lI (fun _ h=>h) (fun _ h=>.inl h)
 exact⟨v,r,σ,β,ro,n,he,⟨rfl,fB,af⟩,Dk dB (fL r fB af),cS.heap,cS.trans⟩
end
def aF.fk(d:aF):aD:=
 match d with
 |⟨.st c,x⟩=>.agg ((cb c x).map .av)
 |⟨r,x⟩=>.av (fC r x)
def nz(rs:List aW)(x:(fb rs).den):List aD:=(dz rs x).map aF.fk
def lq(rs:List aW)(x:(fb rs).den):aD:=
 match nz rs x with
 |[v]=>v
 |l=>.tuple l
structure iu where
 f:Nat
 j:Nat
 ps:List aW
 rs:List aW
 eJ:Bool
def bG(P:Program)(G:a8)(f:Nat)(m:aS):Prop:=
 ∀x:(fb m.ps).den,lp m.pre x→dF P G f (nz m.ps x) [] 0 fun v _=>v=lq m.rs (m.m x)
def Ux(P:Program)(G:a8)(M:List aS)(c:iu):Prop:=
 (e3 aS.d M c.j).ps=c.ps∧(e3 aS.d M c.j).rs=c.rs∧bG P G c.f (e3 aS.d M c.j)∧(c.eJ=true→(e3 aS.d M c.j).pre=none)
def ra(P:Program)(G:a8)(M:List aS)(C:List iu):Prop:=∀c∈C,Ux P G M c
def A3(f:Nat):List iu→Option iu
 |[]=>none
 |c::r=>match Nat.beq c.f f with
  |true=>some c
  |false=>A3 f r
def A4(r:aW)(i:Nat):ab:=
 match r with
 | .st c=>.ch (iP c i 0 (eY c))
 |r=>.aV r i
def hz:Nat→List aW→List ab
 |_,[]=>[]
 |i,r::rs=>A4 r i::hz (i+1) rs
def om(rs:List aW)(p:Nat):Nat→List aW→List bJ
 |_,[]=>[]
 |i,_::r=>.rK rs p i::om rs p (i+1) r
def aW.iz:aW→Bool
 | .st _=>true
 |r=>r.one
def aW.tC:aW→Bool
 | .int _=>true
 | .bool=>true
 | .str=>true
 | .st c=>(eY c).all aW.cmp
 |_=>false
def Ng(S:aq)(r:aW)(a:ab):Option ab:=
 match r,a with
 | .st c,.ch l=>match hq (eY c) l with
  |true=>some a
  |false=>none
 | .li c,.aO id=>match db S.h id with
  |some (.rw _ d x)=>match decide (c=d)&&x.ew (.li c)with
   |true=>some x
   |false=>none
  |_=>none
 | .mp k v,.gW id=>match db S.h id with
  |some (.it (.mp bk bh) _ x)=>match(hR bk k&&hR bh v)&&x.ew (.mp k v)with
   |true=>some x
   |false=>none
  |_=>none
 |r,a=>match r.one&&a.ew r with
  |true=>some a
  |false=>none
def r5(S:aq):List aW→List ab→Option (List ab)
 |[],[]=>some []
 |r::rs,a::aG=>match Ng S r a,r5 S rs aG with
  |some x,some l=>some (x::l)
  |_,_=>none
 |_,_=>none
def tD:List ab→Bool
 |[]=>true
 | .aO _::_=>false
 | .gW _::_=>false
 |_::r=>tD r
def iD(c:iu)(aG:List ab)(k:Nat):List bJ:=
 match c.rs with
 |[_]=>[.ca c.j aG]
 |rs=>.ca c.j aG::om rs k 0 rs
def x5(c:iu)(k:Nat):ab:=
 match c.rs with
 |[r]=>A4 r k
 |rs=>.tp (hz (k+1) rs)
def Fb(S:aq)(xs:List bJ)(v:ab):aq:={S with l:=ba.put .emp 0 v,k:=S.k+xs.length}
def Fc(c:iu)(xs:List ab):List fe:=
 match c.eJ with
 |true=>[]
 |false=>[.ca c.j xs]
def Nh(C:List iu)(inl:Nat→List ab→aq→aB)(f:Nat)(aG:List ab)(S:aq):aB:=
 match A3 f C with
 |none=>inl f aG S
 |some c=>match r5 S c.ps aG with
  |none=>inl f aG S
  |some xs=>match c.rs.all aW.iz&&(tD aG||c.rs.all aW.tC)&&(ab.cK S.k xs&&ab.rX S.n (x5 c S.k))with
   |true=>emit S.k (iD c xs S.k) (Fc c xs) (.cH .cj (Fb S (iD c xs S.k) (x5 c S.k)))
   |false=>inl f aG S
theorem x6: ∀{rs:List aW} {ds:List aF},ds.map aF.r=rs→dz rs (b9 rs ds)=ds
 |[],[],_=>rfl
 |[],_::_,h=>by cases h
 |[r],ds,h=>by
  obtain⟨d,pd,rfl,aa,ae⟩:=lK h
  cases mz ae
  subst aa;show[⟨d.r,d.aG d.r⟩]=[d];rw[zQ]
 |r::s::l,ds,h=>by
  obtain⟨d,pd,rfl,aa,ae⟩:=lK h;subst aa;show(⟨d.r,d.aG d.r⟩:aF)::dz (s::l) (b9 (s::l) pd)=d::pd;rw[zQ,x6 ae]
theorem tE: ∀{rs:List aW} {x:(fb rs).den},(dz rs x).map aF.r=rs
 |[],_=>rfl
 |[_],_=>rfl
 |r::s::l,x=>by
  show r::(dz (s::l) x.2).map aF.r=_;rw[tE]
section
variable {G:a8} {e:Env} {S:aq}
theorem Uy{r:aW}{x:r.den}(h: ∀c,r≠ .st c):(⟨r,x⟩:aF).fk= .av (fC r x):=by
 cases r with
 |st c=>exact absurd rfl (h c)
 |_=>rfl
theorem Uz{r:aW}(h:r.one=true): ∀c,r≠ .st c:=fun c hc=>by subst hc;cases h
theorem UA{r:aW}{a:ab}(h:a.ew r=true): ∃y,a.den G e= .av y:=by
 unfold ab.ew at h
 split at h<;>first|exact⟨_,rfl⟩|cases h
theorem UB: ∀{rs:List aW} {l:List ab},hq rs l=true→∃ys:List a6,ab.bQ G e l=ys.map .av
 |[],[],_=>⟨[],rfl⟩
 |[],_::_,h=>by cases h
 |_::_,[],h=>by cases h
 |r::rs,x::xs,h=>by
  simp only[hq,Bool.and_eq_true]at h;obtain⟨y,ax⟩:=UA (G:=G) (e:=e) h.1;obtain⟨ys,mm⟩:=UB (rs:=rs) h.2;exact⟨y::ys,by simp only[ab.bQ,ax,mm,List.map_cons]⟩
theorem UC{σ:Heap}: ∀{ys:List a6},h6 σ (ys.map .av)=ys.map .av
 |[]=>rfl
 |y::ys=>by simp only[List.map_cons,h6,jR,UC]
theorem zgw{r:aW}{a x:ab}(h:Ng S r a=some x):
 Sub (jR (cx G e S.h) (a.den G e)) (aF.fk ⟨r,x.get e r⟩)∧fA (jR (cx G e S.h) (a.den G e))=true∧((∀id,a≠ .aO id∧a≠ .gW id)→jR (cx G e S.h) (a.den G e)=a.den G e):=by
 unfold Ng at h
 split at h
 ·rename_i c l
  split at h
  ·rename_i ar
   cases h;obtain⟨ys,ax⟩:=UB (G:=G) (e:=e) ar
   have ai:=zZ (G:=G) (e:=e) ar
   have hd:jR (cx G e S.h) ((ab.ch l).den G e)=(ab.ch l).den G e:=by simp only[ab.den,jR,ax,UC]
   rw[hd];refine⟨?_,by simp only[ab.den,ax,fA,C3],fun _=>rfl⟩
   simp only[ab.den];exact ai.agg
  ·cases h
 ·rename_i c id
  split at h
  ·rename_i t d y ah
   split at h
   ·rename_i hc
    cases h;simp only[Bool.and_eq_true,decide_eq_true_eq]at hc;obtain⟨rfl,hx⟩:=hc
    have bb:aE (cx G e S.h) id=some (.row false t (bZ c) (List.map (cb c) (x.aA e (.li c)))):=by rw[ef,ah];rfl
    have hd:jR (cx G e S.h) ((ab.aO id).den G e)= .av (.aO (bZ c) (List.map (cb c) (x.aA e (.li c)))):=by simp only[ab.den,jR,bb]
    rw[hd];exact⟨lM.fk fun _ _ _ h=>.li _ _ _ h,rfl,fun h=>absurd rfl (h id).1⟩
   ·cases h
  ·cases h
 ·rename_i k v id
  split at h
  ·rename_i bk bh dr y ah
   split at h
   ·rename_i hc
    cases h;simp only[Bool.and_eq_true]at hc
    cases hp hc.1.1
    cases hp hc.1.2
    have bb:aE (cx G e S.h) id=some (.bM (jT v.agg (gf (k8 k) (ix v) (x.aA e (.mp k v))))):=by rw[ef,ah];rfl
    have hd:jR (cx G e S.h) ((ab.gW id).den G e)= .av (wV v.agg (gf (k8 k) (ix v) (x.aA e (.mp k v)))):=by simp only[ab.den,jR,bb]<;>rfl
    rw[hd];refine⟨?_,rfl,fun h=>absurd rfl (h id).2⟩
    show Sub _ (.av (fC (.mp k v) (x.aA e (.mp k v))));rw[Sv];exact Sub.refl _
   ·cases h
  ·cases h
 ·split at h
  ·rename_i hc
   cases h;simp only[Bool.and_eq_true]at hc;obtain⟨y,ax⟩:=UA (G:=G) (e:=e) hc.2
   have hd:jR (cx G e S.h) (a.den G e)=a.den G e:=by rw[ax];rfl
   rw[hd];refine⟨?_,by rw[ax];rfl,fun _=>rfl⟩
   rw[Uy (Uz hc.1),D2 hc.1];exact uZ hc.2
  ·cases h
theorem x7: ∀{rs:List aW} {aG xs:List ab},r5 S rs aG=some xs→
 fQ (h6 (cx G e S.h) (ab.bQ G e aG)) ((gD e rs xs).map aF.fk)∧e4 (h6 (cx G e S.h) (ab.bQ G e aG))=true∧(tD aG=true→h6 (cx G e S.h) (ab.bQ G e aG)=ab.bQ G e aG)∧(gD e rs xs).map aF.r=rs
 |[],[],_,h=>by cases h;exact⟨.nil,rfl,fun _=>rfl,rfl⟩
 |[],_::_,_,h=>by cases h
 |_::_,[],_,h=>by cases h
 |r::rs,a::aG,xs,h=>by
  simp only[r5]at h
  split at h
  ·rename_i x l aa ae
   cases h;obtain⟨b7,a2,a3⟩:=zgw (G:=G) (e:=e) aa;obtain⟨gU,jo,hU,tj⟩:=x7 ae;refine⟨.cons b7 gU,by simp only[ab.bQ,h6,e4,a2,jo,Bool.and_self],fun hn=>?_,by simp only[gD,List.map_cons,tj]⟩
   have:(∀id,a≠ .aO id∧a≠ .gW id)∧tD aG=true:=by
    cases a<;>first|(cases hn;done)|exact⟨fun id=>⟨fun bd=>(by cases bd),fun bd=>(by cases bd)⟩,hn⟩
   simp only[ab.bQ,h6,a3 this.1,hU this.2]
  ·cases h
end
section
variable {G:a8} {e:Env}
theorem zgx(d:aF):fA d.fk=true:=by
 unfold aF.fk
 split
 ·simp only[fA,C3]
 ·rfl
theorem Fe: ∀l:List aF,e4 (l.map aF.fk)=true
 |[]=>rfl
 |d::l=>by simp only[List.map_cons,e4,zgx,Fe l,Bool.and_self]
theorem Ni{rs:List aW}{x:(fb rs).den}:fA (lq rs x)=true:=by
 have h:=Fe (dz rs x)
 unfold lq nz
 split
 ·rename_i v aw
  rw[aw]at h;simpa[e4]using h
 ·exact h
theorem UD: ∀{ds:List aF},(∀d∈ds,d.r.tC=true∧∀c,d.r≠ .st c)→nd (ds.map fun d=>.av d.av)=true
 |[],_=>rfl
 |d::ds,h=>by
  have aa:=h d (List.mem_cons_self ..)
  have ae:=UD (ds:=ds) fun x hx=>h x (List.mem_cons_of_mem _ hx)
  obtain⟨r,x⟩:=d
  cases r<;>first|(exact absurd rfl (aa.2 _))|(cases aa.1;done)|exact ae
theorem UE{d:aF}(h:d.r.tC=true):jS d.fk=true:=by
 obtain⟨r,x⟩:=d
 cases r with
 |st c=>
  show jS (.agg ((cb c x).map .av))=true
  have hc:cb c x=(kT c x).map aF.av:=by unfold cb;rfl
  rw[hc,List.map_map];simp only[jS];refine UD fun d hd=>?_
  have af:d.r∈eY c:=by
   have:=Kf c x
   rw[←this];exact List.mem_map_of_mem hd
  have aY:d.r.cmp=true:=List.all_eq_true.1 (show(eY c).all _=true from h) d.r af
  cases hd:d.r<;>rw[hd]at aY<;>first|(cases aY;done)|exact⟨rfl,fun c hc=>by cases hc⟩
 |_=>first|rfl|cases h
theorem Nj: ∀{l:List aF},(∀d∈l,d.r.tC=true)→nd (l.map aF.fk)=true
 |[],_=>rfl
 |d::l,h=>by
  simp only[List.map_cons,nd,UE (h d (List.mem_cons_self ..)),Nj (l:=l) fun x hx=>h x (List.mem_cons_of_mem _ hx),Bool.and_self]
theorem zgy{rs:List aW}{x:(fb rs).den}(h:rs.all aW.tC=true):jS (lq rs x)=true:=by
 have h:=Nj (l:=dz rs x) fun d hd=>by
  have af:d.r∈rs:=by
   have:=tE (rs:=rs) (x:=x)
   rw[←this];exact List.mem_map_of_mem hd
  exact List.all_eq_true.1 h d.r af
 unfold lq nz
 split
 ·rename_i v aw
  rw[aw]at h;simpa[nd]using h
 ·exact h
end
section
variable {P:Program} {G:a8} {M:List aS} {C:List iu} {inl:Nat→List ab→aq→aB}
theorem UF{f:Nat}{c:iu}: ∀{C:List iu},A3 f C=some c→c∈C∧c.f=f
 |[],h=>by cases h
 |d::r,h=>by
  unfold A3 at h
  split at h
  ·rename_i hd;cases h;exact⟨List.mem_cons_self ..,Nat.eq_of_beq_eq_true hd⟩
  ·obtain⟨aa,ae⟩:=UF h;exact⟨List.mem_cons_of_mem _ aa,ae⟩
theorem Nk(rs:List aW)(p:Nat): ∀(l:List aW) (i j:Nat),(om rs p i l)[j]? =if j<l.length then some (.rK rs p (i+j))else none
 |[],i,j=>by simp[om]
 |_::l,i,0=>by simp[om]
 |_::l,i,j+1=>by
  simp only[om,List.getElem?_cons_succ,Nk rs p l (i+1) j,List.length_cons,Nat.add_lt_add_iff_right]
  have:i+1+j=i+(j+1):=by omega
  rw[this]
theorem UG(rs:List aW)(p:Nat): ∀(l:List aW) (i k:Nat),p<k→hs k (om rs p i l)=true
 |[],_,_,_=>rfl
 |_::l,i,k,h=>by
  simp only[om,hs,bJ.lt,jV h,Bool.true_and];exact UG rs p l (i+1) (k+1) (by omega)
theorem Ff{c:iu}{xs:List ab}{k:Nat}(h:ab.cK k xs=true):hs k (iD c xs k)=true:=by
 unfold iD
 split
 ·simp only[hs,bJ.lt,h,Bool.and_self]
 ·simp only[hs,bJ.lt,h,Bool.true_and]
  exact UG _ _ _ _ _ (Nat.lt_succ_self k)
theorem Nl(rs:List aW)(p:Nat): ∀(l:List aW) (i:Nat),(om rs p i l).length=l.length
 |[],_=>rfl
 |_::l,i=>by simp[om,Nl rs p l (i+1)]
theorem Nn{e:Env}{r:aW}{i:Nat}{x:r.den}(h:Env.at e i=⟨r,x⟩):(A4 r i).den G e=aF.fk ⟨r,x⟩:=by
 have aY:(Env.at e i).aG r=x:=by rw[h,cA]
 cases r with
 |st c=>
  show aD.agg (ab.bQ G e (iP c i 0 (eY c)))= .agg ((cb c x).map .av);rw[s0,aY]
 |_=>show aD.av (fC _ ((Env.at e i).aG _))= .av (fC _ x);rw[aY]
theorem A5{e:Env}: ∀{rs:List aW} {i:Nat} {ds:List aF},ds.map aF.r=rs→(∀j d,ds[j]? =some d→Env.at e (i+j)=d)→ab.bQ G e (hz i rs)=ds.map aF.fk
 |[],i,ds,h,_=>by cases mz h;rfl
 |r::rs,i,ds,h,hd=>by
  obtain⟨d,pd,rfl,aa,ae⟩:=lK h;subst aa
  have aH:=hd 0 d rfl
  simp only[hz,ab.bQ,List.map_cons,List.cons.injEq];refine⟨Nn (x:=d.v) aH,A5 ae fun j zgz ag=>?_⟩
  have:=hd (j+1) zgz (by simpa using ag)
  rw[←this];congr 1;omega
theorem Fg{c:bL}{i k:Nat}(h:i<k): ∀{rs:List aW} {j:Nat},ab.cK k (iP c i j rs)=true
 |[],_=>rfl
 |r::rs,j=>by simp only[iP,ab.cK,ab.lt,jV h,Fg h (rs:=rs),Bool.and_self]
theorem No{r:aW}{i k:Nat}(h:i<k):(A4 r i).lt k=true:=by
 cases r with
 |st c=>exact Fg h
 |_=>exact jV h
theorem A6: ∀{rs:List aW} {i k:Nat},i+rs.length≤k→ab.cK k (hz i rs)=true
 |[],_,_,_=>rfl
 |r::rs,i,k,h=>by
  simp only[List.length_cons]at h;simp only[hz,ab.cK,No (r:=r) (show i<k by omega),A6 (rs:=rs) (show i+1+rs.length≤k by omega),Bool.and_self]
theorem Np{α:Type}{d:α}: ∀{l:List α} {i:Nat} {x:α},l[i]? =some x→e3 d l i=x
 |[],_,_,h=>by cases h
 |y::l,0,x,h=>by simpa[e3]using h
 |y::l,i+1,x,h=>by
  simp only[e3];exact Np (by simpa using h)
theorem zgA{c:iu}{xs:List ab}{k:Nat}{e:Env}{y:(fb c.rs).den}(ar:ab.cK k xs=true)(aH:Env.at (di M e k (iD c xs k)) k=⟨fb c.rs,y⟩):
 (x5 c k).den G (di M e k (iD c xs k))=lq c.rs y:=by
 have eL:=jz (M:=M) (e:=e) (Ff (c:=c) ar)
 obtain⟨f,Fh,ps,rs,eJ⟩:=c
 show(x5 ⟨f,Fh,ps,rs,eJ⟩ k).den G _=lq rs y
 match rs,y,aH,eL with
 |[],y,aH,eL=>rfl
 |[r],y,aH,eL=>exact Nn aH
 |r::s::l,y,aH,eL=>
  have na:(dz (r::s::l) y).map aF.r=r::s::l:=tE
  have rp:lq (r::s::l) y= .tuple ((dz (r::s::l) y).map aF.fk):=by
   unfold lq nz
   split
   ·rename_i v aw
    have:=congrArg List.length na
    have ae:=congrArg List.length aw
    simp only[List.length_map,List.length_cons]at this ae;simp only[List.length_nil]at ae;omega
   ·rfl
  rw[rp];show aD.tuple (ab.bQ G _ (hz (k+1) (r::s::l)))=_
  congr 1
  refine A5 na fun j d ag=>?_
  have hlen:j<(r::s::l).length:=by
   have aa:=(List.getElem?_eq_some_iff.1 ag).1
   have:=congrArg List.length na
   rw[List.length_map]at this;omega
  have aa:=eL (j+1) (.rK (r::s::l) k j) (by
   show(bJ.ca Fh xs::om (r::s::l) k 0 (r::s::l))[j+1]? =_
   rw[List.getElem?_cons_succ,Nk,if_pos hlen,Nat.zero_add])
  rw[show k+1+j=k+(j+1)by omega,aa]
  simp only[bJ.den,aH,cA];exact Np ag
theorem zgB(kO:ra P G M C)(bU:fK P G M inl):fK P G M (Nh C inl):=fun f aG S e ad ar hf ai=>by
 unfold Nh at ai⊢
 cases hc:A3 f C with
 |none=>simp only[hc]at ai⊢;exact bU f aG S e ad ar hf ai
 |some c=>
  simp only[hc]at ai⊢
  cases hx:r5 S c.ps aG with
  |none=>simp only[hx]at ai⊢;exact bU f aG S e ad ar hf ai
  |some xs=>
   simp only[hx]at ai⊢
   split at ai
   rotate_left
   ·exact bU f aG S e ad ar hf ai
   rename_i aj;simp only[Bool.and_eq_true]at aj;obtain⟨⟨oo,jE⟩,A7,D7⟩:=aj;obtain⟨hm,A8⟩:=UF hc;obtain⟨g1,g2,g3,g4⟩:=kO c hm;obtain⟨hn,_⟩:=mH ai
   have vz:=Ff (c:=c) A7
   have bS:bX S.k e (di M e S.k (iD c xs S.k)):=jW (Nat.le_refl _)
   have b5:c.eJ=false→fe.ok M (di M e S.k (iD c xs S.k)) (.ca c.j xs):=fun jn=>hn _ (by unfold Fc;rw[jn];exact List.mem_singleton.2 rfl)
   obtain⟨b7,a2,a3,a4⟩:=x7 (G:=G) (e:=e) hx
   have eL:=jz (M:=M) (e:=e) vz 0 (.ca c.j xs) (by unfold iD;split<;>rfl)
   obtain⟨UH,pJ,ziR,ziS,UI⟩:=c;simp only at g1 g2 g3 g4 A8 oo jE A7 D7 vz bS b5 b7 a2 a3 a4 eL hx;subst g1 g2 A8;simp only[Nat.add_zero,bJ.den]at eL;simp only[fe.ok]at b5;rw[xd bS A7]at eL
   have hk:=g3 (b9 _ (gD e (e3 aS.d M pJ).ps xs)) (by
    cases UI with
    |true=>rw[g4 rfl];trivial
    |false=>
     have:=b5 rfl
     rw[xd bS A7]at this
     exact this)
   have vv:nz (e3 aS.d M pJ).ps (b9 (e3 aS.d M pJ).ps (gD e (e3 aS.d M pJ).ps xs))=(gD e (e3 aS.d M pJ).ps xs).map aF.fk:=by
    unfold nz;rw[x6 a4]
   rw[vv]at hk
   have aw:=zgA (G:=G) (c:=⟨UH,pJ,(e3 aS.d M pJ).ps,(e3 aS.d M pJ).rs,UI⟩) A7 eL
   have lT:dF P G UH (ab.bQ G e aG) (cx G e S.h) S.n fun r bV=>bV=cx G e S.h∧∃_:Heap,r=lq (e3 aS.d M pJ).rs ((e3 aS.d M pJ).m (b9 _ (gD e (e3 aS.d M pJ).ps xs))):=by
    cases An:tD aG with
    |true=>
     rw[a3 An]at b7 a2;exact((hk.arg b7).frame a2 fun r bV af=>by rw[af];exact Ni).res fun r bV ⟨aa,fB,ae⟩=>⟨aa,fB,ae⟩
    |false=>
     rw[An,Bool.false_or]at jE;exact(hk.zgv b7 a2 fun r bV af=>by rw[af];exact zgy jE).res fun r bV ⟨aa,fB,ae⟩=>⟨aa,fB,ae⟩
   refine lT.res fun r bV ⟨aa,_,ae⟩=>⟨_,_,by rw[lR];rfl,?_,?_,?_,?_,bS,Nat.le_add_right _ _⟩
   ·rw[ae,←aw]
    show _=ab.den G _ (aq.at (Fb S _ _) 0);unfold Fb aq.at
    simp only[ba.h0,if_true]
   ·rw[aa];exact(xc bS ad.h).symm
   ·refine⟨fun i x hi=>?_,s9 (Nat.le_add_right _ _) ad.h,oa (Nat.le_add_right _ _) ad.g⟩
    simp only[Fb,ba.h0]at hi
    split at hi
    ·cases hi
     show(x5 _ S.k).lt (S.k+_)=true;unfold x5 iD
     split
     ·exact No (Nat.lt_succ_self _)
     ·simp only[ab.lt]
      refine A6 ?_
      simp only[List.length_cons,Nl];omega
    ·simp[ba.get]at hi
   ·exact ik bS ad.g hf
end
end Go.aM
namespace Go.aM
open Go
section
variable {P:Program} {G:a8} {f:FuncId} {args:List aD} {R:aD→Heap→Prop}
theorem dF.ret(eR:Prop→aD→Prop)(h:dF P G f args [] 0 R){Q:aD→Prop}(fL: ∀r bV,R r bV→∃v,Sub (jR bV r) v∧fA v=true∧Q v):dF P G f args [] 0 fun v _=>Q v:=by
 intro w β ro ea aa ae au aR bA
 refine Calls.mono (h w β ro ea aa ae au aR bA) fun e w' ⟨v,r,bV,dL,ro',cJ,he,af,dB,hO,cE⟩=>?_
 obtain⟨u,hu,ak,aJ⟩:=fL r bV af
 have nU: ∀b,Own bV dL b→b<w'.heap.size:=fun b ⟨k,p,aj,ak,bg⟩=>(hO.c7 k p aj).hJ ak bg
 refine⟨v,u,[],dL,uM ro' bV dL,cJ,he,aJ,nX (hu _ _ _ _ _ _ (Ka hO dB)) ak,⟨by simp[aE],by simp[aE],fun b _=>k6 dL b,fun b ad=>ad.elim (hO.lt b) (nU b)⟩,
  ⟨cE.os,cE.tape,cE.output,cE.size,cE.frame,fun b ad=>?_,fun b ad=>.inl (cE.j7 b ad),fun b ad=>absurd ad (k6 dL b),by simp[aE],by simp[aE],cE.le⟩⟩
 rcases ad with ad|ad
 ·exact cE.jk b ad
 ·exact .inr (cE.hg b ad)
end
def gy:Nat→List aF→Env
 |_,[]=>.emp
 |i,d::ds=>ba.put (gy (i+1) ds) i d
theorem Nq: ∀{ds:List aF} {i j:Nat} {d:aF},ds[j]? =some d→Env.at (gy i ds) (i+j)=d
 |[],_,_,_,h=>by cases h
 |x::ds,i,0,d,h=>by
  have h:x=d:=by simpa using h
  simp only[gy,Env.ij,Nat.add_zero,if_true,h]
 |x::ds,i,j+1,d,h=>by
  have:=Nq (i:=i+1) (show ds[j]? =some d by simpa using h)
  simp only[gy,Env.ij];rw[if_neg (by omega),←this]
  congr 1
  omega
def vA(rs:List aW)(v:ab):List ab:=
 match rs,v with
 |[_],v=>[v]
 |_,.tp l=>l
 |_,x=>[x]
def Nr(rs:List aW)(v:ab):Bool:=
 match rs,v with
 |[_],_=>true
 |_,.tp _=>true
 |_,_=>false
def Fi(rs:List aW)(C:aq):Option (List ab):=
 match Nr rs (C.at 0)with
 |true=>r5 C rs (vA rs (C.at 0))
 |false=>none
def uv(rs:List aW)(C:aq):Bool:=(Fi rs C).isSome
def Ns(rs:List aW)(C:aq)(e:Env):(fb rs).den:=
 match Fi rs C with
 |some l=>b9 rs (gD e rs l)
 |none=>(fb rs).fu
def Nt(M:List aS)(t:aB)(rs:List aW)(e:Env):(fb rs).den:=t.fold M e (fun _ C ay=>Ns rs C ay) (fb rs).fu
def qb(n:Nat):aq:=⟨.emp,[],0,n,[]⟩
section
variable {P:Program} {G:a8} {M:List aS} {C:List iu} {inl:Nat→List ab→aq→aB}
theorem zgC{rs:List aW}{S:aq}{e:Env}{l:List ab}(h:Fi rs S=some l):Sub (jR (cx G e S.h) ((S.at 0).den G e)) (lq rs (b9 rs (gD e rs l))):=by
 unfold Fi at h
 split at h
 rotate_left
 ·cases h
 rename_i aI
 obtain⟨b7,_,_,a4⟩:=x7 (G:=G) (e:=e) h
 have vv:nz rs (b9 rs (gD e rs l))=(gD e rs l).map aF.fk:=by unfold nz;rw[x6 a4]
 unfold lq
 rw[vv]
 match rs,b7,a4,aI with
 |[r],b7,a4,aI=>
  obtain⟨d,pd,aw,aa,ae⟩:=lK a4
  cases mz ae
  rw[aw]at b7⊢;simp only[vA,ab.bQ,h6,List.map_cons,List.map_nil]at b7⊢
  cases b7 with
  |cons h _=>exact h
 |[],b7,a4,aI=>
  cases aw:S.at 0 with
  |tp m=>
   rw[aw]at b7;rw[mz a4];rw[mz a4]at b7;exact b7.tuple
  |_=>rw[aw]at aI;cases aI
 |r::s::q,b7,a4,aI=>
  cases aw:S.at 0 with
  |tp m=>
   rw[aw]at b7
   have ar:=congrArg List.length a4
   simp only[List.length_map,List.length_cons]at ar;generalize gD e (r::s::q) l=ds at b7 ar⊢
   match ds,ar with
   |d::d2::ds,_=>exact b7.tuple
  |_=>rw[aw]at aI;cases aI
theorem UJ{t:aB}{p:aq→Bool}(h:t.gx.all p=true){e ay:Env}{S:aq}(af:run M t e=some (.cj,S,ay)):p S=true:=List.all_eq_true.1 h S (nv af)
theorem Nu(bU:fK P G M inl){f:Nat}{m:aS}(t:aB)(aI:inl f (hz 0 m.ps) (qb m.ps.length)=t)(he:t.gx.all (uv m.rs)=true)
 (ai: ∀x,lp m.pre x→t.safe M (gy 0 (dz m.ps x)))(hm: ∀x,lp m.pre x→Nt M t m.rs (gy 0 (dz m.ps x))=m.m x):bG P G f m:=fun x hx=>by
 subst aI
 have ar:m.ps.length=(dz m.ps x).length:=by have:=congrArg List.length (tE (rs:=m.ps) (x:=x));rw[List.length_map]at this;exact this.symm
 have h:=bU f (hz 0 m.ps) (qb m.ps.length) (gy 0 (dz m.ps x)) ⟨fun i x hi=>by simp[qb,ba.get]at hi,rfl,rfl⟩ (A6 (by show 0+_≤m.ps.length;omega)) (fun c hc=>by cases hc) (ai x hx)
 have hd:ab.bQ G (gy 0 (dz m.ps x)) (hz 0 m.ps)=nz m.ps x:=A5 tE fun j d ag=>Nq ag
 rw[hd]at h
 refine(dF.ret (fun _ _=>True) h (Q:=fun v=>v=lq m.rs (m.m x)) fun r bV af=>?_)
 obtain⟨aT,ay,cp,rfl,rfl,_⟩:=af
 have oe:=UJ he cp
 obtain⟨l,mo⟩:=Option.isSome_iff_exists.1 oe
 refine⟨_,zgC mo,Ni,?_⟩
 have:=hm x hx
 unfold Nt at this
 rw[kk cp]at this
 unfold Ns at this
 rw[mo]at this
 rw[←this]
theorem zgD(bU:fK P G M inl){f:Nat}{m:aS}(t:aB)(aI:inl f (hz 0 m.ps) (qb m.ps.length)=t)(he:(t.clean&&t.gx.all (uv m.rs))=true)
 (hm: ∀x,Nt M t m.rs (gy 0 (dz m.ps x))=m.m x):bG P G f m:=by
 simp only[Bool.and_eq_true]at he
 exact Nu bU t aI he.2 (fun _ _=>rO M he.1) fun x _=>hm x
theorem ra.nil:ra P G M []:=fun _ h=>by cases h
theorem ra.cons{c:iu}(h:Ux P G M c)(kO:ra P G M C):ra P G M (c::C):=fun d hd=>by
 rcases List.mem_cons.1 hd with rfl|hd
 ·exact h
 ·exact kO d hd
end
end Go.aM
namespace Go.aM
open Go
def aB.kp(M:List aS):aB→{X:Type}→Env→(b0→aq→Env→X)→X→X
 | .cH x S,_,e,K,_=>K x S e
 | .lt i x t,_,e,K,d=>t.kp M (ba.put e i (x.den M e)) K d
 | .eG _ t,_,e,K,d=>t.kp M e K d
 | .it g a b,_,e,K,d=>bif g.aA e .bool then a.kp M e K d else b.kp M e K d
 | .dC n a ps k,_,e,K,d=>a.kp M e (fun x S ay=>bif x.bT n then k.kp M (fM e (fun r p=>⟨r,(p.dh S).get ay r⟩) ps) K d else K x S ay) d
 | .ej m xid dp b1 ca a k,X,e,K,d=>Sum.elim (fun r=>r) (fun v=>k.kp M (bm e ca v) K d)
  (bp (fun i (v:bY ca)=>(a.kp M (bm (ba.put e b1 ⟨.int .i64,(i:Int)⟩) ca v) (ee m xid ca K) (.cI v):Step X (bY ca))) 0 (ck (dp.den M e)).toNat (b9 _ (dE e ca)))
 | .e0 m xid ca a k,X,e,K,d=>Sum.elim (fun r=>r) (fun v=>k.kp M (bm e ca v) K d)
  (c0 (fun v=>(a.kp M (bm e ca v) (ee m xid ca K) (.cI v):Step X (bY ca))) dU (b9 _ (dE e ca)))
 | .bad _,_,_,_,d=>d
section
variable {M:List aS}
theorem mK: ∀(t:aB) {X:Type} (e:Env) (K:b0→aq→Env→X) (d:X),t.kp M e K d=t.fold M e K d
 | .cH _ _,_,_,_,_=>rfl
 | .lt i x t,_,e,K,d=>mK t _ K d
 | .eG _ t,_,e,K,d=>mK t _ K d
 | .it g a b,_,e,K,d=>by simp only[aB.kp,aB.fold,mK a,mK b]
 | .dC n a ps k,X,e,K,d=>by
  show a.kp M e (fun x S ay=>bif x.bT n then k.kp M (fM e (fun r p=>⟨r,(p.dh S).get ay r⟩) ps) K d else K x S ay) d=(aB.dC n a ps k).fold M e K d
  rw[mK a]
  cases af:run M a e with
  |none=>rw[z8 af,s6 af]
  |some l=>
   obtain⟨x,S,ay⟩:=l;rw[kk af]
   cases hx:x.bT n with
   |true=>rw[cond_true,qy af hx,mK k]
   |false=>rw[cond_false,nn af hx]
 | .ej m xid dp b1 ca a k,X,e,K,d=>by
  rw[xa];simp only[aB.kp,mK a,mK k]
 | .e0 m xid ca a k,X,e,K,d=>by
  simp only[aB.kp,aB.fold,mK a,mK k]
 | .bad _,_,_,_,_=>rfl
def aB.wp(M:List aS):aB→Env→(b0→aq→Env→Prop)→Prop
 | .cH x S,e,Q=>Q x S e
 | .lt i x t,e,Q=>t.wp M (ba.put e i (x.den M e)) Q
 | .eG n t,e,Q=>n.ok M e∧t.wp M e Q
 | .it g a b,e,Q=>(g.aA e .bool=true→a.wp M e Q)∧(g.aA e .bool=false→b.wp M e Q)
 | .dC n a ps k,e,Q=>a.wp M e fun x S ay=>bif x.bT n then k.wp M (fM e (fun r p=>⟨r,(p.dh S).get ay r⟩) ps) Q else Q x S ay
 | .ej m xid dp b1 ca a k,e,Q=>∃I:Nat→bY ca→Prop,I 0 (b9 _ (dE e ca))∧(∀(i:Nat) (v:bY ca),i<(ck (dp.den M e)).toNat→I i v→
  a.wp M (bm (ba.put e b1 ⟨.int .i64,(i:Int)⟩) ca v) fun x S ay=>bif x.bT m then I (i+1) (b9 _ (fw S ay ca))else bif x.cZ xid then k.wp M (bm e ca (b9 _ (fw S ay ca))) Q else Q x S ay)∧
  ∀v,I (ck (dp.den M e)).toNat v→k.wp M (bm e ca v) Q
 | .e0 m xid ca a k,e,Q=>∃(I:bY ca→Prop) (jC:bY ca→Nat),I (b9 _ (dE e ca))∧jC (b9 _ (dE e ca))<dU∧∀(v:bY ca),I v→
  a.wp M (bm e ca v) fun x S ay=>bif x.bT m then I (b9 _ (fw S ay ca))∧jC (b9 _ (fw S ay ca))<jC v else bif x.cZ xid then k.wp M (bm e ca (b9 _ (fw S ay ca))) Q else Q x S ay
 | .bad _,_,_=>False
theorem UK{R A:Type}{b:Nat→A→Step R A}(I:Nat→A→Prop)(vB:R→Prop)(tF:A→Prop)(n:Nat)(h: ∀i v,i<n→I i v→(∀r,b i v= .ret r→vB r)∧(∀bh,b i v= .cI bh→tF bh)∧∀bh,b i v= .br bh→I (i+1) bh)
 (he: ∀v,I n v→tF v): ∀(m k:Nat) (a:A),k+m=n→I k a→(∀r,bp b k m a= .inl r→vB r)∧∀v,bp b k m a= .inr v→tF v
 |0,k,a,hn,hi=>by
  have:k=n:=by omega
  subst this;exact⟨fun r af=>(by cases af),fun v aw=>(by cases aw;exact he a hi)⟩
 |m+1,k,a,hn,hi=>by
  obtain⟨aa,ae,au⟩:=h k a (by omega) hi
  simp only[bp]
  cases ad:b k a with
  |ret r=>exact⟨fun eR af=>(by cases af;exact aa r ad),fun v aw=>(by cases aw)⟩
  |cI v=>exact⟨fun eR af=>(by cases af),fun bh aw=>(by cases aw;exact ae v ad)⟩
  |br v=>exact UK I vB tF n h he m (k+1) v (by omega) (au v ad)
theorem UL{R A:Type}{b:A→Step R A}(I:A→Prop)(jC:A→Nat)(vB:R→Prop)(tF:A→Prop)(h: ∀v,I v→(∀r,b v= .ret r→vB r)∧(∀bh,b v= .cI bh→tF bh)∧∀bh,b v= .br bh→I bh∧jC bh<jC v):
 ∀(m:Nat) (a:A),jC a<m→I a→kg b m a∧(∀r,c0 b m a= .inl r→vB r)∧∀v,c0 b m a= .inr v→tF v
 |0,a,hm,_=>absurd hm (Nat.not_lt_zero _)
 |m+1,a,hm,hi=>by
  obtain⟨aa,ae,au⟩:=h a hi;simp only[c0,kg]
  cases ad:b a with
  |ret r=>exact⟨trivial,fun eR af=>(by cases af;exact aa r ad),fun v aw=>(by cases aw)⟩
  |cI v=>exact⟨trivial,fun eR af=>(by cases af),fun bh aw=>(by cases aw;exact ae v ad)⟩
  |br v=>
   obtain⟨g1,g2⟩:=au v ad;exact UL I jC vB tF h m v (by omega) g1
def Fj(M:List aS)(t:aB)(e:Env)(Q:b0→aq→Env→Prop):Prop:=∃x S ay,run M t e=some (x,S,ay)∧Q x S ay
theorem UM{m xid:Nat}{ca:List hD}{a:aB}{e:Env}{v:bY ca}{J:bY ca→Prop}{B:bY ca→Prop}{Q:b0→aq→Env→Prop}
 (h:Fj M a e fun x S ay=>bif x.bT m then J (b9 _ (fw S ay ca))else bif x.cZ xid then B (b9 _ (fw S ay ca))else Q x S ay):
 (∀r,c6 M m xid ca a e v= .ret r→∃x S ay,r=some (x,S,ay)∧Q x S ay)∧(∀bh,c6 M m xid ca a e v= .cI bh→B bh)∧∀bh,c6 M m xid ca a e v= .br bh→J bh:=by
 obtain⟨x,S,ay,af,aJ⟩:=h
 unfold c6
 rw[af]
 simp only
 cases hx:x.bT m with
 |true=>
  rw[hx,cond_true]at aJ;rw[n7 hx];exact⟨fun r bb=>(by cases bb),fun bh bb=>(by cases bb),fun bh bb=>(by cases bb;exact aJ)⟩
 |false=>
  rw[hx,cond_false]at aJ
  cases ax:x.cZ xid with
  |true=>
   rw[ax,cond_true]at aJ;rw[n8 hx ax];exact⟨fun r bb=>(by cases bb),fun bh bb=>(by cases bb;exact aJ),fun bh bb=>(by cases bb)⟩
  |false=>
   rw[ax,cond_false]at aJ;rw[kj hx ax];exact⟨fun r bb=>(by cases bb;exact⟨_,_,_,rfl,aJ⟩),fun bh bb=>(by cases bb),fun bh bb=>(by cases bb)⟩
theorem kq: ∀(t:aB) {e:Env} {Q:b0→aq→Env→Prop},t.wp M e Q→t.safe M e∧Fj M t e Q
 | .cH x S,e,Q,h=>⟨trivial,x,S,e,rfl,h⟩
 | .lt i x t,e,Q,h=>kq t (e:=ba.put e i (x.den M e)) h
 | .eG n t,e,Q,h=>⟨⟨h.1,(kq t h.2).1⟩,(kq t h.2).2⟩
 | .it g a b,e,Q,h=>by
  refine⟨⟨fun ah=>(kq a (h.1 ah)).1,fun ah=>(kq b (h.2 ah)).1⟩,?_⟩
  cases ah:g.aA e .bool with
  |true=>
   obtain⟨x,S,ay,aa,ae⟩:=(kq a (h.1 ah)).2;exact⟨x,S,ay,by rw[tr ah];exact aa,ae⟩
  |false=>
   obtain⟨x,S,ay,aa,ae⟩:=(kq b (h.2 ah)).2;exact⟨x,S,ay,by rw[tr ah];exact aa,ae⟩
 | .dC n a ps k,e,Q,h=>by
  obtain⟨aa,x,aT,aC,af,au⟩:=kq a h
  cases hx:x.bT n with
  |true=>
   rw[hx,cond_true]at au;obtain⟨ft,iI,dg,ay,gG,kZ⟩:=kq k au;refine⟨⟨aa,fun _=>?_⟩,iI,dg,ay,by unfold run;rw[qy af hx];exact gG,kZ⟩
   have:(fun(r:aW) (p:ey)=>(⟨r,bif a.jw n
    then a.fold M e (fun _ S ay=>(p.dh S).get ay r) r.fu
    else a.fold M e (fun x S ay=>bif x.bT n then(p.dh S).get ay r else r.fu) r.fu⟩:aF))=fun r p=>⟨r,(p.dh aT).get aC r⟩:=by
    funext r p
    simp only[kk af,hx]
    cases a.jw n<;>rfl
   rw[this];exact ft
  |false=>
   rw[hx,cond_false]at au;exact⟨⟨aa,fun ag=>by rw[kk af,hx]at ag;cases ag⟩,x,aT,aC,by unfold run;rw[nn af hx],au⟩
 | .ej m xid dp b1 ca a k,e,Q,h=>by
  obtain⟨I,aH,ad,he⟩:=h
  have qt:=fun(i:Nat) (v:bY ca) hi aw=>kq a (ad i v hi aw)
  have A9:=fun(i:Nat) (v:bY ca) hi aw=>UM (v:=v) (J:=I (i+1)) (B:=fun bh=>k.wp M (bm e ca bh) Q) (Q:=Q) (qt i v hi aw).2
  obtain⟨dx,eS⟩:=UK I (fun r=>∃x S ay,r=some (x,S,ay)∧Q x S ay) (fun v=>k.wp M (bm e ca v) Q) (ck (dp.den M e)).toNat A9 (fun v aw=>he v aw) (ck (dp.den M e)).toNat 0 _ (Nat.zero_add _) aH
  have hQ:(fun(i:Nat) (v:bY ca)=>(a.fold M (bm (ba.put e b1 ⟨.int .i64,(i:Int)⟩) ca v) (ee m xid ca fun _ _ _=>()) (.cI v):Step Unit (bY ca)))=fun(i:Nat) v=>iR (fun _=>()) (c6 M m xid ca a (bm (ba.put e b1 ⟨.int .i64,(i:Int)⟩) ca v) v):=by
   funext i v
   exact iS ..
  have xH:=w6 (fun _:Option nk=>()) (b:=fun(i:Nat) v=>c6 M m xid ca a (bm (ba.put e b1 ⟨.int .i64,(i:Int)⟩) ca v) v) (c:=fun(i:Nat) v=>iR (fun _=>()) (c6 M m xid ca a (bm (ba.put e b1 ⟨.int .i64,(i:Int)⟩) ca v) v)) (fun _ _=>rfl) (ck (dp.den M e)).toNat 0 (b9 _ (dE e ca))
  refine⟨⟨⟨I,aH,fun i v hi aw=>⟨(qt i v hi aw).1,fun bh hn=>(A9 i v hi aw).2.2 bh ?_⟩⟩,?_⟩,?_⟩
  ·rw[iS]at hn
   exact s7 hn
  ·rw[hQ,xH]
   cases ar:bp (fun(i:Nat) v=>c6 M m xid ca a (bm (ba.put e b1 ⟨.int .i64,(i:Int)⟩) ca v) v) 0 (ck (dp.den M e)).toNat (b9 _ (dE e ca))with
   |inl r=>trivial
   |inr v=>exact(kq k (eS v ar)).1
  ·unfold Fj
   rw[Ei]
   cases ar:bp (fun(i:Nat) v=>c6 M m xid ca a (bm (ba.put e b1 ⟨.int .i64,(i:Int)⟩) ca v) v) 0 (ck (dp.den M e)).toNat (b9 _ (dE e ca))with
   |inl r=>exact dx r ar
   |inr v=>exact(kq k (eS v ar)).2
 | .e0 m xid ca a k,e,Q,h=>by
  obtain⟨I,jC,aH,hm,ad⟩:=h
  have qt:=fun(v:bY ca) aw=>kq a (ad v aw)
  have A9:=fun(v:bY ca) aw=>UM (v:=v) (J:=fun bh=>I bh∧jC bh<jC v) (B:=fun bh=>k.wp M (bm e ca bh) Q) (Q:=Q) (qt v aw).2
  obtain⟨zgE,dx,eS⟩:=UL I jC (fun r=>∃x S ay,r=some (x,S,ay)∧Q x S ay) (fun v=>k.wp M (bm e ca v) Q) A9 dU _ hm aH
  have hQ:(fun(v:bY ca)=>(a.fold M (bm e ca v) (ee m xid ca fun _ _ _=>()) (.cI v):Step Unit (bY ca)))=fun v=>iR (fun _=>()) (c6 M m xid ca a (bm e ca v) v):=by
   funext v
   exact iS ..
  have xH:=w7 (fun _:Option nk=>()) (b:=fun v=>c6 M m xid ca a (bm e ca v) v) (c:=fun v=>iR (fun _=>()) (c6 M m xid ca a (bm e ca v) v)) (fun _=>rfl) dU (b9 _ (dE e ca))
  have zgF:=KC (fun _:Option nk=>()) (b:=fun v=>c6 M m xid ca a (bm e ca v) v) (c:=fun v=>iR (fun _=>()) (c6 M m xid ca a (bm e ca v) v)) (fun _=>rfl) dU (b9 _ (dE e ca))
  refine⟨⟨⟨I,aH,fun v aw=>⟨(qt v aw).1,fun bh hn=>((A9 v aw).2.2 bh ?_).1⟩⟩,?_,?_⟩,?_⟩
  ·rw[iS]at hn
   exact s7 hn
  ·rw[hQ]
   exact zgF.2 zgE
  ·rw[hQ,xH]
   cases ar:c0 (fun v=>c6 M m xid ca a (bm e ca v) v) dU (b9 _ (dE e ca))with
   |inl r=>trivial
   |inr v=>exact(kq k (eS v ar)).1
  ·unfold Fj
   rw[Ej]
   cases ar:c0 (fun v=>c6 M m xid ca a (bm e ca v) v) dU (b9 _ (dE e ca))with
   |inl r=>exact dx r ar
   |inr v=>exact(kq k (eS v ar)).2
 | .bad _,_,_,h=>h.elim
end
def wk(M:List aS)(t:aB)(rs:List aW)(e:Env):(fb rs).den:=t.kp M e (fun _ C ay=>Ns rs C ay) (fb rs).fu
section
variable {P:Program} {G:a8} {M:List aS} {inl:Nat→List ab→aq→aB}
theorem fZ(bU:fK P G M inl){f:Nat}{m:aS}(t:aB)(aI:inl f (hz 0 m.ps) (qb m.ps.length)=t)(he:(t.clean&&t.gx.all (uv m.rs))=true)
 (hm: ∀x,wk M t m.rs (gy 0 (dz m.ps x))=m.m x):bG P G f m:=
 zgD bU t aI he fun x=>by rw[←hm x];exact(mK t _ _ _).symm
theorem zgG(bU:fK P G M inl){f:Nat}{m:aS}(t:aB)(aI:inl f (hz 0 m.ps) (qb m.ps.length)=t)(he:t.gx.all (uv m.rs)=true)
 (ai: ∀x,lp m.pre x→t.wp M (gy 0 (dz m.ps x)) fun _ _ _=>True)(hm: ∀x,wk M t m.rs (gy 0 (dz m.ps x))=m.m x):bG P G f m:=
 Nu bU t aI he (fun x hx=>(kq t (ai x hx)).1) fun x _=>by rw[←hm x];exact(mK t _ _ _).symm
end
end Go.aM
namespace Go.aM
open Go
section
variable {P:Program} {G:a8} {f:FuncId} {args:List aD} {σ:Heap} {n:Nat}
theorem dF.zgH{t:TypeId}{cs ln:List aD}{R:aD→List aD→Prop}(h:dF P G f (.ptr 0 0::args) [(0,.box t cs)] 1 fun r bV=>∃cs',bV=[(0,.box t cs')]∧R r cs')(ak:e4 args=true)(dI:e4 cs=true)
 (fL: ∀r cs',R r cs'→jS r=true∧nd cs'=true){id:Nat}(bd:aE σ id=some (.box t ln))(gA:fQ ln cs):
 dF P G f (.ptr id 0::args) σ n fun r bV=>∃cs',bV=eO σ id (.box t cs')∧R r cs':=by
 intro w β ro ea aa ae au aR bA
 have dk:=au.c7 id _ bd
 cases dk with
 |box _ _ b arr aC bf cg ek=>
  have UN: ∀k,Own [(0,eh.box t cs)] (fun _=>β id) k→b4 (β id)=some k:=fun k ⟨i,o,ah,_,ad⟩=>ad
  have kX:hb w ro [(0,.box t cs)] (fun _=>β id) 1:=by
   refine⟨fun i o ah=>?_,fun i zz o cz k ah dV _ _ _ _=>?_,fun k aj an=>au.ff k aj ⟨id,_,bd,rfl,UN k an⟩,au.lt⟩
   ·simp only[aE]at ah
    split at ah
    ·rename_i hi
     subst hi;cases ah;refine .box t cs b arr aC bf (by rw[cg,gA.at.1]) fun j x ag=>?_
     obtain⟨y,ax,ai⟩:=gA.at.2 j x ag;exact nX (ai _ _ _ _ _ _ (ek j y ax)) (m8 dI ag)
    ·cases ah
   ·simp only[aE]at ah dV
    split at ah
    ·split at dV
     ·rename_i b7 a2;rw[←b7,←a2]
     ·cases dV
    ·cases ah
  refine Calls.mono (h w (fun _=>β id) ro ea aa (fun i x hx=>?_) kX aR (fun i o ah=>?_)) fun e w' ⟨v,r,fB,dL,ro',cJ,he,⟨cs',JK,af⟩,dB,hO,cE⟩=>?_
  ·cases i with
   |zero=>
    simp only[List.getElem?_cons_zero,Option.some.injEq]at hx
    subst hx
    have:=ae 0 _ rfl
    generalize ea.getD 0 undef=bR at this⊢
    cases this with
    |ptr _ _ _ ar kl=>
     refine .ptr 0 0 bR Nat.one_pos fun bz cs' ah=>?_
     exact kl t ln bd
   |succ i=>exact nX (ae (i+1) x (by simpa using hx)) (m8 ak (by simpa using hx))
  ·simp only[aE]at ah
   split at ah
   ·rename_i hi;rw[←hi];exact Nat.one_pos
   ·cases ah
  ·subst JK
   obtain⟨zgI,zgJ⟩:=fL r cs' af
   have gQ:c5 ⟨w,ro,σ,β,n⟩ G ⟨[],σ,n,n⟩ ⟨#[],[]⟩ w β ro:=⟨rfl,rfl,by simp,au,aR,⟨rfl,rfl,rfl,Nat.le_refl _,fun _ _ _=>rfl,fun _ h=>.inl h,fun _ h=>h,fun _ h=>.inl h,fun id _ o ah=>⟨by simp[ah],rfl⟩,bA,Nat.le_refl _⟩,Nat.le_refl _⟩
   have zgK:dL 0=β id:=(cE.dK 0 Nat.one_pos (.box t cs') (by simp[aE])).2
   have hw:=gQ.write (w':=w') id _ (.box t cs') bd rfl rfl (.inl ⟨t,ln,cs',rfl,rfl⟩) cE.os cE.tape cE.output cE.size (fun k aj b5=>cE.frame k aj fun an=>b5 (UN k an)) (by
    have zgL:=hO.c7 0 (.box t cs') (by simp[aE])
    cases zgL with
    |box _ _ b' zgM g1 g2 g3 g4=>
     exact .box t cs' b' zgM (by rw[←zgK];exact g1) g2 g3 fun j x ag=>Dk (g4 j x ag) (Dj zgJ ag))
   exact⟨v,r,eO σ id (.box t cs'),β,ro,n,he,⟨cs',rfl,af⟩,Dk dB zgI,hw.heap,hw.trans⟩
end
def x8(ds:List aF):List aD:=
 match ds with
 |⟨.st c,x⟩::_=>(cb c x).map .av
 |_=>[]
def Fk(ds:List aF):aD:=
 match ds.tail.map aF.fk with
 |[v]=>v
 |l=>.tuple l
def m3(P:Program)(G:a8)(f:Nat)(t:TypeId)(m:aS):Prop:=
 ∀x:(fb m.ps).den,lp m.pre x→dF P G f (.ptr 0 0::(dz m.ps x).tail.map aF.fk) [(0,.box t (x8 (dz m.ps x)))] 1 fun v bV=>∃cs',bV=[(0,.box t cs')]∧v=Fk (dz m.rs (m.m x))∧cs'=x8 (dz m.rs (m.m x))
structure j6 where
 f:Nat
 j:Nat
 t:TypeId
 c:bL
 ps:List aW
 rs:List aW
 eJ:Bool
def j6.pK(b:j6):iu:=⟨b.f,b.j,.st b.c::b.ps,.st b.c::b.rs,b.eJ⟩
def zgN(P:Program)(G:a8)(M:List aS)(b:j6):Prop:=
 (e3 aS.d M b.j).ps= .st b.c::b.ps∧(e3 aS.d M b.j).rs= .st b.c::b.rs∧m3 P G b.f b.t (e3 aS.d M b.j)∧(b.eJ=true→(e3 aS.d M b.j).pre=none)
def Jv(P:Program)(G:a8)(M:List aS)(C:List j6):Prop:=∀b∈C,zgN P G M b
def Fl(f:Nat):List j6→Option j6
 |[]=>none
 |c::r=>match Nat.beq c.f f with
  |true=>some c
  |false=>Fl f r
theorem UO{f:Nat}{c:j6}: ∀{C:List j6},Fl f C=some c→c∈C∧c.f=f
 |[],h=>by cases h
 |d::r,h=>by
  unfold Fl at h
  split at h
  ·rename_i hd;cases h;exact⟨List.mem_cons_self ..,Nat.eq_of_beq_eq_true hd⟩
  ·obtain⟨aa,ae⟩:=UO h;exact⟨List.mem_cons_of_mem _ aa,ae⟩
def pL(rs:List aW)(k:Nat):Nat:=
 match rs with
 |[_]=>k
 |_=>k+1
def Fm(rs:List aW)(k:Nat):ab:=
 match rs with
 |[r]=>A4 r k
 |rs=>.tp (hz k rs)
def Fo(b:j6)(S:aq)(id:Nat)(xs:List ab):aq:=
 ⟨ba.put .emp 0 (Fm b.rs (pL b.pK.rs S.k+1)),jv S.h id (.dn b.t (iP b.c (pL b.pK.rs S.k) 0 (eY b.c))),S.n,S.k+(iD b.pK xs S.k).length,S.g⟩
def UP(b:j6)(S:aq)(t:TypeId)(l rest xs:List ab):Bool:=
 (Nat.beq t b.t&&(hq (eY b.c) l&&ab.cK S.k l))&&((tD rest&&ab.cK S.k xs)&&((aW.st b.c).tC&&(b.rs.all aW.tC&&b.rs.all aW.iz)))
def Nv(C:List j6)(inl:Nat→List ab→aq→aB)(f:Nat)(aG:List ab)(S:aq):aB:=
 match Fl f C,aG with
 |some b,.eb id 0::rest=>match db S.h id,r5 S b.ps rest with
  |some (.dn t l),some xs=>match UP b S t l rest xs with
   |true=>emit S.k (iD b.pK (.ch l::xs) S.k) (Fc b.pK (.ch l::xs)) (.cH .cj (Fo b S id (.ch l::xs)))
   |false=>inl f aG S
  |_,_=>inl f aG S
 |_,_=>inl f aG S
section
variable {P:Program} {G:a8} {M:List aS} {C:List j6} {inl:Nat→List ab→aq→aB}
theorem zgO{c:iu}{xs:List ab}{k:Nat}{e:Env}{y:(fb c.rs).den}(ar:ab.cK k xs=true)(aH:Env.at (di M e k (iD c xs k)) k=⟨fb c.rs,y⟩):
 ∀(j:Nat) (d:aF),(dz c.rs y)[j]? =some d→Env.at (di M e k (iD c xs k)) (pL c.rs k+j)=d:=by
 have eL:=jz (M:=M) (e:=e) (Ff (c:=c) ar)
 obtain⟨f,Fh,ps,rs,eJ⟩:=c
 simp only at y aH eL⊢
 match rs,y,aH,eL with
 |[],y,aH,eL=>intro j d ag;cases ag
 |[r],y,aH,eL=>
  intro j d ag
  cases j with
  |zero=>
   have ag:(⟨r,y⟩:aF)=d:=by simpa[dz]using ag
   rw[←ag];exact aH
  |succ j=>simp[dz]at ag
 |r::s::l,y,aH,eL=>
  intro j d ag
  have hlen:j<(r::s::l).length:=by
   have aa:=(List.getElem?_eq_some_iff.1 ag).1
   have:=congrArg List.length (tE (rs:=r::s::l) (x:=y))
   rw[List.length_map]at this;omega
  have aa:=eL (j+1) (.rK (r::s::l) k j) (by
   show(bJ.ca Fh xs::om (r::s::l) k 0 (r::s::l))[j+1]? =_
   rw[List.getElem?_cons_succ,Nk,if_pos hlen,Nat.zero_add])
  show Env.at _ (k+1+j)=d;rw[show k+1+j=k+(j+1)by omega,aa]
  simp only[bJ.den,aH,cA];exact Np ag
theorem zgP{e:Env}{rs:List aW}{k:Nat}{ds:List aF}(af:ds.map aF.r=rs)(h: ∀j d,ds[j]? =some d→Env.at e (k+j)=d):(Fm rs k).den G e=(match ds.map aF.fk with|[v]=>v|l=>.tuple l):=by
 match rs,ds,af,h with
 |[],ds,af,h=>cases mz af;rfl
 |[r],ds,af,h=>
  obtain⟨d,pd,rfl,aa,ae⟩:=lK af
  cases mz ae
  subst aa;exact Nn (x:=d.v) (h 0 d rfl)
 |r::s::l,ds,af,h=>
  have:=A5 (G:=G) (i:=k) af h
  obtain⟨d,pd,rfl,aa,ae⟩:=lK af;obtain⟨d2,ziT,rfl,au,aR⟩:=lK ae;show aD.tuple (ab.bQ G e (hz k (r::s::l)))=_;rw[this];rfl
theorem zgQ{ds:List aF}{c:bL}{x:fJ c}{r:List aF}(h:ds=⟨.st c,x⟩::r)(hc:(aW.st c).tC=true):nd (x8 ds)=true:=by
 subst h
 have:=UE (d:=⟨.st c,x⟩) hc
 exact this
theorem zgR(kO:Jv P G M C)(bU:fK P G M inl):fK P G M (Nv C inl):=fun f aG S e ad ar hf ai=>by
 unfold Nv at ai⊢
 split at ai
 rotate_left
 ·exact bU _ _ S e ad ar hf ai
 rename_i b id rest hc
 split at ai
 rotate_left
 ·exact bU _ _ S e ad ar hf ai
 rename_i t l xs ah hx
 split at ai
 rotate_left
 ·exact bU _ _ S e ad ar hf ai
 rename_i aj
 simp only[UP,Bool.and_eq_true]at aj
 obtain⟨⟨ft,gG,kZ⟩,⟨sH,zc⟩,uz,wv,Nw⟩:=aj
 have ft:=Nat.eq_of_beq_eq_true ft
 subst ft
 obtain⟨hm,A8⟩:=UO hc
 obtain⟨g1,g2,g3,g4⟩:=kO b hm
 have zgS:ab.lt S.k (.ch l)=true:=kZ
 have Fp:ab.cK S.k (.ch l::xs)=true:=by simp only[ab.cK,zgS,zc,Bool.and_self]
 obtain⟨hn,_⟩:=mH ai
 have vz:=Ff (c:=b.pK) Fp
 have bS:bX S.k e (di M e S.k (iD b.pK (.ch l::xs) S.k)):=jW (Nat.le_refl _)
 have b5:b.eJ=false→fe.ok M (di M e S.k (iD b.pK (.ch l::xs) S.k)) (.ca b.j (.ch l::xs)):=fun jn=>hn _ (by unfold Fc;rw[show b.pK.eJ=b.eJ from rfl,jn];exact List.mem_singleton.2 rfl)
 obtain⟨b7,a2,a3,a4⟩:=x7 (G:=G) (e:=e) hx
 have eL:=jz (M:=M) (e:=e) vz 0 (.ca b.j (.ch l::xs)) (by unfold iD;split<;>rfl)
 have dD:=zZ (G:=G) (e:=e) gG
 obtain⟨Fq,Ba,bt,hV,r6,nA,Bb⟩:=b
 simp only[j6.pK]at g1 g2 g3 g4 A8 vz bS b5 b7 a2 a3 a4 eL gG uz wv Nw dD hx⊢
 subst A8
 simp only[Nat.add_zero,bJ.den]at eL
 simp only[fe.ok]at b5
 clear ai hn
 generalize e3 aS.d M Ba=m at g1 g2 g3 g4 eL b5
 obtain⟨ziU,ziV,ziW,oq⟩:=m
 simp only at g1 g2 g3 g4 eL b5
 subst g1 g2
 rw[xd bS Fp]at eL
 have vy:(gD e (.st hV::r6) (.ch l::xs)).map aF.r= .st hV::r6:=by simp only[gD,List.map_cons,a4]
 have Bc:=x6 vy
 have hk:=g3 (b9 _ (gD e (.st hV::r6) (.ch l::xs))) (by
  cases Bb with
  |true=>rw[g4 rfl];trivial
  |false=>
   have:=b5 rfl
   rw[xd bS Fp]at this
   exact this)
 simp only at hk
 rw[Bc]at hk
 generalize ax:oq (b9 (.st hV::r6) (gD e (.st hV::r6) (.ch l::xs)))=y at hk eL
 have D9:=zgO (M:=M) (c:=⟨Fq,Ba,.st hV::r6,.st hV::nA,Bb⟩) Fp eL
 obtain⟨d0,tG,na,ox,hdr⟩:=lK (tE (rs:=.st hV::nA) (x:=y))
 obtain⟨zgT,c8⟩:=d0
 simp only at ox
 subst ox
 simp only[na]at hk D9
 rw[a3 sH]at b7 a2
 have hk:=hk.arg (.cons (Sub.refl _) b7)
 have bd:aE (cx G e S.h) id=some (.box bt (ab.bQ G e l)):=by rw[ef,ah];rfl
 have lT:=dF.zgH (R:=fun r cs'=>r=Fk (⟨.st hV,c8⟩::tG)∧cs'=x8 (⟨.st hV,c8⟩::tG)) (σ:=cx G e S.h) (n:=S.n) hk a2 (C3 _) (fun r cs' ⟨c3,dj⟩=>⟨by
  rw[c3]
  have hsc:nd (tG.map aF.fk)=true:=Nj fun d hd=>by
   have:d.r∈nA:=by rw[←hdr];exact List.mem_map_of_mem hd
   exact List.all_eq_true.1 wv d.r this
  unfold Fk;simp only[List.tail_cons]
  split
  ·rename_i v aw
   rw[aw]at hsc;simpa[nd]using hsc
  ·exact hsc,by rw[dj];exact zgQ rfl uz⟩) bd dD
 have aH:=D9 0 ⟨.st hV,c8⟩ rfl
 rw[Nat.add_zero]at aH
 have hlen:pL (.st hV::nA) S.k+1+nA.length≤S.k+(iD ⟨Fq,Ba,.st hV::r6,.st hV::nA,Bb⟩ (.ch l::xs) S.k).length:=by
  cases nA with
  |nil=>simp[pL,iD]
  |cons r q=>simp only[pL,iD,List.length_cons,Nl];omega
 have zgU:pL (.st hV::nA) S.k<S.k+(iD ⟨Fq,Ba,.st hV::r6,.st hV::nA,Bb⟩ (.ch l::xs) S.k).length:=by omega
 refine lT.res fun r bV ⟨cs',aa,ae,au⟩=>⟨_,_,by rw[lR];rfl,?_,?_,?_,?_,bS,Nat.le_add_right _ _⟩
 ·rw[ae]
  have:=zgP (G:=G) (k:=pL (.st hV::nA) S.k+1) hdr fun j d ag=>by
   have:=D9 (j+1) d (by simpa using ag)
   rw[←this]
   congr 1
   omega
  show _=ab.den G _ (aq.at (Fo _ S id _) 0);unfold Fo aq.at
  simp only[ba.h0,if_true];exact this.symm
 ·rw[aa,au]
  show _=cx G _ (jv S.h id _);rw[s8,xc bS ad.h];simp only[bC.den,j6.pK];rw[s0,aH,cA];rfl
 ·refine⟨fun i x hi=>?_,EF (o:=.dn bt (iP hV (pL (.st hV::nA) S.k) 0 (eY hV))) (Fg zgU) (s9 (Nat.le_add_right _ _) ad.h),oa (Nat.le_add_right _ _) ad.g⟩
  simp only[Fo,ba.h0]at hi
  split at hi
  ·cases hi
   show(Fm nA (pL (.st hV::nA) S.k+1)).lt (S.k+_)=true;unfold Fm
   split
   ·have JQ:pL (.st hV::[_]) S.k+1<S.k+(iD ⟨Fq,Ba,.st hV::r6,.st hV::[_],Bb⟩ (.ch l::xs) S.k).length:=hlen
    exact No JQ
   ·simp only[ab.lt]
    exact A6 hlen
  ·simp[ba.get]at hi
 ·exact ik bS ad.g hf
end
end Go.aM
