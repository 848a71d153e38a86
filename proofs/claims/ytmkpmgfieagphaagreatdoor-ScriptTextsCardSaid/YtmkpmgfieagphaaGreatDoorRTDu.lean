/- TD, part P: states are joined; what follows a part. Conditions: none. -/
import Derived.Test.YtmkpmgfieagphaaGreatDoorRTDo
namespace Go.aM
open Go
def allEq(v:ab):List ab→Bool
 |[]=>true
 |x::r=>fD x v&&allEq v r
def typeOf:List ab→Option aZ
 |[]=>none
 |x::r=>match x.rt with
  |some t=>some t
  |none=>typeOf r
def C7(r:aZ):List ab→Bool
 |[]=>true
 |x::l=>x.fF r&&C7 r l
def QF(n:Nat):List ab→Bool
 |[]=>true
 | .cF l::r=>Nat.beq l.length n&&QF n r
 |_::_=>false
def QG(n:Nat):List ab→Bool
 |[]=>true
 | .tp l::r=>Nat.beq l.length n&&QG n r
 |_::_=>false
def ab.parts:ab→List ab
 | .tp l=>l
 | .cF l=>l
 |x=>[x]
def JA:List (List ab)→List ab
 |[]=>[]
 |l::r=>eN .top l 0::JA r
def JB:List (List ab)→List (List ab)
 |[]=>[]
 |l::r=>l.tail::JB r
def wT(r:Option (Nat × Nat)):List ab→Option (Nat × Nat)
 |[]=>r
 | .dD i o::l=>match r with
  |none=>wT (some (i,o)) l
  |some (j,q)=>match Nat.beq i j&&Nat.beq o q with
   |true=>wT r l
   |false=>none
 | .e4 _ (some i) o::l=>match r with
  |none=>wT (some (i,o)) l
  |some (j,q)=>match Nat.beq i j&&Nat.beq o q with
   |true=>wT r l
   |false=>none
 | .cs (.pointer none)::l=>wT r l
 |_::_=>none
mutual
def JC(aV:Nat)(p:eg)(rest:List ab)(k:Nat):ab→ab × fw
 | .cF l=>match QF l.length rest with
  |true=>match JD aV p 0 (rest.map ab.cells) k l with
   |(ws,ps)=>(.cF ws,ps)
  |false=>(.top,[])
 | .tp l=>match QG l.length rest with
  |true=>match JD aV p 0 (rest.map ab.parts) k l with
   |(ws,ps)=>(.tp ws,ps)
  |false=>(.top,[])
 |v=>match allEq v rest&&v.lt aV with
  |true=>(v,[])
  |false=>match typeOf (v::rest)with
   |some r=>match C7 r (v::rest)with
    |true=>(.bl r k,[(k,r,p)])
    |false=>(.top,[])
   |none=>match wT none (v::rest)with
    |some (id,off)=>(.e4 (.bl .bool k) (some id) off,[(k,.bool,.kJ p)])
    |none=>(.top,[])
def JD(aV:Nat)(p:eg):Nat→List (List ab)→Nat→List ab→List ab × fw
 |_,_,_,[]=>([],[])
 |i,rs,k,v::l=>match JC aV (uS p i) (JA rs) k v with
  |(w,ps)=>match JD aV p (i+1) (JB rs) (k+ps.length) l with
   |(ws,qs)=>(w::ws,ps++qs)
end
def QH:ab→Bool
 | .top=>true
 |_=>false
def slotsOf(i:Nat):List ar→List ab
 |[]=>[]
 |S::r=>S.at i::slotsOf i r
def JE(aV:Nat)(s:ar)(ek:List ar):Nat→Nat→Nat→List (Nat × ab) × fw
 |0,_,_=>([],[])
 |n+1,i,k=>match QH (s.at i)with
  |true=>JE aV s ek n (i+1) k
  |false=>match JC aV (.slot i []) (slotsOf i ek) k (s.at i)with
   |(w,ps)=>match JE aV s ek n (i+1) (k+ps.length)with
    |(l,qs)=>match QH w with
     |true=>(l,ps++qs)
     |false=>((i,w)::l,ps++qs)
def cellsOf(id:Nat):List ar→Option (List (List ab))
 |[]=>some []
 |S::r=>match dq S.h id,cellsOf id r with
  |some (.dc _ l),some m=>some (l::m)
  |_,_=>none
def rowsOf(id:Nat)(c:bO):List ar→Option (List ab)
 |[]=>some []
 |S::r=>match dq S.h id,rowsOf id c r with
  |some (.rw _ d x),some m=>match decide (d=c)with
   |true=>some (x::m)
   |false=>none
  |_,_=>none
def QI(id:Nat)(x:ab):List ar→Option (List ab)
 |[]=>some []
 |S::r=>match dq S.h id,QI id x r with
  |some (.it y p),some m=>match fD y x with
   |true=>some (p::m)
   |false=>none
  |_,_=>none
def QJ(aV id:Nat):Nat→List (List ab)→Nat→List ab→List ab × fw
 |_,_,_,[]=>([],[])
 |j,rs,k,v::l=>match JC aV (.box id j []) (JA rs) k v with
  |(w,ps)=>match QJ aV id (j+1) (JB rs) (k+ps.length) l with
   |(ws,qs)=>(w::ws,ps++qs)
def oZ(aV:Nat)(ek:List ar):List (Nat × bE)→Nat→List (Nat × bE) × fw
 |[],_=>([],[])
 |(id,.dc t l)::r,k=>match cellsOf id ek with
  |some rs=>match QJ aV id 0 rs k l with
   |(ws,ps)=>match oZ aV ek r (k+ps.length)with
    |(h,qs)=>((id,.dc t ws)::h,ps++qs)
  |none=>oZ aV ek r k
 |(id,.rw t c x)::r,k=>match rowsOf id c ek with
  |some xs=>match allEq x xs&&x.lt aV with
   |true=>match oZ aV ek r k with
    |(h,qs)=>((id,.rw t c x)::h,qs)
   |false=>match C7 (.li c) (x::xs)with
    |true=>match oZ aV ek r (k+1)with
     |(h,qs)=>((id,.rw t c (.bl (.li c) k))::h,(k,.li c,.row id)::qs)
    |false=>oZ aV ek r k
  |none=>oZ aV ek r k
 |(id,.it x p)::r,k=>match QI id x ek with
  |some xs=>match allEq p xs&&p.lt aV with
   |true=>match oZ aV ek r k with
    |(h,qs)=>((id,.it x p)::h,qs)
   |false=>match C7 (.int .i64) (p::xs)with
    |true=>match oZ aV ek r (k+1)with
     |(h,qs)=>((id,.it x (.bl (.int .i64) k))::h,(k,.int .i64,.row id)::qs)
    |false=>oZ aV ek r k
  |none=>oZ aV ek r k
def C8(n:Nat):List ar→Nat
 |[]=>n
 |S::r=>Nat.max S.n (C8 n r)
def zB(N aV:Nat)(s:ar)(ek:List ar):fY:=
 match JE aV s ek N 0 aV with
 |(l,ps)=>match oZ aV ek s.h (aV+ps.length)with
  |(h,qs)=>⟨l,h,C8 s.n ek,ps++qs⟩
def uT(S0:ar)(t:aB)(J:fY)(ek:List ar)(f:ar→aB):aB:=
 match hX S0.k J.ps&&((ri (S0.k+J.ps.length) J.l&&eI (S0.k+J.ps.length) J.h)&&C5 J S0.k ek)with
 |true=>.dr (t.lvl+1) (t.rel (fu (t.lvl+1))) J.ps (f (J.S S0.k S0.g))
 |false=>.bad 8
def QK:bX→Bool
 | .dP (.cs (.bool true)) true=>true
 |_=>false
def QL:List bX→Bool
 |[]=>false
 |c::r=>QK c||QL r
def uU:List bX→List bX
 |[]=>[]
 |c::r=>match QK c with
  |true=>uU r
  |false=>c::uU r
def ar.C9(S:ar):ar:={S with g:=.dP (.cs (.bool true)) true::S.g}
def ar.zC(S:ar):ar:={S with g:=uU S.g}
def JF:List ar→Bool
 |[]=>true
 |S::r=>QL S.g&&JF r
def kL(N:Nat)(S0:ar)(t:aB)(f:ar→aB):aB:=
 match t.gz with
 |[]=>t
 |[_]=>t.eC f none
 |s::ek=>match JF (s::ek)with
  |true=>t.eC (fun S=>f S.zC) none
  |false=>uT S0 t (zB N S0.k s ek) (s::ek) f
def j9:List (ab × Bool)→ab→ab
 |[],v=>v
 |(g,b)::r,v=>.fr g b (j9 r v)
def JG(d:Nat)(gs:List (ab × Bool)):List (Nat × ab)→List (Nat × ab)
 |[]=>[]
 |(i,x)::r=>match Nat.beq i d with
  |true=>(i,j9 gs x)::JG d gs r
  |false=>(i,x)::JG d gs r
def JH(d:Nat)(v:ab):List ar→List ar
 |[]=>[]
 |S::r=>match CZ (S.at d)with
  |true=>S.put (some d) v::JH d v r
  |false=>S::JH d v r
def QM(d:Nat):List ar→ab
 |[]=>.top
 |S::r=>match CZ (S.at d)with
  |true=>QM d r
  |false=>S.at d
def zaW(N aV d:Nat)(gs:List (ab × Bool))(ek:List ar):fY:=
 match JH d (QM d ek) ek with
 |bm::zaX=>match zB N aV bm zaX with
  |J=>⟨JG d gs J.l,J.h,J.n,J.ps⟩
 |[]=>⟨[],[],0,[]⟩
def pT(N:Nat)(S0:ar)(dst:Option Nat)(gs:List (ab × Bool))(t:aB)(f:ar→aB):aB:=
 match dst,gs,t.gz with
 |some d,_::_,s::s2::ek=>uT S0 t (zaW N S0.k d gs (s::s2::ek)) (s::s2::ek) f
 |_,_,_=>kL N S0 t f
section
variable {M:List a1} {G:a7} {N B:Nat}
def ar.cx(S:ar)(e:Env):Prop:=∀c∈S.g,c.ok e
theorem QN{J:fY}{aV:Nat}: ∀{ek:List ar},C5 J aV ek=true→∀S∈ek,je J aV S=true
 |_::r,h,S,hm=>by
  simp only[C5,Bool.and_eq_true]at h
  rcases List.mem_cons.1 hm with rfl|q
  ·exact h.1
  ·exact QN h.2 S q
theorem sE{k:Nat}: ∀{l:List (Nat × ab)},ri k l=true→∀{i:Nat} {x:ab},(i,x)∈l→x.lt k=true
 |(j,y)::r,h,i,x,hm=>by
  simp only[ri,Bool.and_eq_true]at h
  rcases List.mem_cons.1 hm with q|q
  ·cases q;exact h.1
  ·exact sE h.2 q
theorem QO{S0:ar}{t:aB}{J:fY}{ek:List ar}{f:ar→aB}{e:Env}(hn:t.gz=ek)(ae:S0.cw)(hf:S0.cx e)(ag:(uT S0 t J ek f).safe M e):
 t.safe M e∧(∀x aQ aA,run M t e=some (x,aQ,aA)→x≠ .b9→(∀n,x.bH n=false)→run M (uT S0 t J ek f) e=some (x,aQ,aA))∧
 ∀aQ aA,run M t e=some (.b9,aQ,aA)→aQ.cw→aQ.cx aA→bZ S0.k e aA→S0.k≤aQ.k→
  ∃dS aW,cO (aQ.den G N B aA) (dS.den G N B aW)∧dS.cw∧dS.cx aW∧bZ S0.k e aW∧S0.k≤dS.k∧(f dS).safe M aW∧run M (uT S0 t J ek f) e=run M (f dS) aW:=by
 unfold uT at ag⊢
 split at ag
 ·rename_i hc
  simp only[Bool.and_eq_true]at hc;obtain⟨aw,⟨ey,gT⟩,lp⟩:=hc
  have kX:t.ic (fu (t.lvl+1)):=Ir (Nat.lt_succ_self _)
  have pU:=zb (M:=M) kX e
  refine⟨(lN kX).1 ag.1,fun x aQ aA h hx ai=>?_,fun aQ aA h aa ad aq aS=>?_⟩
  ·rw[h]at pU
   have pU:run M _ e=some (fu (t.lvl+1) x,aQ,aA):=pU
   have hm:fu (t.lvl+1) x=x:=by
    cases x with
    |b9=>exact absurd rfl hx
    |_=>rfl
   rw[hm]at pU;unfold run;rw[nj pU (ai _)]
  ·rw[h]at pU
   have pU:run M _ e=some (.lh (t.lvl+1),aQ,aA):=pU
   have ai:bT.bH (t.lvl+1) (.lh (t.lvl+1))=true:=Nat.beq_refl _
   have zaY:=PT ag pU ai
   have hle:=C6 (G:=G) (N:=N) (B:=B) aw ad (QN lp aQ (by have:=nr h;rw[hn]at this;exact this)) (g:=S0.g) aq
   have bG:bZ S0.k e (fB e (fun r p=>⟨r,(p.c1 aQ).get aA r⟩) J.ps):=fun i hi=>zA aw i hi
   refine⟨J.S S0.k S0.g,_,hle,⟨fun i x hx=>sE ey (oX hx),gT,oQ (Nat.le_add_right _ _) ae.g⟩,ig bG ae.g hf,bG,Nat.le_add_right _ _,zaY,?_⟩
   show(aB.dr _ _ _ _).fold M e _ none=_;rw[pM pU ai];rfl
 ·exact ag.elim
theorem JI: ∀{g:List bX} {c:bX},c∈uU g→c∈g
 |[],_,h=>h
 |d::r,c,h=>by
  unfold uU at h
  split at h
  ·exact List.mem_cons_of_mem _ (JI h)
  ·rcases List.mem_cons.1 h with rfl|h
   ·exact List.mem_cons_self ..
   ·exact List.mem_cons_of_mem _ (JI h)
theorem JJ{k:Nat}: ∀{g:List bX},e5 k g=true→e5 k (uU g)=true
 |[],_=>rfl
 |d::r,h=>by
  simp only[e5,Bool.and_eq_true]at h;unfold uU
  split
  ·exact JJ h.2
  ·simp only[e5,Bool.and_eq_true];exact⟨h.1,JJ h.2⟩
theorem zaZ{S:ar}(h:S.cw):S.zC.cw:=⟨h.l,h.h,JJ h.g⟩
theorem za0{S:ar}{e:Env}(h:S.cx e):S.zC.cx e:=fun c hc=>h c (JI hc)
theorem QP{S:ar}(h:S.cw):S.C9.cw:=⟨h.l,h.h,by show(true&&e5 S.k S.g)=true;rw[Bool.true_and];exact h.g⟩
theorem QQ{S:ar}{e:Env}(h:S.cx e):S.C9.cx e:=fun c hc=>by
 rcases List.mem_cons.1 hc with rfl|hc
 ·rfl
 ·exact h c hc
theorem Da{S0:ar}{t:aB}{f:ar→aB}{e:Env}(ae:S0.cw)(hf:S0.cx e)(ag:(kL N S0 t f).safe M e):
 t.safe M e∧(∀x aQ aA,run M t e=some (x,aQ,aA)→x≠ .b9→(∀n,x.bH n=false)→run M (kL N S0 t f) e=some (x,aQ,aA))∧
 ∀aQ aA,run M t e=some (.b9,aQ,aA)→aQ.cw→aQ.cx aA→bZ S0.k e aA→S0.k≤aQ.k→
  ∃dS aW,cO (aQ.den G N B aA) (dS.den G N B aW)∧dS.cw∧dS.cx aW∧bZ S0.k e aW∧S0.k≤dS.k∧(f dS).safe M aW∧run M (kL N S0 t f) e=run M (f dS) aW:=by
 have e8:=ag
 unfold kL at ag
 split at ag
 ·rename_i hn
  have gV:kL N S0 t f=t:=by unfold kL;rw[hn]
  rw[gV];refine⟨ag,fun x aQ aA h _ _=>h,fun aQ aA h=>?_⟩
  have:=nr h
  rw[hn]at this
  cases this
 ·rename_i hn
  have gV:kL N S0 t f=t.eC f none:=by unfold kL;rw[hn]
  rw[gV];obtain⟨g1,g2,g3⟩:=jz t none ag;refine⟨g1,fun x aQ aA h hx _=>by rw[g2,h,zc hx],fun aQ aA h aa ad aq aS=>?_⟩
  exact⟨aQ,aA,cO.refl _,aa,ad,aq,aS,(g3 aQ aA h).1,by rw[g2,h];rfl⟩
 ·rename_i s ek cb QR
  have gV:kL N S0 t f=match JF (s::ek)with
   |true=>t.eC (fun S=>f S.zC) none
   |false=>uT S0 t (zB N S0.k s ek) (s::ek) f:=by
   unfold kL;rw[QR]
   cases ek with
   |nil=>exact absurd rfl cb
   |cons q r=>rfl
  rw[gV]
  split at ag
  ·obtain⟨g1,g2,g3⟩:=jz t none ag
   refine⟨g1,fun x aQ aA h hx _=>by rw[g2,h,zc hx],fun aQ aA h aa ad aq aS=>?_⟩
   exact⟨aQ.zC,aA,cO.refl _,zaZ aa,za0 ad,aq,aS,(g3 aQ aA h).1,by rw[g2,h];rfl⟩
  ·exact QO QR ae hf ag
theorem JK{S0:ar}{dst:Option Nat}{gs:List (ab × Bool)}{t:aB}{f:ar→aB}{e:Env}(ae:S0.cw)(hf:S0.cx e)(ag:(pT N S0 dst gs t f).safe M e):
 t.safe M e∧(∀x aQ aA,run M t e=some (x,aQ,aA)→x≠ .b9→(∀n,x.bH n=false)→run M (pT N S0 dst gs t f) e=some (x,aQ,aA))∧
 ∀aQ aA,run M t e=some (.b9,aQ,aA)→aQ.cw→aQ.cx aA→bZ S0.k e aA→S0.k≤aQ.k→
  ∃dS aW,cO (aQ.den G N B aA) (dS.den G N B aW)∧dS.cw∧dS.cx aW∧bZ S0.k e aW∧S0.k≤dS.k∧(f dS).safe M aW∧run M (pT N S0 dst gs t f) e=run M (f dS) aW:=by
 unfold pT at ag⊢
 split at ag
 ·rename_i hn
  exact QO hn ae hf ag
 ·exact Da ae hf ag
end
end Go.aM
namespace Go.aM
open Go
def wU(k:Nat):bS→List bX
 | .f1 .nU x=>[.d1 k .nU x]
 | .f1 (.iC c) x=>[.d1 k (.iC c) x]
 | .f1 .nh x=>[.d1 k .nh x]
 | .f2 (.iZ .add .i64 .i64) x y=>[.d2 k (.iZ .add .i64 .i64) x y]
 | .f2 (.oL .lss .i64) x y=>[.d2 k (.oL .lss .i64) x y]
 |_=>[]
def wV(k:Nat):List bS→List bX→List bX
 |[],g=>g
 |x::r,g=>wV (k+1) r (wU k x++g)
def ar.eJ(S:ar)(k:Nat)(xs:List bS):ar:={S with k:=k+xs.length,g:=wV k xs S.g}
inductive Db where
 |yes
 |no
 |on (gs:List (ab × Bool))
 |bad
def uV(l:List bX)(b:Bool):ab→Db
 | .cs (.bool c)=>match decide (c=b)with
  |true=>.yes
  |false=>.no
 | .tp _=>.no
 | .fr h c v=>match h.rt with
  |some .bool=>match uV l b v with
   | .yes=>.on [(h,c)]
   | .no=>.no
   | .on gs=>.on ((h,c)::gs)
   | .bad=>.bad
  |_=>.bad
 |g=>match g.rt,lj g l with
  |some .bool,some c=>match decide (c=b)with
   |true=>.yes
   |false=>.no
  |some .bool,none=>.on [(g,b)]
  |_,_=>.bad
def guardOf(N:Nat)(ops:Array Oper)(S:ar)(o:Oper):Db:=
 match o.guard with
 |none=>.yes
 |some (j,b)=>match mb ops j with
  |some d=>match Nat.blt d N with
   |true=>uV S.g b ((S.at d).res S.g)
   |false=>.bad
  |none=>.bad
def gW:List (ab × Bool)→List bX→List bX
 |[],l=>l
 |(g,b)::r,l=>.dP g b::gW r l
def pV:List (ab × Bool)→fK→fK
 |[],n=>n
 |(g,b)::r,n=>.PR g b (pV r n)
def lR(k:Nat):List (ab × Bool)→Bool
 |[]=>true
 |(g,_)::r=>g.lt k&&lR k r
def fx(e:Env):List (ab × Bool)→Bool
 |[]=>true
 |(g,b)::r=>(g.aH e .bool==b)&&fx e r
def JL(P:Program)(B:Nat)(S:ar)(t:TypeId)(x:ab):Option dx:=
 match x.rt,isStr P t&&Nat.ble B S.n with
 |some .str,true=>some ⟨[],[],none,(S.n,.it x (.cs (.int .i64 0)))::S.h,S.n+1,.iX S.n⟩
 |_,_=>none
def Dc(P:Program)(N B:Nat)(T:List (Nat × bO))(S:ar)(o:Oper):Option dx:=
 match o.op with
 | .alloc t=>I7 P B S t
 | .box t x=>I8 B S t (S.a6 N x)
 | .store t p x=>I9 P S t (S.a6 N p) (S.a6 N x)
 | .buildSlice t len ps=>match Jg P N B T S t len ps.toList with
  |some r=>some r
  |none=>match Jf P N T S t len ps.toList with
   |some r=>some r
   |none=>Jh P N B S t len ps.toList
 | .makeSlice t x y=>Ji P B T S t (S.a6 N x) (S.a6 N y)
 | .range t x=>JL P B S t (S.a6 N x)
 | .call c=>match c.callee,c.args.toList,c.argTypes.toList with
  | .builtin .append,[x,y],[t,bw]=>match Nat.beq t bw with
   |true=>Jl P B S t (S.a6 N x) (S.a6 N y)
   |false=>Jm P B S t bw (S.a6 N x) (S.a6 N y)
  |_,_,_=>none
 |_=>none
structure pW where
 xs:List bS
 g:ab
 h:List (Nat × bE)
 v:ab
 bx:ab
def QS(S:ar)(x:ab):Option pW:=
 match x with
 | .iX id=>match dq S.h id with
  |some (.it s p)=>match s.rt,p.rt with
   |some .str,some (.int .i64)=>some ⟨[.f2 .jm s p,.f2 .kr s p,.f2 .jn s p,.f2 .h0 s p],.bl .bool S.k,kI S.h id (.it s (.bl (.int .i64) (S.k+3))),
    .tp [.cs (.bool true),.bl (.int .i64) (S.k+1),.bl (.int .i32) (S.k+2)],.tp [.cs (.bool false)]⟩
   |_,_=>none
  |_=>none
 |_=>none
def JM(N:Nat)(S:ar)(o:Oper):Option pW:=
 match o.op with
 | .next x true=>QS S (S.a6 N x)
 |_=>none
def pW.ok(q:pW)(S:ar):Bool:=(gU S.k q.xs&&q.g.lt (S.k+q.xs.length))&&(eI (S.k+q.xs.length) q.h&&(q.v.lt (S.k+q.xs.length)&&q.bx.lt (S.k+q.xs.length)))
def pW.st(q:pW)(S:ar)(dst:Option Nat):ar:=(ar.put {S.eJ S.k q.xs with h:=q.h,g:=.dP q.g true::(S.eJ S.k q.xs).g} dst q.v).C9
def pW.wW(q:pW)(S:ar)(dst:Option Nat):ar:=(ar.put {S.eJ S.k q.xs with g:=.dP q.g false::(S.eJ S.k q.xs).g} dst q.bx).C9
def bE.kind:bE→bE→Bool
 | .dc _ _,.dc _ _=>true
 | .rw _ c _,.rw _ d _=>Nat.beq (c8 c) (c8 d)
 | .it _ _,.it _ _=>true
 |_,_=>false
def zD(n:Nat)(aU:List (Nat × bE)):List (Nat × bE)→Bool
 |[]=>true
 |(id,o)::r=>(match Nat.blt id n with
  |true=>match dq aU id with
   |some cm=>bE.kind cm o
   |none=>false
  |false=>true)&&zD n aU r
mutual
def ab.rj(n:Nat):ab→Bool
 | .cF l=>ab.sF n l
 | .tp l=>ab.sF n l
 | .dD k _=>Nat.blt k n
 | .gy k _ _=>Nat.blt k n
 | .gF k _ _ _=>Nat.blt k n
 | .aP k=>Nat.blt k n
 | .cz k _=>Nat.blt k n
 | .e4 _ (some k) _=>Nat.blt k n
 | .fn _ a b=>ab.sF n a&&ab.sF n b
 | .iX k=>Nat.blt k n
 | .fr _ _ x=>ab.rj n x
 |_=>true
def ab.sF(n:Nat):List ab→Bool
 |[]=>true
 |x::r=>ab.rj n x&&ab.sF n r
end
def n1(n:Nat):List (Nat × bE)→Bool
 |[]=>true
 |(id,.dc _ l)::r=>Nat.blt id n&&(ab.sF n l&&n1 n r)
 |(id,.rw _ _ _)::r=>Nat.blt id n&&n1 n r
 |(id,.it _ _)::r=>Nat.blt id n&&n1 n r
def ar.back(S:ar)(dst:Option Nat)(C:ar):ar:=(⟨S.l,C.h,C.n,C.k,C.g⟩:ar).put dst (C.at 0)
def Dd(S C:ar):Bool:=(ab.rj C.n (C.at 0)&&n1 C.n C.h)&&(Nat.ble S.n C.n&&zD S.n S.h C.h)
def zE(S:ar)(dst:Option Nat)(C:ar):aB:=
 match Dd S C with
 |true=>.cu .b9 (S.back dst C)
 |false=>.bad 34
def JN(C:ar):List ab→List ab→Nat→Option (Nat × Nat × Nat)
 | .aP k::r,.aP m::ew,off=>match Nat.beq k m,dq C.h k,dq C.h m with
  |false,none,some (.rw _ _ _)=>some (off,k,m)
  |_,_,_=>JN C r ew (off+1)
 |_::r,_::ew,off=>JN C r ew (off+1)
 |_,_,_=>none
def De(C:ar):List (Nat × bE)→Option (Nat × Nat × Nat × Nat)
 |[]=>none
 |(id,.dc _ za1)::r=>match dq C.h id with
  |some (.dc _ l)=>match JN C za1 l 0 with
   |some (off,k,m)=>some (id,off,k,m)
   |none=>De C r
  |_=>De C r
 |_::r=>De C r
def QT(m:Nat):Option ab→Bool
 |some (.aP j)=>Nat.beq j m
 |_=>false
def wX(B id off k m:Nat)(C:ar):ar:=
 match dq C.h id,dq C.h m with
 |some (.dc t l),some (.rw jC c x)=>match QT m (l[off]?)&&((Nat.ble B k&&Nat.blt k C.n)&& !(Nat.beq id k))with
  |true=>⟨(C.l.map (ab.kill m)).map (ab.kill k),kI ((k,.rw jC c x)::jc k (jc m C.h)) id (.dc t ((ab.ej k (ab.ej m l)).set off (.aP k))),C.n,C.k,C.g⟩
  |false=>C
 |_,_=>C
def uW(B:Nat)(S C:ar):ar:=
 match De C S.h with
 |some (id,off,k,m)=>wX B id off k m C
 |none=>C
def Df(N:Nat)(S:ar)(o:Oper):Option (Nat × List ab):=
 match o.op with
 | .call c=>match c.callee with
  | .value x=>match S.a6 N x with
   | .fn (.func f) p q=>some (f,p++c.args.toList.map (S.a6 N)++q)
   |_=>none
  |_=>none
 |_=>none
def zF(f:db)(x:ab):List bX→Option Nat
 |[]=>none
 | .d1 j g y::r=>match decide (g=f)&&fD y x with
  |true=>some j
  |false=>zF f x r
 |_::r=>zF f x r
def JO(S:ar)(r:dQ):Option (aZ × Nat):=
 match r.xs,r.ns,r.v with
 |[.f1 f x],[],.bl t k=>match Nat.beq k S.k with
  |true=>match zF f x S.g with
   |some j=>match Nat.blt j S.k with
    |true=>some (t,j)
    |false=>none
   |none=>none
  |false=>none
 |_,_,_=>none
def QU(f:b6)(a b:Int):Option ab:=
 match f with
 | .iZ .add .i64 .i64=>some (.cs (.int .i64 (ba .add .i64 a b)))
 | .iZ .sub .i64 .i64=>some (.cs (.int .i64 (ba .sub .i64 a b)))
 | .iZ .mul .i64 .i64=>some (.cs (.int .i64 (ba .mul .i64 a b)))
 | .oL op .i64=>some (.cs (.bool (y8 op a b)))
 |_=>none
def JP(S:ar)(r:dQ):Option ab:=
 match r.xs,r.ns,r.v with
 |[.f2 f (.cs (.int .i64 a)) (.cs (.int .i64 b))],[],.bl t k=>match Nat.beq k S.k&&jx t f.c with
  |true=>QU f a b
  |false=>none
 |_,_,_=>none
def JQ(o:Oper):Nat:=
 match o.op with
 | .pick _ _ _=>1
 | .alloc _=>2
 | .box _ _=>3
 | .build _ _=>4
 | .buildSlice _ _ _=>5
 | .insert _ _ _ _=>6
 | .load _ _=>7
 | .store _ _ _=>8
 | .nilCheck _=>9
 | .binOp _ _ _ _ _=>10
 | .unOp _ _ _=>11
 | .convert _ _ _=>12
 | .makeInterface _ _=>13
 | .makeFunc _ _ _=>14
 | .makeMap _ _=>15
 | .makeSlice _ _ _=>16
 | .slice _ _ _ _ _=>17
 | .fieldAddr _ _ _=>18
 | .field _ _ _=>19
 | .indexAddr _ _ _=>20
 | .index _ _ _=>21
 | .lookup _ _ _ _=>22
 | .mapUpdate _ _ _ _=>23
 | .call c=>match c.callee with
  | .builtin .append=>30
  | .builtin .len=>31
  | .builtin .copy=>32
  | .builtin _=>33
  | .value _=>34
  |_=>35
 | .range _ _=>40
 | .next _ _=>41
 | .extract _ _=>42
 |_=>50
def exec(P:Program)(N B:Nat)(T:List (Nat × bO))(inl:Nat→List ab→ar→aB)(o:Oper)(S:ar)(k:ar→aB):aB:=
 match pR P N S o with
 |some r=>match gU S.k r.xs&&r.v.lt (S.k+r.xs.length)with
  |true=>match JO S r with
   |some (t,j)=>k (S.put o.dst (.bl t j))
   |none=>match JP S r with
    |some v=>k (S.put o.dst v)
    |none=>emit S.k r.xs r.ns (k ((S.eJ S.k r.xs).put o.dst r.v))
  |false=>.bad 30
 |none=>match Dc P N B T S o with
  |some r=>match gU S.k r.xs&&(r.v.lt (S.k+r.xs.length)&&eI (S.k+r.xs.length) r.h)with
   |true=>emit S.k r.xs r.ns (k ((r.st S o.dst).eJ S.k r.xs))
   |false=>.bad 31
  |none=>match JM N S o with
   |some q=>match q.ok S with
    |true=>emit S.k q.xs [] (.it q.g (k (q.st S o.dst)) (k (q.wW S o.dst)))
    |false=>.bad 33
   |none=>match Df N S o with
    |some (f,as)=>match nb P f with
     |true=>kL N S ((inl f as S).eC (zE S o.dst) none) fun C=>k (uW B S C)
     |false=>.bad 32
    |none=>.bad (100+JQ o)
def Dg(g:ab)(b:Bool)(x y:aB):aB:=
 match b with
 |true=>.it g x y
 |false=>.it g y x
def sG(y:List bX→aB):List (ab × Bool)→aB→List bX→aB
 |[],x,_=>x
 |(g,b)::r,x,l=>Dg g b (sG y r x (.dP g b::l)) (y (.dP g (!b)::l))
def rk(S:ar)(dst:Option Nat)(l:List bX):aB:=.cu .b9 (ar.put {S with g:=l} dst (.tp []))
def jf(P:Program)(N B:Nat)(T:List (Nat × bO))(inl:Nat→List ab→ar→aB)(ops:Array Oper):List Oper→ar→aB
 |[],S=>.cu .b9 S
 |o::r,S=>match guardOf N ops S o with
  | .yes=>exec P N B T inl o S (jf P N B T inl ops r)
  | .no=>jf P N B T inl ops r (S.put o.dst (.tp []))
  | .on gs=>match lR S.k gs with
   |true=>match pR P N {S with g:=gW gs S.g} o with
    |some q=>match gU S.k q.xs&&q.v.lt (S.k+q.xs.length)with
     |true=>emit S.k q.xs (q.ns.map (pV gs)) (jf P N B T inl ops r ((S.eJ S.k q.xs).put o.dst (j9 gs q.v)))
     |false=>.bad 35
    |none=>pT N S o.dst gs (sG (rk S o.dst) gs (exec P N B T inl o {S with g:=gW gs S.g} (.cu .b9)) S.g) (jf P N B T inl ops r)
   |false=>.bad 36
  | .bad=>.bad 37
section
variable {P:Program} {G:a7} {N B:Nat} {M:List a1} {T:List (Nat × bO)} {inl:Nat→List ab→ar→aB}
theorem za2{S:ar}{o:Oper}{t:TypeId}{x:Operand}{r:dx}(an:o.op= .range t x)(h:JL P B S t (S.a6 N x)=some r):oV P G N B M o S r:=fun e hf hx hn=>by
 unfold JL at h
 split at h
 ·rename_i I1 hc
  cases h;simp only[Bool.and_eq_true]at hc
  have sH:aJ G (S.den G N B e) x= .au (.v (.string ((S.a6 N x).aH e .str))):=by rw[bJ hf];exact gJ I1
  have:=Yz (P:=P) (G:=G) (s:=S.den G N B e) t x an (um hc.1) sH (Nat.le_of_ble_eq_true hc.2)
  unfold dx.st;rw[fC];exact this
 ·cases h
theorem za3{S:ar}{o:Oper}{q:pW}{e:Env}(h:JM N S o=some q)(hf:S.cx e)(hx: ∀(j:Nat) (x:bS),q.xs[j]? =some x→Env.at e (S.k+j)=x.den M e):
 (q.g.aH e .bool=true→eh P G o (S.den G N B e) ((ar.put {S with h:=q.h} o.dst q.v).den G N B e))∧(q.g.aH e .bool=false→eh P G o (S.den G N B e) ((S.put o.dst q.bx).den G N B e)):=by
 unfold JM at h
 split at h
 ·rename_i x an
  unfold QS at h
  split at h
  ·rename_i id av
   split at h
   ·rename_i s p ah
    split at h
    ·rename_i aa ad
     cases h
     have sH:aJ G (S.den G N B e) x= .ref id:=by rw[bJ hf,av];rfl
     have hid:aF (S.den G N B e).heap id=some (.b1 (pD (s.aH e .str) (Int.toNat (p.aH e (.int .i64))))):=by
      show aF (cM G e S.h) id=_;rw[eR,ah];rfl
     have x0:=hx 0 _ rfl
     have b2:=hx 1 _ rfl
     have kz:=hx 2 _ rfl
     have QV:=hx 3 _ rfl
     simp only[bS.den,b6.den,Nat.add_zero]at x0 b2 kz QV
     have sA:(ab.bl .bool S.k).aH e .bool=decide (Int.toNat (p.aH e (.int .i64))<ByteArray.size (s.aH e .str)):=by
      simp only[ab.aH,ab.fM,ab.dyn,x0,cT]
     refine⟨fun aG=>?_,fun aG=>?_⟩
     ·rw[sA]at aG
      have:=YB (P:=P) (G:=G) (s:=S.den G N B e) x an sH hid (of_decide_eq_true aG) (c:=(Utf8.decode (s.aH e .str) (Int.toNat (p.aH e (.int .i64)))).1) (k:=(Utf8.decode (s.aH e .str) (Int.toNat (p.aH e (.int .i64)))).2) rfl
      rw[fC]
      have aX:(({S with h:=kI S.h id (.it s (.bl (.int .i64) (S.k+3)))}:ar).den G N B e)={S.den G N B e with heap:=e3 (S.den G N B e).heap id (.b1 (pD (s.aH e .str) (Int.toNat (p.aH e (.int .i64))+(Utf8.decode (s.aH e .str) (Int.toNat (p.aH e (.int .i64)))).2)))}:=by
       simp only[ar.den,uG,bE.den]
       congr 3
       simp only[ab.aH,ab.fM,ab.dyn,QV,cT];rfl
      rw[aX]
      have za4:(ab.tp [.cs (.bool true),.bl (.int .i64) (S.k+1),.bl (.int .i32) (S.k+2)]).den G e= .tuple [.au (.v (.bool true)),.au (.v (.int .i64 ((Int.toNat (p.aH e (.int .i64)):Nat):Int))),.au (.v (.int .i32 (((Utf8.decode (s.aH e .str) (Int.toNat (p.aH e (.int .i64)))).1:Nat):Int)))]:=by
       simp only[ab.den,ab.bR,b2,kz,cT,fQ,lK]
      rw[za4];exact this
     ·rw[sA]at aG
      have:=YA (P:=P) (G:=G) (s:=S.den G N B e) x an sH hid (Nat.le_of_not_lt (of_decide_eq_false aG))
      rw[fC];exact this.step
    ·cases h
   ·cases h
  ·cases h
 ·cases h
theorem QW{S:ar}{o:Oper}{r:dx}(h:Dc P N B T S o=some r):oV P G N B M o S r:=by
 unfold Dc at h
 split at h
 ·exact zar (by assumption) h
 ·exact zas (by assumption) h
 ·exact zau (by assumption) h
 ·split at h
  ·rename_i aL
   cases h;exact zaJ (by assumption) aL
  ·split at h
   ·rename_i aL
    cases h;exact zaH (by assumption) aL
   ·exact zaK (by assumption) h
 ·exact zaM (by assumption) h
 ·exact za2 (by assumption) h
 ·rename_i c an
  split at h
  ·rename_i x y t bw hc hx aG
   split at h
   ·rename_i ae
    have:=Nat.eq_of_beq_eq_true ae
    subst this;obtain⟨callee,args,ts⟩:=c;simp only at hc hx aG;rw[hc,yY hx,yY aG]at an;exact zaP an h
   ·obtain⟨callee,args,ts⟩:=c
    simp only at hc hx aG;rw[hc,yY hx,yY aG]at an;exact zaQ an h
  ·cases h
 ·cases h
theorem sI{g:ab}{a b:aB}{e:Env}{v:Bool}(h:g.aH e .bool=v):run M (.it g a b) e=match v with|true=>run M a e|false=>run M b e:=by
 simp only[run,aB.fold,h]
 cases v<;>rfl
def zG:bT→Exit→Prop
 | .b9,.normal=>True
 | .ext n,.exit m=>n=m
 | .ret,.ret=>True
 |_,_=>False
def jg(G:a7)(N B:Nat)(M:List a1)(t:aB)(e:Env)(aV:Nat):Exit→aN→Prop:=fun ex st=>
 ∃x dm ax,run M t e=some (x,dm,ax)∧zG x ex∧cO st (dm.den G N B ax)∧dm.cw∧dm.cx ax∧bZ aV e ax∧aV≤dm.k
theorem jg.sub{t bw:aB}{e ax:Env}{k br:Nat}{ex:Exit}{st:aN}(h:jg G N B M bw ax br ex st)(af:run M t e=run M bw ax)(aI:bZ k e ax)(aj:k≤br):jg G N B M t e k ex st:=by
 obtain⟨x,dm,aW,aa,ad,aq,aS,bC,cC,dB⟩:=h
 exact⟨x,dm,aW,af.trans aa,ad,aq,aS,bC,bZ.trans aI cC aj,Nat.le_trans aj dB⟩
theorem QX{x:bT}{ex:Exit}(h:zG x ex)(n:Nat):x.bH n=false:=by
 cases x with
 |lh m=>cases ex<;>cases h
 |_=>rfl
def gL(P:Program)(G:a7)(M:List a1)(inl:Nat→List ab→ar→aB):Prop:=
 ∀f as (S:ar) e,S.cw→ab.cD S.k as=true→S.cx e→(inl f as S).safe M e→
  dO P G f (ab.bR G e as) (cM G e S.h) S.n fun r bQ=>∃C ax,run M (inl f as S) e=some (.b9,C,ax)∧r=(C.at 0).den G ax∧bQ=cM G ax C.h∧C.cw∧C.cx ax∧bZ S.k e ax∧S.k≤C.k
theorem za5{e:Env}{k:Nat}{x:bS}(h:Env.at e k=x.den M e): ∀c∈wU k x,c.ok e:=fun c hc=>by
 unfold wU at hc
 split at hc
 ·rw[List.mem_singleton]at hc;subst hc;exact h
 ·rw[List.mem_singleton]at hc;subst hc;exact h
 ·rw[List.mem_singleton]at hc;subst hc;exact h
 ·rw[List.mem_singleton]at hc;subst hc;exact h
 ·rw[List.mem_singleton]at hc;subst hc;exact h
 ·cases hc
theorem za6{k:Nat}{x:bS}(h:x.lt k=true):e5 (k+1) (wU k x)=true:=by
 have ae:Nat.blt k (k+1)=true:=jM (Nat.lt_succ_self k)
 unfold wU
 split
 ·simp only[e5,bX.lt,ae,gp (Nat.le_succ k) (x:=_) h,Bool.and_self]
 ·simp only[e5,bX.lt,ae,gp (Nat.le_succ k) (x:=_) h,Bool.and_self]
 ·simp only[e5,bX.lt,ae,gp (Nat.le_succ k) (x:=_) h,Bool.and_self]
 ·simp only[bS.lt,Bool.and_eq_true]at h
  simp only[e5,bX.lt,ae,gp (Nat.le_succ k) h.1,gp (Nat.le_succ k) h.2,Bool.and_self]
 ·simp only[bS.lt,Bool.and_eq_true]at h
  simp only[e5,bX.lt,ae,gp (Nat.le_succ k) h.1,gp (Nat.le_succ k) h.2,Bool.and_self]
 ·rfl
theorem QY{k:Nat}: ∀{a b:List bX},e5 k a=true→e5 k b=true→e5 k (a++b)=true
 |[],_,_,h=>h
 |c::a,b,h,h'=>by
  simp only[e5,Bool.and_eq_true]at h;simp only[List.cons_append,e5,h.1,QY h.2 h',Bool.and_self]
theorem QZ{e:Env}: ∀{xs:List bS} {k:Nat} {g:List bX},(∀c∈g,c.ok e)→(∀(j:Nat) (x:bS),xs[j]? =some x→Env.at e (k+j)=x.den M e)→∀c∈wV k xs g,c.ok e
 |[],_,_,h,_=>h
 |x::r,k,g,h,hx=>by
  refine QZ (xs:=r) (k:=k+1) (fun c hc=>?_) fun j y az=>?_
  ·rcases List.mem_append.1 hc with hc|hc
   ·exact za5 (hx 0 x (by simp)) c hc
   ·exact h c hc
  ·have:=hx (j+1) y (by simpa using az)
   rw[show k+1+j=k+(j+1)by omega];exact this
theorem Q0: ∀{xs:List bS} {k:Nat} {g:List bX},gU k xs=true→e5 k g=true→e5 (k+xs.length) (wV k xs g)=true
 |[],_,_,_,h=>h
 |x::r,k,g,ao,h=>by
  simp only[gU,Bool.and_eq_true]at ao
  have:=Q0 (xs:=r) (k:=k+1) (g:=wU k x++g) ao.2 (QY (za6 ao.1) (oQ (Nat.le_succ k) h))
  rw[List.length_cons,show k+(r.length+1)=k+1+r.length by omega]
  exact this
theorem rm{S:ar}{e:Env}{xs:List bS}(ae:S.cw)(hf:S.cx e)(ao:gU S.k xs=true):
 (S.eJ S.k xs).cw∧(S.eJ S.k xs).cx (c3 M e S.k xs)∧(S.eJ S.k xs).den G N B (c3 M e S.k xs)=S.den G N B e:=by
 have aI:bZ S.k e (c3 M e S.k xs):=jD (Nat.le_refl _)
 refine⟨⟨fun i x hx=>gp (Nat.le_add_right _ _) (ae.l i x hx),uH (Nat.le_add_right _ _) ae.h,Q0 ao ae.g⟩,QZ (ig aI ae.g hf) (jd ao),?_⟩
 exact(ll aI ae:S.den G N B (c3 M e S.k xs)=S.den G N B e)
theorem ka{S:ar}{dst:Option Nat}{v:ab}(ae:S.cw)(av:v.lt S.k=true):(S.put dst v).cw:=by
 cases dst with
 |none=>exact ae
 |some d=>
  refine⟨fun i x hx=>?_,ae.h,ae.g⟩
  simp only[ar.put,bb.j1]at hx
  split at hx
  ·cases hx;exact av
  ·exact ae.l i x hx
theorem zH{e:Env}{f:db}{x:ab}{j:Nat}: ∀{l:List bX},zF f x l=some j→(∀c∈l,c.ok e)→Env.at e j=⟨f.c,f.den (x.aH e f.a)⟩
 | .d1 i g y::r,h,hc=>by
  simp only[zF]at h
  split at h
  ·rename_i ae
   cases h;simp only[Bool.and_eq_true,decide_eq_true_eq]at ae
   have:=hc (.d1 j g y) (by simp)
   simp only[bX.ok]at this;rw[this,ae.1,fR ae.2]
  ·exact zH h fun c hm=>hc c (by simp[hm])
 | .d2 _ _ _ _::r,h,hc=>zH (l:=r) h fun c hm=>hc c (by simp[hm])
 | .rg _ _::r,h,hc=>zH (l:=r) h fun c hm=>hc c (by simp[hm])
 | .dP _ _::r,h,hc=>zH (l:=r) h fun c hm=>hc c (by simp[hm])
theorem za7{S:ar}{r:dQ}{t:aZ}{j:Nat}{e:Env}(h:JO S r=some (t,j))(hf:S.cx e)(ao:gU S.k r.xs=true):(ab.bl t j).den G e=r.v.den G (c3 M e S.k r.xs)∧Nat.blt j S.k=true∧r.ns=[]:=by
 unfold JO at h
 split at h
 ·rename_i f x bw k hx hn av
  split at h
  ·rename_i aj
   split at h
   ·rename_i zdS ai
    split at h
    ·rename_i bB
     cases h;refine⟨?_,bB,hn⟩
     have aa:=zH ai hf
     have ad:=jd (M:=M) (e:=e) ao 0 (.f1 f x) (by rw[hx];rfl)
     rw[Nat.add_zero]at ad;rw[av,Nat.eq_of_beq_eq_true aj];simp only[ab.den];rw[aa,ad]
     have za8:x.lt S.k=true:=by
      rw[hx]at ao;simp only[gU,bS.lt,Bool.and_eq_true]at ao;exact ao.1
     simp only[bS.den];rw[ft (jD (Nat.le_refl _)) za8]
    ·cases h
   ·cases h
  ·cases h
 ·cases h
theorem za9{S:ar}{r:dQ}{v:ab}{e:Env}(h:JP S r=some v)(ao:gU S.k r.xs=true):v.den G e=r.v.den G (c3 M e S.k r.xs)∧v.lt S.k=true∧r.ns=[]:=by
 unfold JP at h
 split at h
 ·rename_i f a b t k hx hn av
  split at h
  ·rename_i aj
   simp only[Bool.and_eq_true]at aj
   have ad:=jd (M:=M) (e:=e) ao 0 _ (by rw[hx];rfl)
   rw[Nat.add_zero]at ad;rw[av,Nat.eq_of_beq_eq_true aj.1,iB aj.2];unfold QU at h
   split at h<;>first|cases h|skip
   all_goals
    refine⟨?_,rfl,hn⟩
    simp only[ab.den,ad,bS.den,cT,ab.aH,ab.fM,ab.dyn,b6.den];rfl
  ·cases h
 ·cases h
theorem kb{S:ar}{dst:Option Nat}{v:ab}{e:Env}(hf:S.cx e):(S.put dst v).cx e:=by
 cases dst<;>exact hf
theorem kc{S:ar}{dst:Option Nat}{v:ab}:(S.put dst v).k=S.k:=by cases dst<;>rfl
end
end Go.aM
namespace Go.aM
open Go
section
variable {P:Program} {G:a7} {N B:Nat} {M:List a1} {T:List (Nat × bO)} {inl:Nat→List ab→ar→aB}
theorem cp.zba{ops:Array Oper}{o:Oper}{rest:List Oper}{s:aN}{Q:Exit→aN→Prop}{A:aN→Prop}(ah:dX ops s o=some true)
 (h: ∀(E:Entry) (a:Act) (w:World),Rel E G s a w→∀(K:Act→World→Prop) (Q:Exit→Act→World→Prop),(∀t,A t→∀aY w',Rel E G t aY w'→K aY w')→o.wp P a w K Q)(k: ∀t,A t→cp P G ops Q rest t):cp P G ops Q (o::rest) s:=
 fun E a w af=>wpList_step fun _ hK=>by
  have az:=nS af ah
  simp only[az,if_true];exact h E a w af _ _ fun t aG aY w' dW=>hK aY w' (k t aG E aY w' dW)
mutual
theorem Dh{n:Nat}{e:Env}: ∀{x:ab},ab.rj n x=true→gk n (x.den G e)=true:=fun {x} h=>by
 cases x with
 |cF l=>simp only[ab.den,gk];exact wY (l:=l) h
 |tp l=>simp only[ab.den,gk];exact wY (l:=l) h
 |fn f a b=>
  simp only[ab.rj,Bool.and_eq_true]at h;simp only[ab.den,gk,wY h.1,wY h.2,Bool.and_self]
 |dD k o=>simp only[ab.den,gk];exact decide_eq_true (e2 h)
 |gy k x o=>simp only[ab.den,gk];exact decide_eq_true (e2 (i:=k) h)
 |gF k o x n=>simp only[ab.den,gk];exact decide_eq_true (e2 (i:=k) h)
 |cz k n=>simp only[ab.den,gk];exact decide_eq_true (e2 (i:=k) h)
 |e4 g i o=>
  cases i with
  |none=>simp only[ab.den];cases g.aH e .bool<;>rfl
  |some k=>
   have aa:decide (k<n)=true:=decide_eq_true (e2 (i:=k) h)
   simp only[ab.den];cases g.aH e .bool
   ·rfl
   ·exact aa
 |aP k=>simp only[ab.den,gk];exact decide_eq_true (e2 h)
 |iX k=>simp only[ab.den,gk];exact decide_eq_true (e2 h)
 |fr g b x=>
  have:gk n (x.den G e)=true:=Dh h
  simp only[ab.den]
  cases g.aH e .bool<;>cases b<;>first|exact this|rfl
 |lM g o=>simp only[ab.den];cases G g<;>rfl
 |_=>rfl
theorem wY{n:Nat}{e:Env}: ∀{l:List ab},ab.sF n l=true→k7 n (ab.bR G e l)=true:=fun {l} h=>by
 match l with
 |[]=>rfl
 |x::r=>
  simp only[ab.sF,Bool.and_eq_true]at h;simp only[ab.bR,k7,Dh h.1,wY h.2,Bool.and_self]
end
theorem wZ{n:Nat}{e:Env}: ∀{h:List (Nat × bE)},n1 n h=true→k8 n (cM G e h)=true
 |[],_=>rfl
 |(id,.dc t l)::r,h=>by
  simp only[n1,Bool.and_eq_true]at h;simp only[cM,bE.den,k8,wZ h.2.2,wY h.2.1,decide_eq_true (e2 h.1),Bool.and_self]
 |(id,.rw t c x)::r,h=>by
  simp only[n1,Bool.and_eq_true]at h;simp only[cM,bE.den,k8,wZ h.2,decide_eq_true (e2 h.1),Bool.and_self]
 |(id,.it x p)::r,h=>by
  simp only[n1,Bool.and_eq_true]at h;simp only[cM,bE.den,k8,wZ h.2,decide_eq_true (e2 h.1),Bool.and_self]
theorem Q1: ∀{h:List (Nat × bE)} {id:Nat} {o:bE},dq h id=some o→(id,o)∈h
 |(i,p)::r,id,o,h=>by
  simp only[dq]at h
  split at h
  ·rename_i ae
   cases h;rw[Nat.eq_of_beq_eq_true ae];simp
  ·exact List.mem_cons_of_mem _ (Q1 h)
theorem zbb{n:Nat}{aU:List (Nat × bE)}{e ax:Env}: ∀{h:List (Nat × bE)},zD n aU h=true→∀id o,id<n→aF (cM G ax h) id=some o→∃cm,aF (cM G e aU) id=some cm∧CP cm o:=by
 have key: ∀{h:List (Nat × bE)},zD n aU h=true→∀id oY,(id,oY)∈h→id<n→∃cm,dq aU id=some cm∧bE.kind cm oY=true:=by
  intro h
  induction h with
  |nil=>intro _ _ _ hm;cases hm
  |cons p r aR=>
   obtain⟨j,q⟩:=p;intro aj id oY hm bB;simp only[zD,Bool.and_eq_true]at aj
   rcases List.mem_cons.1 hm with he|he
   ·cases he
    have aa:=aj.1
    rw[jM bB]at aa;simp only at aa
    split at aa
    ·rename_i cm an;exact⟨cm,an,aa⟩
    ·cases aa
   ·exact aR aj.2 id oY he bB
 intro h aj id o bB ah
 rw[eR]at ah
 cases ag:dq h id with
 |none=>rw[ag]at ah;cases ah
 |some oY=>
  rw[ag]at ah;cases ah;obtain⟨cm,aa,ad⟩:=key aj id oY (Q1 ag) bB;refine⟨cm.den G e,by rw[eR,aa];rfl,?_⟩
  cases cm<;>cases oY<;>first|trivial|(cases ad;done)|exact Nat.eq_of_beq_eq_true ad
mutual
theorem zI(id:Nat){k:Nat}: ∀{x:ab},x.lt k=true→(x.kill id).lt k=true:=fun {x} h=>by
 cases x with
 |cF l=>exact sJ id (l:=l) h
 |tp l=>exact sJ id (l:=l) h
 |fn f a b=>
  simp only[ab.lt,Bool.and_eq_true]at h;simp only[ab.kill,ab.lt,Bool.and_eq_true];exact⟨sJ id h.1,sJ id h.2⟩
 |fr g b x=>
  simp only[ab.lt,Bool.and_eq_true]at h;simp only[ab.kill,ab.lt,Bool.and_eq_true];exact⟨h.1,zI id h.2⟩
 |dD j o=>simp only[ab.kill];split<;>first|rfl|exact h
 |gy j x o=>simp only[ab.kill];split<;>first|rfl|exact h
 |gF j o x n=>simp only[ab.kill];split<;>first|rfl|exact h
 |cz j n=>simp only[ab.kill];split<;>rfl
 |e4 g i o=>
  cases i with
  |none=>exact h
  |some j=>simp only[ab.kill];split<;>exact h
 |aP j=>simp only[ab.kill];split<;>first|rfl|exact h
 |iX j=>simp only[ab.kill];split<;>first|rfl|exact h
 |_=>exact h
theorem sJ(id:Nat){k:Nat}: ∀{l:List ab},ab.cD k l=true→ab.cD k (ab.ej id l)=true:=fun {l} h=>by
 match l with
 |[]=>rfl
 |x::r=>
  simp only[ab.cD,Bool.and_eq_true]at h;simp only[ab.ej,ab.cD,Bool.and_eq_true];exact⟨zI id h.1,sJ id h.2⟩
end
theorem Q2{S:ar}{o:Oper}{r:dx}{e:Env}(ae:S.cw)(hf:S.cx e)(ao:gU S.k r.xs=true)(av:r.v.lt (S.k+r.xs.length)=true)(aX:eI (S.k+r.xs.length) r.h=true):
 ((r.st S o.dst).eJ S.k r.xs).cw∧((r.st S o.dst).eJ S.k r.xs).cx (c3 M e S.k r.xs):=by
 obtain⟨bD,a2,_⟩:=rm (M:=M) (G:=fun _=>none) (N:=0) (B:=0) ae hf ao
 have ah:(r.st S o.dst).g=S.g:=by unfold dx.st;cases o.dst<;>rfl
 refine⟨⟨fun i x hx=>?_,?_,?_⟩,?_⟩
 ·have hx:(r.st S o.dst).l.get i=some x:=hx
  show x.lt (S.k+r.xs.length)=true
  have base: ∀x,(r.l S.l).get i=some x→x.lt (S.k+r.xs.length)=true:=fun x hx=>by
   unfold dx.l at hx
   split at hx
   ·exact gp (Nat.le_add_right _ _) (ae.l i x hx)
   ·rw[bb.get_map]at hx
    cases aL:S.l.get i with
    |none=>rw[aL]at hx;cases hx
    |some y=>
     rw[aL]at hx;cases hx;exact zI _ (gp (Nat.le_add_right _ _) (ae.l i y aL))
  unfold dx.st at hx
  cases hd:o.dst with
  |none=>rw[hd]at hx;exact base x hx
  |some d=>
   rw[hd]at hx;simp only[ar.put,bb.j1]at hx
   split at hx
   ·cases hx;exact av
   ·exact base x hx
 ·have:((r.st S o.dst).eJ S.k r.xs).h=r.h:=by unfold dx.st ar.eJ;cases o.dst<;>rfl
  rw[this];exact aX
 ·show e5 (S.k+r.xs.length) (wV S.k r.xs (r.st S o.dst).g)=true
  rw[ah];exact bD.g
 ·show ∀c∈wV S.k r.xs (r.st S o.dst).g,_
  rw[ah];exact a2
theorem zJ{k:Nat}: ∀{a b:List ab},ab.cD k a=true→ab.cD k b=true→ab.cD k (a++b)=true
 |[],_,_,h=>h
 |x::a,b,h,h'=>by
  simp only[ab.cD,Bool.and_eq_true]at h;simp only[List.cons_append,ab.cD,h.1,zJ h.2 h',Bool.and_self]
theorem JR{k:Nat}{x:ab}(hx:x.lt k=true): ∀{l:List ab} {i:Nat},ab.cD k l=true→ab.cD k (l.set i x)=true
 |[],_,h=>h
 |y::l,0,h=>by simp only[ab.cD,Bool.and_eq_true,List.set]at h⊢;exact⟨hx,h.2⟩
 |y::l,i+1,h=>by simp only[ab.cD,Bool.and_eq_true,List.set]at h⊢;exact⟨h.1,JR hx h.2⟩
theorem Di{k:Nat}{o:bE}(an:o.lt k=true): ∀{l:List (Nat × bE)} {i:Nat},eI k l=true→eI k (kI l i o)=true
 |[],_,_=>by simp only[kI,eI,an,Bool.and_self]
 |(j,x)::l,i,h=>by
  simp only[eI,Bool.and_eq_true]at h;simp only[kI]
  split
  ·simp only[eI,Bool.and_eq_true];exact⟨an,h.2⟩
  ·simp only[eI,Bool.and_eq_true];exact⟨h.1,Di an h.2⟩
theorem Dj{k id:Nat}{o:bE}: ∀{l:List (Nat × bE)},eI k l=true→dq l id=some o→o.lt k=true
 |[],_,h=>by cases h
 |(j,x)::l,ao,h=>by
  simp only[eI,Bool.and_eq_true]at ao;simp only[dq]at h
  split at h
  ·cases h;exact ao.1
  ·exact Dj ao.2 h
theorem JS{e:Env}{x:ab}: ∀{l:List ab} {i:Nat},ab.bR G e (l.set i x)=(ab.bR G e l).set i (x.den G e)
 |[],_=>rfl
 |y::l,0=>rfl
 |y::l,i+1=>by simp only[List.set,ab.bR,JS (l:=l)]
theorem sK(id:Nat){k:Nat}: ∀{h:List (Nat × bE)},eI k h=true→eI k (jc id h)=true
 |[],h=>h
 |(j,.dc t l)::r,h=>by
  simp only[eI,Bool.and_eq_true]at h;unfold jc
  split
  ·exact sK id h.2
  ·simp only[eI,Bool.and_eq_true]
   exact⟨sJ id h.1,sK id h.2⟩
 |(j,.rw t c x)::r,h=>by
  simp only[eI,Bool.and_eq_true]at h;unfold jc
  split
  ·exact sK id h.2
  ·simp only[eI,Bool.and_eq_true]
   exact⟨h.1,sK id h.2⟩
 |(j,.it x p)::r,h=>by
  simp only[eI,Bool.and_eq_true]at h;unfold jc
  split
  ·exact sK id h.2
  ·simp only[eI,Bool.and_eq_true]
   exact⟨h.1,sK id h.2⟩
theorem zbc{id off k m:Nat}{C:ar}{e:Env}(ae:C.cw)(hf:C.cx e):(wX B id off k m C).cw∧(wX B id off k m C).cx e∧(wX B id off k m C).k=C.k∧cO (C.den G N B e) ((wX B id off k m C).den G N B e):=by
 unfold wX
 split
 ·rename_i t l jC c x ah hm
  split
  ·rename_i hc
   simp only[Bool.and_eq_true,Bool.not_eq_true']at hc;obtain⟨aw,⟨ey,gT⟩,lp⟩:=hc;refine⟨⟨fun i y az=>?_,Di (o:=.dc t _) (JR (x:=.aP k) rfl (sJ _ (sJ _ (Dj (o:=.dc t l) ae.h ah)))) ?_,ae.g⟩,hf,rfl,?_⟩
   ·simp only[bb.get_map]at az
    cases aL:C.l.get i with
    |none=>rw[aL]at az;cases az
    |some z=>
     rw[aL]at az;simp only[Option.map_some,Option.some.injEq]at az;subst az;exact zI _ (zI _ (ae.l i z aL))
   ·have aa:=Dj (o:=.rw jC c x) ae.h hm
    have ad:=sK k (sK m ae.h)
    simp only[eI,Bool.and_eq_true];exact⟨aa,ad⟩
   ·refine cO.zaC id off m k jC (c8 c) (t:=t) (cs:=ab.bR G e l) (es:=List.map (cZ c) (x.aH e (.li c))) (by simp only[ar.den,eR,ah,Option.map_some,bE.den]) (by simp only[ar.den,eR,hm,Option.map_some,bE.den]) ?_ (Nat.le_of_ble_eq_true ey) (e2 gT) (Nat.ne_of_beq_eq_false lp) ?_
    ·rw[eG,List.getElem?_map]
     unfold QT at aw
     split at aw
     ·rename_i ao
      rw[ao]
      have:=Nat.eq_of_beq_eq_true aw
      subst this;rfl
     ·cases aw
    ·simp only[ar.den,zx,uG,cM,bE.den,sB,JS,uR,ab.den]
  ·exact⟨ae,hf,rfl,cO.refl _⟩
 ·exact⟨ae,hf,rfl,cO.refl _⟩
theorem zbd{S C:ar}{e:Env}(ae:C.cw)(hf:C.cx e):(uW B S C).cw∧(uW B S C).cx e∧(uW B S C).k=C.k∧cO (C.den G N B e) ((uW B S C).den G N B e):=by
 unfold uW
 split
 ·exact zbc ae hf
 ·exact⟨ae,hf,rfl,cO.refl _⟩
theorem Q3(cd:gL P G M inl){ops:Array Oper}{o:Oper}{r:List Oper}{S:ar}{k:ar→aB}{e:Env}{Q:Exit→aN→Prop}(ae:S.cw)(hf:S.cx e)(hw:dX ops (S.den G N B e) o=some true)(ag:(exec P N B T inl o S k).safe M e)
 (aj: ∀dm ax,dm.cw→dm.cx ax→bZ S.k e ax→S.k≤dm.k→(k dm).safe M ax→run M (exec P N B T inl o S k) e=run M (k dm) ax→cp P G ops Q r (dm.den G N B ax)):cp P G ops Q (o::r) (S.den G N B e):=by
 have ih:=ag
 unfold exec at ih
 split at ih
 ·rename_i q av
  split at ih
  ·rename_i hc
   split at ih
   ·rename_i t j zK
    have gV:exec P N B T inl o S k=k (S.put o.dst (.bl t j)):=by unfold exec;rw[av];simp only[hc,zK]
    simp only[Bool.and_eq_true]at hc;obtain⟨cq,cy,im⟩:=za7 (M:=M) (G:=G) zK hf hc.1
    have bG:bZ S.k e (c3 M e S.k q.xs):=jD (Nat.le_refl _)
    have dN:=uP (G:=G) (B:=B) (M:=M) av (c3 M e S.k q.xs) (ig bG ae.g hf) (jd hc.1) (by rw[im];intro n hn;cases hn)
    rw[ll bG ae,←cq]at dN
    have o0:(S.den G N B e).put o.dst ((ab.bl t j).den G e)=(S.put o.dst (.bl t j)).den G N B e:=by rw[fC]
    refine cp.step hw (o0 ▸ dN.step) ?_
    exact aj _ e (ka ae cy) (kb hf) (bZ.refl _ _) (by rw[kc];exact Nat.le_refl _) ih (by rw[gV])
   rename_i zK
   split at ih
   ·rename_i v wK
    have gV:exec P N B T inl o S k=k (S.put o.dst v):=by unfold exec;rw[av];simp only[hc,zK,wK]
    simp only[Bool.and_eq_true]at hc;obtain⟨cq,cy,im⟩:=za9 (M:=M) (G:=G) (e:=e) wK hc.1
    have bG:bZ S.k e (c3 M e S.k q.xs):=jD (Nat.le_refl _)
    have dN:=uP (G:=G) (B:=B) (M:=M) av (c3 M e S.k q.xs) (ig bG ae.g hf) (jd hc.1) (by rw[im];intro n hn;cases hn)
    rw[ll bG ae,←cq]at dN
    have o0:(S.den G N B e).put o.dst (v.den G e)=(S.put o.dst v).den G N B e:=by rw[fC]
    refine cp.step hw (o0 ▸ dN.step) ?_
    exact aj _ e (ka ae cy) (kb hf) (bZ.refl _ _) (by rw[kc];exact Nat.le_refl _) ih (by rw[gV])
   rename_i wK
   have gV:exec P N B T inl o S k=emit S.k q.xs q.ns (k ((S.eJ S.k q.xs).put o.dst q.v)):=by unfold exec;rw[av];simp only[hc,zK,wK]
   simp only[Bool.and_eq_true]at hc;obtain⟨fE,e0⟩:=mr ih;obtain⟨bD,a2,a3⟩:=rm (M:=M) (G:=G) (N:=N) (B:=B) ae hf hc.1
   have bG:bZ S.k e (c3 M e S.k q.xs):=jD (Nat.le_refl _)
   have dN:=uP (G:=G) (B:=B) (M:=M) av (c3 M e S.k q.xs) (ig bG ae.g hf) (jd hc.1) fE
   rw[ll bG ae]at dN
   have o0:(S.den G N B e).put o.dst (q.v.den G (c3 M e S.k q.xs))=((S.eJ S.k q.xs).put o.dst q.v).den G N B (c3 M e S.k q.xs):=by rw[fC,a3]
   refine cp.step hw (o0 ▸ dN.step) ?_
   exact aj _ _ (ka bD hc.2) (kb a2) bG (by rw[kc];exact Nat.le_add_right _ _) e0 (by rw[gV,lQ])
  ·exact ih.elim
 ·rename_i av
  split at ih
  ·rename_i q aL
   split at ih
   ·rename_i hc
    have gV:exec P N B T inl o S k=emit S.k q.xs q.ns (k ((q.st S o.dst).eJ S.k q.xs)):=by unfold exec;rw[av,aL];simp only[hc]
    simp only[Bool.and_eq_true]at hc;obtain⟨fE,e0⟩:=mr ih
    have bG:bZ S.k e (c3 M e S.k q.xs):=jD (Nat.le_refl _)
    have dN:=QW (G:=G) (M:=M) aL (c3 M e S.k q.xs) (ig bG ae.g hf) (jd hc.1) fE
    rw[ll bG ae]at dN;obtain⟨cq,cy⟩:=Q2 (M:=M) (o:=o) ae hf hc.1 hc.2.1 hc.2.2;refine cp.step hw dN ?_
    have Dk:S.k≤((q.st S o.dst).eJ S.k q.xs).k:=Nat.le_add_right _ _
    exact aj ((q.st S o.dst).eJ S.k q.xs) _ cq cy bG Dk e0 (by rw[gV,lQ])
   ·exact ih.elim
  ·rename_i aL
   split at ih
   ·rename_i q py
    split at ih
    ·rename_i hc
     have gV:exec P N B T inl o S k=emit S.k q.xs [] (.it q.g (k (q.st S o.dst)) (k (q.wW S o.dst))):=by unfold exec;rw[av,aL,py];simp only[hc]
     simp only[pW.ok,Bool.and_eq_true]at hc;obtain⟨_,e0⟩:=mr ih
     have bG:bZ S.k e (c3 M e S.k q.xs):=jD (Nat.le_refl _)
     obtain⟨bD,a2,a3⟩:=rm (M:=M) (G:=G) (N:=N) (B:=B) ae hf hc.1.1;obtain⟨cq,cy⟩:=za3 (P:=P) (G:=G) (B:=B) py (ig bG ae.g hf) (jd hc.1.1);rw[ll bG ae]at cq cy
     have Dk: ∀b,Nat.ble S.k (S.k+b)=true:=fun b=>Nat.ble_eq_true_of_le (Nat.le_add_right _ _)
     have cU:run M (exec P N B T inl o S k) e=run M (.it q.g (k (q.st S o.dst)) (k (q.wW S o.dst))) (c3 M e S.k q.xs):=by rw[gV,lQ]
     have dP: ∀b,q.g.aH (c3 M e S.k q.xs) .bool=b→∀c∈(bX.dP q.g b::(S.eJ S.k q.xs).g),c.ok (c3 M e S.k q.xs):=fun b ah c hm=>by
      rcases List.mem_cons.1 hm with rfl|hm
      ·exact ah
      ·exact a2 c hm
     cases ah:q.g.aH (c3 M e S.k q.xs) .bool with
     |true=>
      refine cp.step hw (cq ah) ?_
      have pX:(q.st S o.dst).cw:=QP (ka (S:={S.eJ S.k q.xs with h:=q.h,g:=.dP q.g true::(S.eJ S.k q.xs).g}) ⟨bD.l,hc.2.1,by simp only[e5,bX.lt,Bool.and_eq_true];exact⟨hc.1.2,bD.g⟩⟩ hc.2.2.1)
      have eS:(q.st S o.dst).cx (c3 M e S.k q.xs):=QQ (kb (S:={S.eJ S.k q.xs with h:=q.h,g:=.dP q.g true::(S.eJ S.k q.xs).g}) (dP true ah))
      have hd:(ar.put {S with h:=q.h} o.dst q.v).den G N B (c3 M e S.k q.xs)=(q.st S o.dst).den G N B (c3 M e S.k q.xs):=by cases o.dst<;>rfl
      rw[hd];exact aj _ _ pX eS bG (by show S.k≤(ar.put _ _ _).k;rw[kc];exact Nat.le_add_right _ _) (e0.1 ah) (by rw[cU,sI ah])
     |false=>
      refine cp.step hw (cy ah) ?_
      have pX:(q.wW S o.dst).cw:=QP (ka (S:={S.eJ S.k q.xs with g:=.dP q.g false::(S.eJ S.k q.xs).g}) ⟨bD.l,bD.h,by simp only[e5,bX.lt,Bool.and_eq_true];exact⟨hc.1.2,bD.g⟩⟩ hc.2.2.2)
      have eS:(q.wW S o.dst).cx (c3 M e S.k q.xs):=QQ (kb (S:={S.eJ S.k q.xs with g:=.dP q.g false::(S.eJ S.k q.xs).g}) (dP false ah))
      have hd:(S.put o.dst q.bx).den G N B (c3 M e S.k q.xs)=(q.wW S o.dst).den G N B (c3 M e S.k q.xs):=by cases o.dst<;>rfl
      rw[hd];exact aj _ _ pX eS bG (by show S.k≤(ar.put _ _ _).k;rw[kc];exact Nat.le_add_right _ _) (e0.2 ah) (by rw[cU,sI ah])
    ·exact ih.elim
   rename_i py
   split at ih
   ·rename_i f as iA
    split at ih
    ·rename_i gl
     have gV:exec P N B T inl o S k=kL N S ((inl f as S).eC (zE S o.dst) none) fun C=>k (uW B S C):=by unfold exec;rw[av,aL,py,iA];simp only[gl]
     obtain⟨t1,_,t3⟩:=Da (G:=G) (B:=B) ae hf ih;obtain⟨g1,g2,g3⟩:=jz (inl f as S) none t1;unfold Df at iA
     split at iA
     ·rename_i c wD
      split at iA
      ·rename_i x hx
       split at iA
       ·rename_i zbe p gB uM
        cases iA;obtain⟨callee,args,ts⟩:=c;simp only at hx;subst hx
        have bB:ab.cD S.k (p++args.toList.map (S.a6 N)++gB)=true:=by
         have fZ:=zf (N:=N) ae x
         rw[uM]at fZ;simp only[ab.lt,Bool.and_eq_true]at fZ;refine zJ (zJ fZ.1 ?_) fZ.2
         generalize args.toList=l
         induction l with
         |nil=>rfl
         |cons y r aR=>simp only[List.map_cons,ab.cD,zf ae y,aR,Bool.and_self]
        have gR:=cd f _ S e ae bB hf g1
        have o0:ab.bR G e (p++args.toList.map (S.a6 N)++gB)=ab.bR G e p++args.toList.map (aJ G (S.den G N B e))++ab.bR G e gB:=by
         rw[eG,eG,eG,List.map_append,List.map_append,List.map_map]
         congr 2
         exact List.map_congr_left fun y _=>(bJ hf y).symm
        rw[o0]at gR
        refine cp.zba (A:=fun t=>∃C ax,run M (inl f (p++args.toList.map (S.a6 N)++gB) S) e=some (.b9,C,ax)∧C.cw∧C.cx ax∧bZ S.k e ax∧S.k≤C.k∧Dd S C=true∧t=(S.back o.dst C).den G N B ax) hw
         (zan wD (by rw[bJ hf,uM];rfl) gl gR fun r bQ ⟨C,ax,aw,ey,gT,lp,rn,pY,n2⟩=>?_) fun t ⟨C,ax,aw,lp,rn,pY,n2,bc,aG⟩=>?_
        ·have ah:=(g3 C ax aw).1
         have bc:Dd S C=true:=by
          unfold zE at ah
          split at ah
          ·assumption
          ·exact ah.elim
         have ee:=bc
         simp only[Dd,Bool.and_eq_true]at ee;refine⟨C.n,Nat.le_of_ble_eq_true ee.2.1,?_,?_,?_,C,ax,aw,lp,rn,pY,n2,bc,?_⟩
         ·rw[ey];exact Dh ee.1.1
         ·rw[gT];exact wZ ee.1.2
         ·rw[gT];exact zbb ee.2.2
         ·rw[ey,gT,ar.back,fC]
          have:=ll (G:=G) (N:=N) (B:=B) pY ae
          have vM:j4 G ax S.l 0 N=j4 G e S.l 0 N:=congrArg aN.cE this
          simp only[ar.den,vM]
        ·subst aG
         have ah:=(g3 C ax aw)
         have cU:run M ((inl f (p++args.toList.map (S.a6 N)++gB) S).eC (zE S o.dst) none) e=some (.b9,S.back o.dst C,ax):=by
          rw[g2,aw];simp only[ie,zE,bc];rfl
         have pX:(S.back o.dst C).cw:=by
          unfold ar.back;refine ka ⟨fun i x hx=>gp n2 (ae.l i x hx),lp.h,lp.g⟩ ?_
          show(C.at 0).lt C.k=true;unfold ar.at
          cases h4:C.l.get 0 with
          |none=>rfl
          |some y=>exact lp.l 0 y h4
         obtain⟨dS,aW,s1,s2,hh,ko,kp,kq,kV⟩:=t3 _ _ cU pX (kb rn) pY (by unfold ar.back;rw[kc];exact n2)
         obtain⟨fE,e0,BK,zbf⟩:=zbd (G:=G) (N:=N) (B:=B) (S:=S) s2 hh;exact cp.le (cO.trans s1 zbf) (aj _ aW fE e0 ko (by rw[BK];exact kp) kq (by rw[gV,kV]))
       ·cases iA
      ·cases iA
     ·cases iA
    ·exact ih.elim
   ·exact ih.elim
def Q4(G:a7)(N B:Nat)(ops:Array Oper)(o:Oper)(S:ar)(e:Env):Db→Prop
 | .yes=>dX ops (S.den G N B e) o=some true
 | .no=>dX ops (S.den G N B e) o=some false
 | .on gs=>(fx e gs=true→dX ops (S.den G N B e) o=some true)∧(fx e gs=false→dX ops (S.den G N B e) o=some false)
 | .bad=>True
def pZ(b:Bool):aE→Option Bool
 | .au (.v (.bool c))=>some (c==b)
 | .tuple _=>some false
 |_=>none
def Dl(G:a7)(b:Bool)(e:Env)(v:ab):Db→Prop
 | .yes=>pZ b (v.den G e)=some true
 | .no=>pZ b (v.den G e)=some false
 | .on gs=>(fx e gs=true→pZ b (v.den G e)=some true)∧(fx e gs=false→pZ b (v.den G e)=some false)
 | .bad=>True
theorem Q5{a b:Bool}(h:a=b):(a==b)=true:=by cases a<;>cases b<;>first|rfl|cases h
theorem Q6{a b:Bool}(h: ¬a=b):(a==b)=false:=by cases a<;>cases b<;>first|rfl|exact absurd rfl h
theorem lS{l:List bX}{b:Bool}{e:Env}(hf: ∀c∈l,c.ok e)(g:ab):Dl G b e g (match g.rt,lj g l with
 |some .bool,some c=>match decide (c=b)with
  |true=>.yes
  |false=>.no
 |some .bool,none=>.on [(g,b)]
 |_,_=>.bad):=by
 split
 ·rename_i c aa ad
  have aj:=pN ad hf
  have hd:=gJ (G:=G) (e:=e) aa
  rw[aj]at hd
  cases gl:decide (c=b)with
  |true=>show pZ b (g.den G e)=some true;rw[hd];exact congrArg some (Q5 (of_decide_eq_true gl))
  |false=>show pZ b (g.den G e)=some false;rw[hd];exact congrArg some (Q6 (of_decide_eq_false gl))
 ·rename_i aa ad
  have hd:=gJ (G:=G) (e:=e) aa
  simp only[Dl,fx,Bool.and_true];rw[hd];exact⟨fun h=>congrArg some h,fun h=>congrArg some h⟩
 ·trivial
theorem w0{h:ab}{c:Bool}{v:ab}{e:Env}(hc:h.aH e .bool=c):(ab.fr h c v).den G e=v.den G e:=by
 simp only[ab.den,hc];cases c<;>rfl
theorem Q7{h:ab}{c:Bool}{v:ab}{e:Env}(hc:h.aH e .bool= !c):(ab.fr h c v).den G e= .tuple []:=by
 simp only[ab.den,hc];cases c<;>rfl
theorem Q8{l:List bX}{b:Bool}{e:Env}(hf: ∀c∈l,c.ok e): ∀v:ab,Dl G b e v (uV l b v)
 | .fr h c v=>by
  have aR:=Q8 (b:=b) hf v
  have JT:h.aH e .bool≠c→pZ b ((ab.fr h c v).den G e)=some false:=fun hn=>by
   rw[Q7 (by cases aX:h.aH e .bool<;>cases c<;>first|rfl|exact absurd aX hn)]
   rfl
  simp only[uV]
  split
  ·cases ah:uV l b v with
   |yes=>
    rw[ah]at aR;refine⟨fun aI=>?_,fun aI=>?_⟩
    ·simp only[fx,Bool.and_true,beq_iff_eq]at aI
     rw[w0 aI];exact aR
    ·simp only[fx,Bool.and_true,beq_eq_false_iff_ne]at aI
     exact JT aI
   |no=>
    rw[ah]at aR;show pZ b _=some false
    by_cases aX:h.aH e .bool=c
    ·rw[w0 aX];exact aR
    ·exact JT aX
   |on gs=>
    rw[ah]at aR;refine⟨fun aI=>?_,fun aI=>?_⟩
    ·simp only[fx,Bool.and_eq_true,beq_iff_eq]at aI
     rw[w0 aI.1];exact aR.1 aI.2
    ·by_cases aX:h.aH e .bool=c
     ·rw[w0 aX]
      refine aR.2 ?_
      simp only[fx,aX,beq_self_eq_true,Bool.true_and]at aI;exact aI
     ·exact JT aX
   |bad=>trivial
  ·trivial
 | .cs x=>by
  unfold uV
  split
  ·rename_i c heq
   cases heq
   cases gl:decide (c=b)with
   |true=>exact congrArg some (Q5 (of_decide_eq_true gl))
   |false=>exact congrArg some (Q6 (of_decide_eq_false gl))
  ·rename_i heq;cases heq
  ·rename_i heq;cases heq
  ·exact lS hf _
 | .tp l=>rfl
 | .bl r i=>lS hf (.bl r i)
 | .fd c i k r=>lS hf (.fd c i k r)
 | .ip c i k=>lS hf (.ip c i k)
 | .cF l=>lS hf (.cF l)
 | .dD i o=>lS hf (.dD i o)
 | .gy i x o=>lS hf (.gy i x o)
 | .aP i=>lS hf (.aP i)
 | .fn f a b=>lS hf (.fn f a b)
 | .iX i=>lS hf (.iX i)
 | .lM g o=>lS hf (.lM g o)
 | .gF i o x n=>lS hf (.gF i o x n)
 | .cz i n=>lS hf (.cz i n)
 | .e4 g i o=>lS hf (.e4 g i o)
 | .top=>lS hf .top
theorem JU{ops:Array Oper}{o:Oper}{S:ar}{e:Env}(hf:S.cx e):Q4 G N B ops o S e (guardOf N ops S o):=by
 unfold guardOf
 cases ah:o.guard with
 |none=>simp only[Q4,dX,ah]
 |some HX=>
  obtain⟨j,b⟩:=HX;simp only
  cases hd:mb ops j with
  |none=>trivial
  |some d=>
   simp only
   cases hg:Nat.blt d N with
   |false=>trivial
   |true=>
    have bB:d<N:=e2 hg
    have af:=Iw (G:=G) hf (x:=S.at d)
    have hc:=Q8 (G:=G) (b:=b) hf ((S.at d).res S.g)
    rw[Dl.eq_def]at hc
    have key: ∀q,pZ b (((S.at d).res S.g).den G e)=some q→dX ops (S.den G N B e) o=some q:=fun q h=>by
     rw[af]at h;simp only[dX,ah,hd,uF,if_pos bB];generalize (S.at d).den G e=v at h;unfold pZ at h
     split at h
     ·rename_i c
      cases h
      cases b<;>cases c<;>rfl
     ·cases h;rfl
     ·cases h
    simp only;generalize uV S.g b ((S.at d).res S.g)=fr at hc
    cases fr with
    |yes=>exact key _ hc
    |no=>exact key _ hc
    |on gs=>exact⟨fun h=>key _ (hc.1 h),fun h=>key _ (hc.2 h)⟩
    |bad=>trivial
end
end Go.aM
namespace Go.aM
open Go
section
variable {P:Program} {G:a7} {N B:Nat} {M:List a1} {T:List (Nat × bO)} {inl:Nat→List ab→ar→aB}
theorem zL{S:ar}{g:ab}{b:Bool}(ae:S.cw)(ah:g.lt S.k=true):({S with g:=.dP g b::S.g}:ar).cw:=
 ⟨ae.l,ae.h,by
  show(bX.lt S.k (.dP g b)&&e5 S.k S.g)=true;rw[ae.g,Bool.and_true]
  exact ah⟩
theorem zM{S:ar}{g:ab}{b:Bool}{e:Env}(hf:S.cx e)(ah:g.aH e .bool=b):({S with g:=.dP g b::S.g}:ar).cx e:=fun c hc=>by
 rcases List.mem_cons.1 hc with rfl|hc
 ·exact ah
 ·exact hf c hc
theorem qw{a b:Bool}(h: ¬a=b):a= !b:=by cases a<;>cases b<;>first|rfl|exact absurd rfl h
theorem Q9{g:ab}{b:Bool}{x y:aB}{e:Env}(h:g.aH e .bool=b):run M (Dg g b x y) e=run M x e:=by
 cases b<;>exact sI h
theorem zbg{g:ab}{b:Bool}{x y:aB}{e:Env}(h:g.aH e .bool= !b):run M (Dg g b x y) e=run M y e:=by
 cases b<;>exact sI h
theorem zbh{g:ab}{b:Bool}{x y:aB}{e:Env}(ag:(Dg g b x y).safe M e)(h:g.aH e .bool=b):x.safe M e:=by
 cases b with
 |true=>exact ag.1 h
 |false=>exact ag.2 h
theorem w1{S:ar}: ∀{gs:List (ab × Bool)},S.cw→lR S.k gs=true→({S with g:=gW gs S.g}:ar).cw
 |[],ae,_=>ae
 |(g,b)::r,ae,h=>by
  simp only[lR,Bool.and_eq_true]at h;exact zL (S:={S with g:=gW r S.g}) (b:=b) (w1 ae h.2) h.1
theorem w2{S:ar}{e:Env}: ∀{gs:List (ab × Bool)},S.cx e→fx e gs=true→({S with g:=gW gs S.g}:ar).cx e
 |[],hf,_=>hf
 |(g,b)::r,hf,h=>by
  simp only[fx,Bool.and_eq_true,beq_iff_eq]at h;exact zM (S:={S with g:=gW r S.g}) (b:=b) (w2 hf h.2) h.1
theorem Dm{k:Nat}{v:ab}: ∀{gs:List (ab × Bool)},lR k gs=true→v.lt k=true→(j9 gs v).lt k=true
 |[],_,h=>h
 |(g,b)::r,ah,h=>by
  simp only[lR,Bool.and_eq_true]at ah;simp only[j9,ab.lt,ah.1,Dm ah.2 h,Bool.and_self]
theorem Dn{k m:Nat}(h:k≤m): ∀{gs:List (ab × Bool)},lR k gs=true→lR m gs=true
 |[],_=>rfl
 |(g,b)::r,ah=>by
  simp only[lR,Bool.and_eq_true]at ah⊢;exact⟨gp h ah.1,Dn h ah.2⟩
theorem Dp{k:Nat}{e ax:Env}(h:bZ k e ax): ∀{gs:List (ab × Bool)},lR k gs=true→fx ax gs=fx e gs
 |[],_=>rfl
 |(g,b)::r,ah=>by
  simp only[lR,Bool.and_eq_true]at ah;simp only[fx,ft h ah.1,Dp h ah.2]
theorem Dq{v:ab}{e:Env}: ∀{gs:List (ab × Bool)},fx e gs=true→(j9 gs v).den G e=v.den G e
 |[],_=>rfl
 |(g,b)::r,h=>by
  simp only[fx,Bool.and_eq_true,beq_iff_eq]at h;exact(w0 h.1).trans (Dq h.2)
theorem Dr{v:ab}{e:Env}: ∀{gs:List (ab × Bool)},fx e gs=false→(j9 gs v).den G e= .tuple []
 |[],h=>by cases h
 |(g,b)::r,h=>by
  by_cases ah:g.aH e .bool=b
  ·simp only[fx,ah,beq_self_eq_true,Bool.true_and]at h
   exact(w0 ah).trans (Dr h)
  ·exact Q7 (qw ah)
theorem Ds{n:fK}{e:Env}: ∀{gs:List (ab × Bool)},(pV gs n).ok M e→fx e gs=true→n.ok M e
 |[],h,_=>h
 |(g,b)::r,h,aI=>by
  simp only[fx,Bool.and_eq_true,beq_iff_eq]at aI;exact Ds (gs:=r) (h aI.1) aI.2
theorem JV{x:aB}{y:List bX→aB}{e:Env}: ∀{gs:List (ab × Bool)} {l:List bX},fx e gs=true→run M (sG y gs x l) e=run M x e∧((sG y gs x l).safe M e→x.safe M e)
 |[],_,_=>⟨rfl,fun h=>h⟩
 |(g,b)::r,l,h=>by
  simp only[fx,Bool.and_eq_true,beq_iff_eq]at h;obtain⟨aa,ad⟩:=JV (x:=x) (y:=y) (l:=.dP g b::l) h.2;exact⟨(Q9 h.1).trans aa,fun ag=>ad (zbh ag h.1)⟩
theorem JW{x:aB}{y:List bX→aB}{e:Env}{k:Nat}: ∀{gs:List (ab × Bool)} {l:List bX},fx e gs=false→lR k gs=true→e5 k l=true→(∀c∈l,c.ok e)→∃eW,run M (sG y gs x l) e=run M (y eW) e∧e5 k eW=true∧∀c∈eW,c.ok e
 |[],_,h,_,_,_=>by cases h
 |(g,b)::r,l,h,ah,ao,hc=>by
  simp only[lR,Bool.and_eq_true]at ah
  have sd: ∀b,e5 k (.dP g b::l)=true:=fun b=>by
   show(bX.lt k (.dP g b)&&e5 k l)=true;rw[ao,Bool.and_true];exact ah.1
  by_cases fb:g.aH e .bool=b
  ·simp only[fx,fb,beq_self_eq_true,Bool.true_and]at h
   obtain⟨eW,aa,ad,aq⟩:=JW (x:=x) (y:=y) (k:=k) (gs:=r) (l:=.dP g b::l) h ah.2 (sd b) fun c hm=>by
    rcases List.mem_cons.1 hm with rfl|hm
    ·exact fb
    ·exact hc c hm
   exact⟨eW,(Q9 fb).trans aa,ad,aq⟩
  ·refine⟨.dP g (!b)::l,zbg (qw fb),sd _,fun c hm=>?_⟩
   rcases List.mem_cons.1 hm with rfl|hm
   ·exact qw fb
   ·exact hc c hm
theorem Ra{S:ar}{dst:Option Nat}{l:List bX}{e:Env}(ae:S.cw)(ao:e5 S.k l=true)(hc: ∀c∈l,c.ok e):
 ∃aQ:ar,rk S dst l= .cu .b9 aQ∧aQ.cw∧aQ.cx e∧S.k≤aQ.k∧aQ.den G N B e=(S.den G N B e).put dst (.tuple []):=
 ⟨_,rfl,ka ⟨ae.l,ae.h,ao⟩ rfl,kb hc,by rw[kc];exact Nat.le_refl _,by rw[fC];rfl⟩
theorem zN(cd:gL P G M inl){ops:Array Oper}: ∀(l:List Oper) {S:ar} {e:Env} {Q:Exit→aN→Prop},S.cw→S.cx e→(jf P N B T inl ops l S).safe M e→(∀ex st,jg G N B M (jf P N B T inl ops l S) e S.k ex st→Q ex st)→cp P G ops Q l (S.den G N B e)
 |[],S,e,Q,ae,hf,_,ei=>cp.nil (ei _ _ ⟨.b9,S,e,rfl,trivial,cO.refl _,ae,hf,bZ.refl _ _,Nat.le_refl _⟩)
 |o::r,S,e,Q,ae,hf,ag,ei=>by
  have ah:=JU (G:=G) (N:=N) (B:=B) (ops:=ops) (o:=o) hf
  have e8:=ag
  unfold jf at e8
  cases jh:guardOf N ops S o with
  |yes=>
   rw[jh]at ah e8
   have gV:jf P N B T inl ops (o::r) S=exec P N B T inl o S (jf P N B T inl ops r):=by rw[jf,jh]
   refine Q3 cd ae hf ah e8 fun dm ax aa ad aq aS bC cC=>zN cd r aa ad bC fun ex st ak=>ei ex st (ak.sub ?_ aq aS)
   rw[gV,cC]
  |no=>
   rw[jh]at ah e8
   have gV:jf P N B T inl ops (o::r) S=jf P N B T inl ops r (S.put o.dst (.tp [])):=by rw[jf,jh]
   refine cp.pass ah ?_
   have hd:(S.den G N B e).put o.dst (.tuple [])=(S.put o.dst (.tp [])).den G N B e:=by rw[fC];rfl
   rw[hd];refine zN cd r (ka ae rfl) (kb hf) e8 fun ex st ak=>ei ex st (ak.sub (by rw[gV]) (bZ.refl _ _) (by rw[kc];exact Nat.le_refl _))
  |on gs=>
   rw[jh]at ah e8;simp only at e8;obtain⟨g1,g2⟩:=ah
   split at e8
   ·rename_i kM
    split at e8
    ·rename_i q av
     split at e8
     ·rename_i hc
      have gV:jf P N B T inl ops (o::r) S=emit S.k q.xs (q.ns.map (pV gs)) (jf P N B T inl ops r ((S.eJ S.k q.xs).put o.dst (j9 gs q.v))):=by rw[jf,jh];simp only[kM,av,hc]
      simp only[Bool.and_eq_true]at hc;obtain⟨fE,e0⟩:=mr e8;obtain⟨bD,a2,a3⟩:=rm (M:=M) (G:=G) (N:=N) (B:=B) ae hf hc.1
      have bG:bZ S.k e (c3 M e S.k q.xs):=jD (Nat.le_refl _)
      have hY:fx (c3 M e S.k q.xs) gs=fx e gs:=Dp bG kM
      have aj:S.k≤S.k+q.xs.length:=Nat.le_add_right _ _
      have oW:(j9 gs q.v).lt (S.k+q.xs.length)=true:=Dm (Dn aj kM) hc.2
      have JX:((S.eJ S.k q.xs).put o.dst (j9 gs q.v)).cw:=ka bD oW
      have zO:=zN cd (ops:=ops) r (Q:=Q) JX (kb a2) e0 fun ex st ak=>ei ex st (ak.sub (by rw[gV,lQ]) bG (by rw[kc];exact aj))
      rw[fC,a3]at zO
      cases fb:fx e gs with
      |true=>
       have jX:=w2 hf fb
       have iz:=w1 ae kM
       have dN:=uP (G:=G) (B:=B) (M:=M) av (c3 M e S.k q.xs) (ig bG iz.g jX) (jd hc.1) fun n hn=>Ds (fE (pV gs n) (List.mem_map.2 ⟨n,hn,rfl⟩)) (hY.trans fb)
       have w3:({S with g:=gW gs S.g}:ar).den G N B (c3 M e S.k q.xs)=S.den G N B e:=ll (S:={S with g:=gW gs S.g}) bG iz
       rw[w3]at dN;refine cp.step (g1 fb) dN.step ?_
       rw[Dq (hY.trans fb)]at zO;exact zO
      |false=>
       refine cp.pass (g2 fb) ?_
       rw[Dr (hY.trans fb)]at zO;exact zO
     ·exact e8.elim
    ·rename_i av
     have gV:jf P N B T inl ops (o::r) S=pT N S o.dst gs (sG (rk S o.dst) gs (exec P N B T inl o {S with g:=gW gs S.g} (.cu .b9)) S.g) (jf P N B T inl ops r):=by rw[jf,jh];simp only[av,kM]
     obtain⟨t1,_,t3⟩:=JK (G:=G) (B:=B) ae hf e8
     have fin: ∀(aQ:ar) (aA:Env),run M (sG (rk S o.dst) gs (exec P N B T inl o {S with g:=gW gs S.g} (.cu .b9)) S.g) e=some (.b9,aQ,aA)→aQ.cw→aQ.cx aA→bZ S.k e aA→S.k≤aQ.k→cp P G ops Q r (aQ.den G N B aA):=fun aQ aA af aa ad aq aS=>by
      obtain⟨dS,aW,s1,s2,hh,ko,kp,kq,kV⟩:=t3 aQ aA af aa ad aq aS;exact cp.le s1 (zN cd r s2 hh kq fun ex st ak=>ei ex st (ak.sub (by rw[gV,kV]) ko kp))
     cases fb:fx e gs with
     |false=>
      refine cp.pass (g2 fb) ?_
      obtain⟨eW,dk,dy,ky⟩:=JW (M:=M) (x:=exec P N B T inl o {S with g:=gW gs S.g} (.cu .b9)) (y:=rk S o.dst) (l:=S.g) fb kM ae.g hf
      obtain⟨aQ,cQ,dE,JY,JZ,va⟩:=Ra (G:=G) (N:=N) (B:=B) (dst:=o.dst) ae dy ky;rw[←va];exact fin aQ e (by rw[dk,cQ];rfl) dE JY (bZ.refl _ _) JZ
     |true=>
      have jX:=w2 hf fb
      have iz:=w1 ae kM
      obtain⟨f1,f2⟩:=JV (M:=M) (x:=exec P N B T inl o {S with g:=gW gs S.g} (.cu .b9)) (y:=rk S o.dst) (l:=S.g) fb
      refine Q3 cd (S:={S with g:=gW gs S.g}) iz jX (g1 fb) (f2 t1) fun dm ax aa ad aq aS _ cC=>fin dm ax ?_ aa ad aq aS
      exact f1.trans cC
   ·exact e8.elim
  |bad=>rw[jh]at e8;exact e8.elim
end
end Go.aM
namespace Go.aM
open Go
def zP(i:Nat)(y:ab):List bX→Bool
 |[]=>false
 | .rg j b::r=>(Nat.beq j i&&fD b y)||zP i y r
 |_::r=>zP i y r
def w4(j:Nat)(all:List bX):List bX→Option Bool
 |[]=>none
 | .d2 i (.oL .lss .i64) x y::r=>match Nat.beq i j with
  |true=>match fD x y with
   |true=>some false
   |false=>match x with
    | .bl (.int .i64) m=>match zP m y all&&(match y.rt with|some (.int .i64)=>true|_=>false)with
     |true=>some true
     |false=>none
    |_=>none
  |false=>w4 j all r
 |_::r=>w4 j all r
def J0(g:ab)(l:List bX):Option Bool:=
 match lj g l with
 |some b=>some b
 |none=>match g with
  | .bl .bool j=>w4 j l l
  |_=>none
def zQ(i:Nat):List bX→Option ab
 |[]=>none
 | .d1 j .nh x::r=>match Nat.beq j i with
  |true=>match x.rt with
   |some .bool=>some x
   |_=>none
  |false=>zQ i r
 |_::r=>zQ i r
def ar.dP(S:ar)(v:ab)(b:Bool):ar:=
 match v with
 | .bl .bool i=>match zQ i S.g with
  |some x=>{S with g:=.dP x (!b):: .dP (.bl .bool i) b::S.g}
  |none=>{S with g:=.dP (.bl .bool i) b::S.g}
 |v=>{S with g:=.dP v b::S.g}
def J1(N:Nat)(S:ar)(x:Operand)(f g:ar→aB):aB:=
 match S.a6 N x with
 | .cs (.bool true)=>f S
 | .cs (.bool false)=>g S
 |v=>match v.rt with
  |some .bool=>match J0 v S.g with
   |some true=>f S
   |some false=>g S
   |none=>.it v (f (S.dP v true)) (g (S.dP v false))
  |_=>.bad 38
def comp(P:Program)(N B:Nat)(T:List (Nat × bO))(inl:Nat→List ab→ar→aB)(L:(ar→aB)→Nat→ar→aB)(D:Array Oper→ar→aB):Code→Nat→ar→aB
 | .skip,_,S=>.cu .b9 S
 | .ret,_,S=>.cu .ret S
 | .exit id,_,S=>.cu (.ext id) S
 | .region _ ops draw,_,S=>match draw with
  |true=>D ops S
  |false=>jf P N B T inl ops ops.toList S
 | .cond x a b,cur,S=>J1 N S x (comp P N B T inl L D a cur) (comp P N B T inl L D b cur)
 | .block id c,_,S=>(comp P N B T inl L D c id S).rel (oN id)
 | .seq a b,cur,S=>kL N S (comp P N B T inl L D a cur S) (comp P N B T inl L D b cur)
 | .loop c,cur,S=>L (comp P N B T inl L D c cur) cur S
 |_,_,_=>.bad 6
section
variable {P:Program} {G:a7} {N B:Nat} {M:List a1} {T:List (Nat × bO)} {inl:Nat→List ab→ar→aB} {L:(ar→aB)→Nat→ar→aB} {D:Array Oper→ar→aB}
theorem zR{i:Nat}{y:ab}{e:Env}: ∀{l:List bX},zP i y l=true→(∀c∈l,c.ok e)→0≤cg (Env.at e i)∧cg (Env.at e i)<cg (y.dyn e)
 | .rg j b::r,h,hc=>by
  simp only[zP,Bool.or_eq_true,Bool.and_eq_true]at h
  rcases h with⟨aa,ad⟩|h
  ·rw[←Nat.eq_of_beq_eq_true aa,←fR ad]
   exact hc (.rg j b) (by simp)
  ·exact zR h fun c hm=>hc c (by simp[hm])
 | .d1 _ _ _::r,h,hc=>zR (l:=r) h fun c hm=>hc c (by simp[hm])
 | .d2 _ _ _ _::r,h,hc=>zR (l:=r) h fun c hm=>hc c (by simp[hm])
 | .dP _ _::r,h,hc=>zR (l:=r) h fun c hm=>hc c (by simp[hm])
theorem zbi(d:aD):(d.as (.int .i64):Int)=cg d∨(d.as (.int .i64):Int)=0:=by
 obtain⟨r,v⟩:=d
 by_cases h:r= .int .i64
 ·subst h
  exact .inl (cT _ _)
 ·refine .inr ?_
  unfold aD.as
  split
  ·rename_i h' _;exact absurd h' h
  ·rfl
theorem zS{j:Nat}{e:Env}{b:Bool}{all:List bX}(aI: ∀c∈all,c.ok e): ∀{l:List bX},w4 j all l=some b→(∀c∈l,c.ok e)→(ab.bl .bool j).aH e .bool=b
 | .d2 i f x y::r,h,hc=>by
  have aU:=hc (.d2 i f x y) (by simp)
  have af: ∀{b},w4 j all r=some b→(ab.bl .bool j).aH e .bool=b:=fun h=>zS aI h fun c hm=>hc c (by simp[hm])
  unfold w4 at h
  split at h
  ·cases h
  ·rename_i yG lb sh ew heq
   cases heq
   split at h
   ·rename_i ug
    have ug:=Nat.eq_of_beq_eq_true ug
    subst ug;simp only[bX.ok]at aU
    have av:(ab.bl .bool i).aH e .bool=y8 .lss (x.aH e (.int .i64)) (y.aH e (.int .i64)):=by
     simp only[ab.aH,ab.fM,ab.dyn,cT,aU];rfl
    rw[av]
    split at h
    ·rename_i he
     cases h;rw[fR he];exact decide_eq_false (Int.lt_irrefl _)
    ·split at h
     ·rename_i m _
      split at h
      ·rename_i aj
       cases h;simp only[Bool.and_eq_true]at aj
       have aa:=zR aj.1 aI
       have az:y.rt=some (.int .i64):=by
        have:=aj.2
        split at this
        ·assumption
        ·cases this
       rw[mo az]at aa
       have hx:(ab.bl (.int .i64) m).aH e (.int .i64)=(Env.at e m).as (.int .i64):=by simp only[ab.aH,ab.fM,ab.dyn,cT]
       rw[hx];refine decide_eq_true ?_
       have ad:=aa.2
       rcases zbi (Env.at e m)with q|q
       ·rw[q];exact ad
       ·rw[q];exact Int.lt_of_le_of_lt aa.1 ad
      ·cases h
     ·cases h
   ·exact af h
  ·rename_i heq
   cases heq;exact af h
 | .d1 _ _ _::r,h,hc=>zS aI (l:=r) h fun c hm=>hc c (by simp[hm])
 | .rg _ _::r,h,hc=>zS aI (l:=r) h fun c hm=>hc c (by simp[hm])
 | .dP _ _::r,h,hc=>zS aI (l:=r) h fun c hm=>hc c (by simp[hm])
theorem Rb{e:Env}{g:ab}{b:Bool}{l:List bX}(h:J0 g l=some b)(hc: ∀c∈l,c.ok e):g.aH e .bool=b:=by
 unfold J0 at h
 split at h
 ·rename_i aj;cases h;exact pN aj hc
 ·split at h
  ·exact zS hc h hc
  ·cases h
def kN(P:Program)(G:a7)(N B:Nat)(M:List a1)(c:Code)(f:ar→aB):Prop:=
 ∀(S:ar) (e:Env),S.cw→S.cx e→(f S).safe M e→bY P G c (jg G N B M (f S) e S.k) (S.den G N B e)
theorem J2{i:Nat}{x:ab}{e:Env}{k:Nat}: ∀{l:List bX},zQ i l=some x→(∀c∈l,c.ok e)→e5 k l=true→(ab.bl .bool i).aH e .bool= !(x.aH e .bool)∧x.lt k=true
 |[],h,_,_=>by cases h
 |c::r,h,hc,ao=>by
  have yq: ∀c∈r,c.ok e:=fun c hm=>hc c (List.mem_cons_of_mem _ hm)
  have sd:c.lt k=true∧e5 k r=true:=by simpa only[e5,Bool.and_eq_true]using ao
  unfold zQ at h
  split at h
  ·rename_i heq;cases heq
  ·rename_i j y ew heq
   cases heq
   split at h
   ·rename_i ai
    have ai:=Nat.eq_of_beq_eq_true ai
    subst ai
    split at h
    ·cases h
     have aU:Env.at e j=⟨db.nh.c,db.nh.den (x.aH e db.nh.a)⟩:=hc _ (List.mem_cons_self ..)
     have aa:=sd.1
     simp only[bX.lt,Bool.and_eq_true]at aa;refine⟨?_,aa.2⟩
     simp only[ab.aH,ab.fM,ab.dyn,aU,cT];rfl
    ·cases h
   ·exact J2 h yq sd.2
  ·rename_i heq
   cases heq;exact J2 h yq sd.2
theorem Rc{S:ar}{v:ab}{b:Bool}{e:Env}(ae:S.cw)(hf:S.cx e)(ao:v.lt S.k=true)(av:v.aH e .bool=b):(S.dP v b).cw∧(S.dP v b).cx e∧(S.dP v b).k=S.k∧(S.dP v b).den G N B e=S.den G N B e:=by
 unfold ar.dP
 split
 ·rename_i i
  split
  ·rename_i x hx
   obtain⟨aa,ad⟩:=J2 hx hf ae.g;rw[av]at aa
   have aq:x.aH e .bool= !b:=by rw[aa];cases x.aH e .bool<;>rfl
   have bD:=zL (b:=b) ae ao
   have a2:=zM hf av
   exact⟨zL (S:={S with g:=.dP (.bl .bool i) b::S.g}) (b:=!b) bD ad,zM (S:={S with g:=.dP (.bl .bool i) b::S.g}) a2 aq,rfl,rfl⟩
  ·exact⟨zL ae ao,zM hf av,rfl,rfl⟩
 ·exact⟨zL ae ao,zM hf av,rfl,rfl⟩
theorem zbj{x:Operand}{a b:Code}{f g:ar→aB}(hf:kN P G N B M a f)(ah:kN P G N B M b g):kN P G N B M (.cond x a b) (fun S=>J1 N S x f g):=by
 intro S e ae eS ag
 have hx:=bJ (G:=G) (N:=N) (B:=B) eS x
 have bB:=zf (N:=N) ae x
 simp only at ag⊢
 unfold J1 at ag⊢
 generalize S.a6 N x=v at ag hx bB⊢
 split at ag
 ·exact bY.OJ hx (hf S e ae eS ag)
 ·exact bY.OK hx (ah S e ae eS ag)
 ·rename_i aa ad
  split at ag
  ·rename_i af
   have hd:=gJ (G:=G) (e:=e) af
   rw[←hx]at hd
   have hd:=hd.trans (show _=aE.au (.v (.bool _))from rfl)
   split at ag
   ·rename_i aj
    rw[Rb aj eS]at hd;exact bY.OJ hd (hf S e ae eS ag)
   ·rename_i aj
    rw[Rb aj eS]at hd;exact bY.OK hd (ah S e ae eS ag)
   ·refine bY.cond hd (fun aG=>?_) (fun aG=>?_)
    ·obtain⟨dk,dy,ky,qD⟩:=Rc (G:=G) (N:=N) (B:=B) ae eS bB aG
     have:=hf _ e dk dy (ag.1 aG)
     rw[qD]at this;refine bY.mono this fun ex st ak=>ak.sub ?_ (bZ.refl _ _) (Nat.le_of_eq ky.symm)
     rw[sI aG]
    ·obtain⟨dk,dy,ky,qD⟩:=Rc (G:=G) (N:=N) (B:=B) ae eS bB aG
     have:=ah _ e dk dy (ag.2 aG)
     rw[qD]at this;refine bY.mono this fun ex st ak=>ak.sub ?_ (bZ.refl _ _) (Nat.le_of_eq ky.symm)
     rw[sI aG]
  ·exact ag.elim
theorem zbk{id:Nat}{c:Code}{f:ar→aB}(hf:kN P G N B M c f):kN P G N B M (.block id c) (fun S=>(f S).rel (oN id)):=by
 intro S e ae eS ag
 have an:=ZL (f S) id
 refine bY.block (bY.mono (hf S e ae eS ((lN an).1 ag)) fun ex st ak=>?_)
 obtain⟨x,dm,ax,aa,ad,aq,aS,bC,cC,dB⟩:=ak
 have af:run M ((f S).rel (oN id)) e=some (oN id x,dm,ax):=by rw[zb an,aa];rfl
 cases x with
 |b9=>cases ex<;>first|exact⟨_,dm,ax,af,trivial,aq,aS,bC,cC,dB⟩|exact ad.elim
 |ret=>cases ex<;>first|exact⟨_,dm,ax,af,trivial,aq,aS,bC,cC,dB⟩|exact ad.elim
 |lh n=>exact(by cases ex<;>exact ad.elim)
 |ext n=>
  cases ex with
  |exit m=>
   have ad:n=m:=ad
   subst ad;show(bif Nat.beq n id then _ else _)
   cases ae:Nat.beq n id with
   |true=>exact⟨.b9,dm,ax,by rw[af];simp only[oN,ae],trivial,aq,aS,bC,cC,dB⟩
   |false=>exact⟨.ext n,dm,ax,by rw[af];simp only[oN,ae],rfl,aq,aS,bC,cC,dB⟩
  |_=>exact ad.elim
theorem zbl{a b:Code}{f g:ar→aB}(hf:kN P G N B M a f)(ah:kN P G N B M b g):kN P G N B M (.seq a b) (fun S=>kL N S (f S) g):=by
 intro S e ae eS ag
 obtain⟨t1,t2,t3⟩:=Da (G:=G) (B:=B) ae eS ag
 refine bY.seq (bY.mono (hf S e ae eS t1) fun ex st ak=>?_)
 obtain⟨x,dm,ax,aa,ad,aq,aS,bC,cC,dB⟩:=ak
 have other:x≠ .b9→ex≠ .normal→jg G N B M (kL N S (f S) g) e S.k ex st:=fun cb _=>⟨x,dm,ax,t2 x dm ax aa cb (QX ad),ad,aq,aS,bC,cC,dB⟩
 cases x with
 |b9=>
  cases ex with
  |normal=>
   obtain⟨dS,aW,s1,s2,hh,ko,kp,kq,kV⟩:=t3 dm ax aa aS bC cC dB;exact bY.le aq (bY.le s1 (bY.mono (ah dS aW s2 hh kq) fun ex st ak=>ak.sub kV ko kp))
  |_=>exact ad.elim
 |ret=>cases ex<;>first|exact other (by simp) (by simp)|exact ad.elim
 |ext n=>cases ex<;>first|exact other (by simp) (by simp)|exact ad.elim
 |lh n=>cases ex<;>exact ad.elim
theorem J3{c:Code}{x:bT}{ex:Exit}(h:zG x ex)(k: ∀{Q:Exit→aN→Prop} {s:aN},Q ex s→bY P G c Q s):kN P G N B M c (fun S=>.cu x S):=
 fun S e ae hf _=>k ⟨x,S,e,rfl,h,cO.refl _,ae,hf,bZ.refl _ _,Nat.le_refl _⟩
def J4(P:Program)(G:a7)(N B:Nat)(M:List a1)(L:(ar→aB)→Nat→ar→aB):Prop:=∀c f id,kN P G N B M c f→kN P G N B M (.loop c) (L f id)
def J5(P:Program)(G:a7)(N B:Nat)(M:List a1)(D:Array Oper→ar→aB):Prop:=∀id ops,kN P G N B M (.region id ops true) (D ops)
theorem uX(cd:gL P G M inl)(fG:J4 P G N B M L)(l9:J5 P G N B M D): ∀(c:Code) (cur:Nat),kN P G N B M c (comp P N B T inl L D c cur)
 | .skip,_=>J3 (ex:=.normal) trivial bY.skip
 | .ret,_=>J3 (ex:=.ret) trivial bY.ret
 | .exit id,_=>J3 (ex:=.exit id) rfl bY.exit
 | .region id ops draw,_=>by
  cases draw with
  |true=>exact l9 id ops
  |false=>
   intro S e ae hf ag
   have lY:ops=ops.toList.toArray:=by simp
   rw[lY];refine bY.region ?_
   rw[←lY];exact zN cd ops.toList ae hf ag fun _ _ h=>h
 | .cond x a b,cur=>zbj (uX cd fG l9 a cur) (uX cd fG l9 b cur)
 | .block id c,_=>zbk (uX cd fG l9 c id)
 | .seq a b,cur=>zbl (uX cd fG l9 a cur) (uX cd fG l9 b cur)
 | .loop c,cur=>fG c _ cur (uX cd fG l9 c cur)
 | .rangeFunc _ _ _ _,_=>fun _ _ _ _ h=>h.elim
 | .scope _,_=>fun _ _ _ _ h=>h.elim
 | .label _,_=>fun _ _ _ _ h=>h.elim
 | .goto _,_=>fun _ _ _ _ h=>h.elim
 | .refuse _,_=>fun _ _ _ _ h=>h.elim
end
end Go.aM
namespace Go.aM
open Go
def zT:Nat→List ab→List (Nat × ab)
 |_,[]=>[]
 |i,x::r=>(i,x)::zT (i+1) r
def w5(P:Program)(N:Nat)(S:ar):List ResultVar→Option (List ab)
 |[]=>some []
 | .tmp t::r=>match w5 P N S r with
  |some l=>some (S.a6 N (.tmp t)::l)
  |none=>none
 | .cell p t::r=>match w5 P N S r,uI S (S.a6 N (.tmp p))with
  |some l,some cs=>match rb P t cs with
   |some v=>some (v::l)
   |none=>none
  |_,_=>none
def J6(P:Program)(fn:Func)(N:Nat)(S:ar):Option ab:=
 match w5 P N S fn.results.toList with
 |some [x]=>some x
 |some l=>some (.tp l)
 |none=>none
def zU:bT→bT
 | .ret=>.b9
 |x=>x
def zbm:bT→Bool
 | .b9=>true
 | .ret=>true
 |_=>false
def Dt(P:Program)(fn:Func)(N:Nat)(S:ar):aB:=
 match J6 P fn N S with
 |some v=>match v.lt S.k with
  |true=>.cu .b9 {S with l:=bb.put .emp 0 v}
  |false=>.bad 44
 |none=>.bad 43
structure oo where
 L:Nat→Nat→(Nat→List ab→ar→aB)→(ar→aB)→Nat→ar→aB
 D:Nat→Nat→(Nat→List ab→ar→aB)→Array Oper→ar→aB
def uY(as:List ab)(S:ar):ar:={S with l:=e6 (zT 0 as)}
def J7(P:Program)(H:oo)(T:List (Nat × bO))(inl:Nat→List ab→ar→aB)(c:Code)(N:Nat)(as:List ab)(S:ar):aB:=
 comp P N S.n T inl (H.L N S.n inl) (H.D N S.n inl) c 0 (uY as S)
def w6(n:Nat)(m:Nat):Nat:=
 match n with
 |0=>m
 |k+1=>k+1
def aB.nt:aB→Nat
 | .cu _ _=>0
 | .lt _ _ t=>t.nt
 | .eL _ t=>t.nt
 | .it _ a b=>w6 a.nt b.nt
 | .dr _ a _ k=>w6 a.nt k.nt
 | .ec _ _ _ _ _ a k=>w6 a.nt k.nt
 | .eH _ _ _ a k=>w6 a.nt k.nt
 | .bad n=>n
def zbn(f n:Nat):Nat:=
 match Nat.ble 1000 n with
 |true=>n
 |false=>f*1000+n
def Re(P:Program)(f:Nat)(fn:Func)(N:Nat)(t:aB):aB:=
 match t.fa zbm with
 |true=>(t.rel zU).eC (Dt P fn N) none
 |false=>.bad (zbn f t.nt)
def J8(P:Program)(H:oo)(T:List (Nat × bO))(inl:Nat→List ab→ar→aB)(f:Nat)(as:List ab)(S:ar):aB:=
 match P.funcs[f]? with
 |some fn=>match fn.body with
  |some c=>Re P f fn (as.length+(fn.ntmps-as.length)) (J7 P H T inl c (as.length+(fn.ntmps-as.length)) as S)
  |none=>.bad 41
 |none=>.bad 42
section
variable {P:Program} {G:a7} {N B:Nat} {M:List a1} {T:List (Nat × bO)} {inl:Nat→List ab→ar→aB} {H:oo}
def J9(P:Program)(G:a7)(M:List a1)(H:oo):Prop:=∀(inl:Nat→List ab→ar→aB),gL P G M inl→∀N B,J4 P G N B M (H.L N B inl)∧J5 P G N B M (H.D N B inl)
theorem Rf{t:TypeId}{l:List ab}{v:ab}{e:Env}(h:rb P t l=some v):
 (∃n,l8 P t=some n∧n≤l.length∧0<n∧v.den G e= .agg ((ab.bR G e l).take n))∨(l8 P t=none∧scalar P t=true∧∃r,l=v::r):=by
 unfold rb at h
 split at h
 ·rename_i n hn
  split at h
  ·rename_i ae
   simp only[Bool.and_eq_true]at ae;cases h;refine .inl ⟨n,hn,Nat.le_of_ble_eq_true ae.1,Nat.le_of_ble_eq_true ae.2,?_⟩
   simp only[ab.den,eG,List.map_take]
  ·cases h
 ·rename_i hn
  split at h
  ·rename_i ag
   cases h;exact .inr ⟨hn,ag,_,rfl⟩
  ·cases h
theorem Du{S:ar}{e:Env}(hf:S.cx e): ∀{l:List ResultVar} {vs:List ab},w5 P N S l=some vs→mY P (S.den G N B e) l=some (ab.bR G e vs)
 |[],vs,h=>by cases h;rfl
 | .tmp t::r,vs,h=>by
  simp only[w5]at h
  split at h
  ·rename_i l ao
   cases h
   have:=bJ (G:=G) (N:=N) (B:=B) hf (.tmp t)
   simp only[mY,Du hf ao,ab.bR,←this];rfl
  ·cases h
 | .cell p t::r,vs,h=>by
  simp only[w5]at h
  split at h
  ·rename_i l cs ao hc
   split at h
   ·rename_i v av
    cases h
    have aa:=bJ (G:=G) (N:=N) (B:=B) hf (.tmp p)
    have ad:=zl (G:=G) (N:=N) (B:=B) (e:=e) hc
    rw[←aa]at ad
    have ad:fj (S.den G N B e).heap ((S.den G N B e).cE.getD p .top)=some (ab.bR G e cs):=ad
    simp only[mY,Du hf ao,ad,ab.bR]
    rcases Rf (G:=G) (e:=e) av with⟨n,g1,g2,g3,g4⟩|⟨g1,g2,ew,g3⟩
    ·simp only[g1,g4]
     rw[if_pos ⟨by rw[nq];exact g2,g3⟩]
    ·subst g3
     simp only[g1,g2,if_true,ab.bR]
   ·cases h
  ·cases h
theorem zbo{fn:Func}{S:ar}{e:Env}{v:ab}(hf:S.cx e)(h:J6 P fn N S=some v):yB P fn (S.den G N B e)=some (v.den G e):=by
 unfold J6 at h
 unfold yB
 split at h
 ·rename_i x hx
  cases h;rw[Du hf hx];rfl
 ·rename_i l cb ao
  cases h;rw[Du hf ao]
  match l with
  |[]=>rfl
  |[x]=>exact absurd rfl (cb x)
  |x::y::l=>rfl
 ·cases h
theorem Rg(t:aB):t.ic zU:=nk (t.lvl+1) (Nat.lt_succ_self _) (fun n _ x h=>by cases x<;>first|rfl|exact h) (fun n x h=>by cases x<;>first|rfl|exact h)
theorem Ka: ∀{l:List ab} {i j:Nat},(e6 (zT i l)).get j=if j<i then none else l[j-i]?
 |[],i,j=>by simp only[zT,e6];split<;>simp[bb.get]
 |x::r,i,j=>by
  simp only[zT,e6,bb.j1,Ka (l:=r)]
  by_cases h:i=j
  ·subst h;simp
  ·rw[if_neg h]
   by_cases ad:j<i
   ·rw[if_pos ad,if_pos (by omega)]
   ·rw[if_neg ad,if_neg (by omega),show j-i=(j-(i+1))+1 by omega,List.getElem?_cons_succ]
theorem zbp{as:List ab}{S:ar}{e:Env}{k:Nat}:(uY as S).den G (as.length+k) S.n e=⟨ab.bR G e as++List.replicate k .top,cM G e S.h,S.n,S.n⟩:=by
 simp only[ar.den,uY,aN.mk.injEq,and_true,true_and]
 apply List.ext_getElem?
 intro j
 rw[q9,Nat.zero_add,Ka,if_neg (Nat.not_lt_zero _),Nat.sub_zero,eG,List.getElem?_append,List.getElem?_replicate,List.length_map]
 by_cases h:j<as.length
 ·rw[if_pos (by omega),if_pos h,List.getElem?_map,List.getElem?_eq_getElem h]
  rfl
 ·rw[if_neg h]
  by_cases ad:j<as.length+k
  ·rw[if_pos ad,if_pos (by omega),List.getElem?_eq_none (by omega)]
  ·rw[if_neg ad,if_neg (by omega)]
theorem zbq{as:List ab}{S:ar}(ae:S.cw)(ao:ab.cD S.k as=true):(uY as S).cw:=by
 refine⟨fun i x hx=>?_,ae.h,ae.g⟩
 simp only[uY,Ka,Nat.not_lt_zero,if_false,Nat.sub_zero]at hx
 have hm:=List.mem_of_getElem? hx
 clear hx
 induction as with
 |nil=>cases hm
 |cons y r aR=>
  simp only[ab.cD,Bool.and_eq_true]at ao
  rcases List.mem_cons.1 hm with rfl|hm
  ·exact ao.1
  ·exact aR ao.2 hm
theorem bY.zbr{c:Code}{Q:Exit→aN→Prop}{s:aN}(h:bY P G c (fun e st=>∃Dv,cO st Dv∧Q e Dv) s):bY P G c Q s:=fun E a w af=>
 wp_mono (h E a w af) fun _ aY w' ⟨st,⟨Dv,ao,aL⟩,ad⟩=>⟨Dv,aL,ao E G aY w' ad⟩
theorem zbs(uZ:J9 P G M H)(cd:gL P G M inl):gL P G M (J8 P H T inl):=by
 intro f as S e ae ao hf ag
 unfold J8 at ag⊢
 split at ag
 ·rename_i fn uN
  split at ag
  ·rename_i c hc
   generalize hg:as.length+(fn.ntmps-as.length)=N at ag;generalize aG:J7 P H T inl c N as S=t at ag;unfold Re at ag⊢
   split at ag
   ·rename_i Kb
    obtain⟨g1,g2,g3⟩:=jz (t.rel zU) none ag
    have zV:t.safe M e:=(lN (Rg t)).1 g1
    have Rh:=uX (T:=T) (B:=S.n) (N:=N) cd (uZ inl cd N S.n).1 (uZ inl cd N S.n).2 c 0 (uY as S) e (zbq ae ao) hf (by
     unfold J7 at aG;rw[aG];exact zV)
    have ct:comp P N S.n T inl (H.L N S.n inl) (H.D N S.n inl) c 0 (uY as S)=t:=aG
    rw[ct,←hg,zbp,hg]at Rh;refine dO.Ya (k:=fn.ntmps-as.length) uN hc (by rw[nq]) (bY.zbr (bY.mono Rh fun ex st ak=>?_))
    obtain⟨x,dm,ax,aa,ad,aq,aS,bC,cC,dB⟩:=ak;refine⟨_,aq,?_⟩
    obtain⟨lb,dS,aW,dk,dy⟩:=jy (M:=M) (e:=e) Kb;rw[aa]at dk
    cases dk
    have af:run M (t.rel zU) e=some (.b9,dm,ax):=by
     rw[zb (Rg t),aa]
     cases x<;>first|rfl|cases dy
    obtain⟨zW,_⟩:=g3 dm ax af;rw[af]at g2
    have g2:run M ((t.rel zU).eC (Dt P fn N) none) e=run M (Dt P fn N dm) ax:=g2
    unfold Dt at zW g2
    split at zW
    ·rename_i v av
     split at zW
     ·rename_i oW
      simp only[av,oW]at g2;refine⟨(by cases x<;>cases ex<;>first|exact .inl rfl|exact .inr rfl|exact ad.elim|cases dy),v.den G ax,cM G ax dm.h,zbo bC av,fun _ _ h=>h,{dm with l:=bb.put .emp 0 v},ax,g2,?_,rfl,⟨fun i x hx=>?_,aS.h,aS.g⟩,bC,cC,dB⟩
      ·simp only[ar.at,bb.j1,if_true]
      ·simp only[bb.j1]at hx
       split at hx
       ·cases hx;exact oW
       ·simp[bb.get]at hx
     ·exact zW.elim
    ·exact zW.elim
   ·exact ag.elim
  ·exact ag.elim
 ·exact ag.elim
end
end Go.aM
