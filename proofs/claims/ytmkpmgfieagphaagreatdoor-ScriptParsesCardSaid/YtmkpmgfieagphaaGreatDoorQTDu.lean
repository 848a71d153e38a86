/- TD, part P: states are joined; what follows a part. Conditions: none. -/
import Derived.Test.YtmkpmgfieagphaaGreatDoorQTDo
namespace Go.aL
open Go
def allEq(v:ab):List ab→Bool
 |[]=>true
 |x::r=>fx x v&&allEq v r
def typeOf:List ab→Option aU
 |[]=>none
 |x::r=>match x.rt with
  |some t=>some t
  |none=>typeOf r
def CL(r:aU):List ab→Bool
 |[]=>true
 |x::l=>x.fz r&&CL r l
def P4(n:Nat):List ab→Bool
 |[]=>true
 | .cD l::r=>Nat.beq l.length n&&P4 n r
 |_::_=>false
def P5(n:Nat):List ab→Bool
 |[]=>true
 | .tp l::r=>Nat.beq l.length n&&P5 n r
 |_::_=>false
def ab.parts:ab→List ab
 | .tp l=>l
 | .cD l=>l
 |x=>[x]
def I9:List (List ab)→List ab
 |[]=>[]
 |l::r=>eJ .top l 0::I9 r
def Ja:List (List ab)→List (List ab)
 |[]=>[]
 |l::r=>l.tail::Ja r
def wN(r:Option (Nat × Nat)):List ab→Option (Nat × Nat)
 |[]=>r
 | .dz i o::l=>match r with
  |none=>wN (some (i,o)) l
  |some (j,q)=>match Nat.beq i j&&Nat.beq o q with
   |true=>wN r l
   |false=>none
 | .eV _ (some i) o::l=>match r with
  |none=>wN (some (i,o)) l
  |some (j,q)=>match Nat.beq i j&&Nat.beq o q with
   |true=>wN r l
   |false=>none
 | .cs (.pointer none)::l=>wN r l
 |_::_=>none
mutual
def Jb(aR:Nat)(p:ec)(rest:List ab)(k:Nat):ab→ab × fp
 | .cD l=>match P4 l.length rest with
  |true=>match Jc aR p 0 (rest.map ab.cells) k l with
   |(ws,ps)=>(.cD ws,ps)
  |false=>(.top,[])
 | .tp l=>match P5 l.length rest with
  |true=>match Jc aR p 0 (rest.map ab.parts) k l with
   |(ws,ps)=>(.tp ws,ps)
  |false=>(.top,[])
 |v=>match allEq v rest&&v.lt aR with
  |true=>(v,[])
  |false=>match typeOf (v::rest)with
   |some r=>match CL r (v::rest)with
    |true=>(.bg r k,[(k,r,p)])
    |false=>(.top,[])
   |none=>match wN none (v::rest)with
    |some (id,off)=>(.eV (.bg .bool k) (some id) off,[(k,.bool,.kE p)])
    |none=>(.top,[])
def Jc(aR:Nat)(p:ec):Nat→List (List ab)→Nat→List ab→List ab × fp
 |_,_,_,[]=>([],[])
 |i,rs,k,v::l=>match Jb aR (uJ p i) (I9 rs) k v with
  |(w,ps)=>match Jc aR p (i+1) (Ja rs) (k+ps.length) l with
   |(ws,qs)=>(w::ws,ps++qs)
end
def P6:ab→Bool
 | .top=>true
 |_=>false
def slotsOf(i:Nat):List ar→List ab
 |[]=>[]
 |S::r=>S.at i::slotsOf i r
def Jd(aR:Nat)(s:ar)(eh:List ar):Nat→Nat→Nat→List (Nat × ab) × fp
 |0,_,_=>([],[])
 |n+1,i,k=>match P6 (s.at i)with
  |true=>Jd aR s eh n (i+1) k
  |false=>match Jb aR (.slot i []) (slotsOf i eh) k (s.at i)with
   |(w,ps)=>match Jd aR s eh n (i+1) (k+ps.length)with
    |(l,qs)=>match P6 w with
     |true=>(l,ps++qs)
     |false=>((i,w)::l,ps++qs)
def cellsOf(id:Nat):List ar→Option (List (List ab))
 |[]=>some []
 |S::r=>match dm S.h id,cellsOf id r with
  |some (.c8 _ l),some m=>some (l::m)
  |_,_=>none
def rowsOf(id:Nat)(c:bN):List ar→Option (List ab)
 |[]=>some []
 |S::r=>match dm S.h id,rowsOf id c r with
  |some (.rw _ d x),some m=>match decide (d=c)with
   |true=>some (x::m)
   |false=>none
  |_,_=>none
def P7(id:Nat)(x:ab):List ar→Option (List ab)
 |[]=>some []
 |S::r=>match dm S.h id,P7 id x r with
  |some (.it y p),some m=>match fx y x with
   |true=>some (p::m)
   |false=>none
  |_,_=>none
def P8(aR id:Nat):Nat→List (List ab)→Nat→List ab→List ab × fp
 |_,_,_,[]=>([],[])
 |j,rs,k,v::l=>match Jb aR (.box id j []) (I9 rs) k v with
  |(w,ps)=>match P8 aR id (j+1) (Ja rs) (k+ps.length) l with
   |(ws,qs)=>(w::ws,ps++qs)
def oS(aR:Nat)(eh:List ar):List (Nat × bC)→Nat→List (Nat × bC) × fp
 |[],_=>([],[])
 |(id,.c8 t l)::r,k=>match cellsOf id eh with
  |some rs=>match P8 aR id 0 rs k l with
   |(ws,ps)=>match oS aR eh r (k+ps.length)with
    |(h,qs)=>((id,.c8 t ws)::h,ps++qs)
  |none=>oS aR eh r k
 |(id,.rw t c x)::r,k=>match rowsOf id c eh with
  |some xs=>match allEq x xs&&x.lt aR with
   |true=>match oS aR eh r k with
    |(h,qs)=>((id,.rw t c x)::h,qs)
   |false=>match CL (.li c) (x::xs)with
    |true=>match oS aR eh r (k+1)with
     |(h,qs)=>((id,.rw t c (.bg (.li c) k))::h,(k,.li c,.row id)::qs)
    |false=>oS aR eh r k
  |none=>oS aR eh r k
 |(id,.it x p)::r,k=>match P7 id x eh with
  |some xs=>match allEq p xs&&p.lt aR with
   |true=>match oS aR eh r k with
    |(h,qs)=>((id,.it x p)::h,qs)
   |false=>match CL (.int .i64) (p::xs)with
    |true=>match oS aR eh r (k+1)with
     |(h,qs)=>((id,.it x (.bg (.int .i64) k))::h,(k,.int .i64,.row id)::qs)
    |false=>oS aR eh r k
  |none=>oS aR eh r k
def CM(n:Nat):List ar→Nat
 |[]=>n
 |S::r=>Nat.max S.n (CM n r)
def zp(N aR:Nat)(s:ar)(eh:List ar):fT:=
 match Jd aR s eh N 0 aR with
 |(l,ps)=>match oS aR eh s.h (aR+ps.length)with
  |(h,qs)=>⟨l,h,CM s.n eh,ps++qs⟩
def uK(S0:ar)(t:az)(J:fT)(eh:List ar)(f:ar→az):az:=
 match hV S0.k J.ps&&((q9 (S0.k+J.ps.length) J.l&&eF (S0.k+J.ps.length) J.h)&&CJ J S0.k eh)with
 |true=>.dn (t.lvl+1) (t.rel (fm (t.lvl+1))) J.ps (f (J.S S0.k S0.g))
 |false=>.bad 8
def P9:bU→Bool
 | .dJ (.cs (.bool true)) true=>true
 |_=>false
def Qa:List bU→Bool
 |[]=>false
 |c::r=>P9 c||Qa r
def uL:List bU→List bU
 |[]=>[]
 |c::r=>match P9 c with
  |true=>uL r
  |false=>c::uL r
def ar.CN(S:ar):ar:={S with g:=.dJ (.cs (.bool true)) true::S.g}
def ar.zq(S:ar):ar:={S with g:=uL S.g}
def Je:List ar→Bool
 |[]=>true
 |S::r=>Qa S.g&&Je r
def kG(N:Nat)(S0:ar)(t:az)(f:ar→az):az:=
 match t.gv with
 |[]=>t
 |[_]=>t.ez f none
 |s::eh=>match Je (s::eh)with
  |true=>t.ez (fun S=>f S.zq) none
  |false=>uK S0 t (zp N S0.k s eh) (s::eh) f
def j3:List (ab × Bool)→ab→ab
 |[],v=>v
 |(g,b)::r,v=>.fk g b (j3 r v)
def Jf(d:Nat)(gs:List (ab × Bool)):List (Nat × ab)→List (Nat × ab)
 |[]=>[]
 |(i,x)::r=>match Nat.beq i d with
  |true=>(i,j3 gs x)::Jf d gs r
  |false=>(i,x)::Jf d gs r
def Jg(d:Nat)(v:ab):List ar→List ar
 |[]=>[]
 |S::r=>match CD (S.at d)with
  |true=>S.put (some d) v::Jg d v r
  |false=>S::Jg d v r
def Qb(d:Nat):List ar→ab
 |[]=>.top
 |S::r=>match CD (S.at d)with
  |true=>Qb d r
  |false=>S.at d
def Z3(N aR d:Nat)(gs:List (ab × Bool))(eh:List ar):fT:=
 match Jg d (Qb d eh) eh with
 |bh::Z4=>match zp N aR bh Z4 with
  |J=>⟨Jf d gs J.l,J.h,J.n,J.ps⟩
 |[]=>⟨[],[],0,[]⟩
def pP(N:Nat)(S0:ar)(dst:Option Nat)(gs:List (ab × Bool))(t:az)(f:ar→az):az:=
 match dst,gs,t.gv with
 |some d,_::_,s::s2::eh=>uK S0 t (Z3 N S0.k d gs (s::s2::eh)) (s::s2::eh) f
 |_,_,_=>kG N S0 t f
section
variable {M:List aW} {G:aY} {N B:Nat}
def ar.cw(S:ar)(e:Env):Prop:=∀c∈S.g,c.ok e
theorem Qc{J:fT}{aR:Nat}: ∀{eh:List ar},CJ J aR eh=true→∀S∈eh,iZ J aR S=true
 |_::r,h,S,hm=>by
  simp only[CJ,Bool.and_eq_true]at h
  rcases List.mem_cons.1 hm with rfl|q
  ·exact h.1
  ·exact Qc h.2 S q
theorem sx{k:Nat}: ∀{l:List (Nat × ab)},q9 k l=true→∀{i:Nat} {x:ab},(i,x)∈l→x.lt k=true
 |(j,y)::r,h,i,x,hm=>by
  simp only[q9,Bool.and_eq_true]at h
  rcases List.mem_cons.1 hm with q|q
  ·cases q;exact h.1
  ·exact sx h.2 q
theorem Qd{S0:ar}{t:az}{J:fT}{eh:List ar}{f:ar→az}{e:Env}(hn:t.gv=eh)(ad:S0.cv)(hf:S0.cw e)(ah:(uK S0 t J eh f).safe M e):
 t.safe M e∧(∀x aP ay,run M t e=some (x,aP,ay)→x≠ .b5→(∀n,x.bG n=false)→run M (uK S0 t J eh f) e=some (x,aP,ay))∧
 ∀aP ay,run M t e=some (.b5,aP,ay)→aP.cv→aP.cw ay→bX S0.k e ay→S0.k≤aP.k→
  ∃dO aV,cL (aP.den G N B ay) (dO.den G N B aV)∧dO.cv∧dO.cw aV∧bX S0.k e aV∧S0.k≤dO.k∧(f dO).safe M aV∧run M (uK S0 t J eh f) e=run M (f dO) aV:=by
 unfold uK at ah⊢
 split at ah
 ·rename_i hc
  simp only[Bool.and_eq_true]at hc;obtain⟨aA,⟨et,gQ⟩,lj⟩:=hc
  have kS:t.ib (fm (t.lvl+1)):=HW (Nat.lt_succ_self _)
  have pQ:=yZ (M:=M) kS e
  refine⟨(lK kS).1 ah.1,fun x aP ay h hx ai=>?_,fun aP ay h aa ae aq aT=>?_⟩
  ·rw[h]at pQ
   have pQ:run M _ e=some (fm (t.lvl+1) x,aP,ay):=pQ
   have hm:fm (t.lvl+1) x=x:=by
    cases x with
    |b5=>exact absurd rfl hx
    |_=>rfl
   rw[hm]at pQ;unfold run;rw[nb pQ (ai _)]
  ·rw[h]at pQ
   have pQ:run M _ e=some (.ld (t.lvl+1),aP,ay):=pQ
   have ai:bR.bG (t.lvl+1) (.ld (t.lvl+1))=true:=Nat.beq_refl _
   have Z5:=Pg ah pQ ai
   have hle:=CK (G:=G) (N:=N) (B:=B) aA ae (Qc lj aP (by have:=nh h;rw[hn]at this;exact this)) (g:=S0.g) aq
   have bF:bX S0.k e (fv e (fun r p=>⟨r,(p.c0 aP).get ay r⟩) J.ps):=fun i hi=>zo aA i hi
   refine⟨J.S S0.k S0.g,_,hle,⟨fun i x hx=>sx et (oQ hx),gQ,oJ (Nat.le_add_right _ _) ad.g⟩,ie bF ad.g hf,bF,Nat.le_add_right _ _,Z5,?_⟩
   show(az.dn _ _ _ _).fold M e _ none=_;rw[pI pQ ai];rfl
 ·exact ah.elim
theorem Jh: ∀{g:List bU} {c:bU},c∈uL g→c∈g
 |[],_,h=>h
 |d::r,c,h=>by
  unfold uL at h
  split at h
  ·exact List.mem_cons_of_mem _ (Jh h)
  ·rcases List.mem_cons.1 h with rfl|h
   ·exact List.mem_cons_self ..
   ·exact List.mem_cons_of_mem _ (Jh h)
theorem Ji{k:Nat}: ∀{g:List bU},eW k g=true→eW k (uL g)=true
 |[],_=>rfl
 |d::r,h=>by
  simp only[eW,Bool.and_eq_true]at h;unfold uL
  split
  ·exact Ji h.2
  ·simp only[eW,Bool.and_eq_true];exact⟨h.1,Ji h.2⟩
theorem Z6{S:ar}(h:S.cv):S.zq.cv:=⟨h.l,h.h,Ji h.g⟩
theorem Z7{S:ar}{e:Env}(h:S.cw e):S.zq.cw e:=fun c hc=>h c (Jh hc)
theorem Qe{S:ar}(h:S.cv):S.CN.cv:=⟨h.l,h.h,by show(true&&eW S.k S.g)=true;rw[Bool.true_and];exact h.g⟩
theorem Qf{S:ar}{e:Env}(h:S.cw e):S.CN.cw e:=fun c hc=>by
 rcases List.mem_cons.1 hc with rfl|hc
 ·rfl
 ·exact h c hc
theorem CO{S0:ar}{t:az}{f:ar→az}{e:Env}(ad:S0.cv)(hf:S0.cw e)(ah:(kG N S0 t f).safe M e):
 t.safe M e∧(∀x aP ay,run M t e=some (x,aP,ay)→x≠ .b5→(∀n,x.bG n=false)→run M (kG N S0 t f) e=some (x,aP,ay))∧
 ∀aP ay,run M t e=some (.b5,aP,ay)→aP.cv→aP.cw ay→bX S0.k e ay→S0.k≤aP.k→
  ∃dO aV,cL (aP.den G N B ay) (dO.den G N B aV)∧dO.cv∧dO.cw aV∧bX S0.k e aV∧S0.k≤dO.k∧(f dO).safe M aV∧run M (kG N S0 t f) e=run M (f dO) aV:=by
 have e1:=ah
 unfold kG at ah
 split at ah
 ·rename_i hn
  have gS:kG N S0 t f=t:=by unfold kG;rw[hn]
  rw[gS];refine⟨ah,fun x aP ay h _ _=>h,fun aP ay h=>?_⟩
  have:=nh h
  rw[hn]at this
  cases this
 ·rename_i hn
  have gS:kG N S0 t f=t.ez f none:=by unfold kG;rw[hn]
  rw[gS];obtain⟨g1,g2,g3⟩:=jt t none ah;refine⟨g1,fun x aP ay h hx _=>by rw[g2,h,y0 hx],fun aP ay h aa ae aq aT=>?_⟩
  exact⟨aP,ay,cL.refl _,aa,ae,aq,aT,(g3 aP ay h).1,by rw[g2,h];rfl⟩
 ·rename_i s eh cf Qg
  have gS:kG N S0 t f=match Je (s::eh)with
   |true=>t.ez (fun S=>f S.zq) none
   |false=>uK S0 t (zp N S0.k s eh) (s::eh) f:=by
   unfold kG;rw[Qg]
   cases eh with
   |nil=>exact absurd rfl cf
   |cons q r=>rfl
  rw[gS]
  split at ah
  ·obtain⟨g1,g2,g3⟩:=jt t none ah
   refine⟨g1,fun x aP ay h hx _=>by rw[g2,h,y0 hx],fun aP ay h aa ae aq aT=>?_⟩
   exact⟨aP.zq,ay,cL.refl _,Z6 aa,Z7 ae,aq,aT,(g3 aP ay h).1,by rw[g2,h];rfl⟩
  ·exact Qd Qg ad hf ah
theorem Jj{S0:ar}{dst:Option Nat}{gs:List (ab × Bool)}{t:az}{f:ar→az}{e:Env}(ad:S0.cv)(hf:S0.cw e)(ah:(pP N S0 dst gs t f).safe M e):
 t.safe M e∧(∀x aP ay,run M t e=some (x,aP,ay)→x≠ .b5→(∀n,x.bG n=false)→run M (pP N S0 dst gs t f) e=some (x,aP,ay))∧
 ∀aP ay,run M t e=some (.b5,aP,ay)→aP.cv→aP.cw ay→bX S0.k e ay→S0.k≤aP.k→
  ∃dO aV,cL (aP.den G N B ay) (dO.den G N B aV)∧dO.cv∧dO.cw aV∧bX S0.k e aV∧S0.k≤dO.k∧(f dO).safe M aV∧run M (pP N S0 dst gs t f) e=run M (f dO) aV:=by
 unfold pP at ah⊢
 split at ah
 ·rename_i hn
  exact Qd hn ad hf ah
 ·exact CO ad hf ah
end
end Go.aL
namespace Go.aL
open Go
def wO(k:Nat):bQ→List bU
 | .f1 .nL x=>[.d1 k .nL x]
 | .f1 (.iA c) x=>[.d1 k (.iA c) x]
 | .f1 .mZ x=>[.d1 k .mZ x]
 | .f2 (.iU .add .i64 .i64) x y=>[.d2 k (.iU .add .i64 .i64) x y]
 | .f2 (.oE .lss .i64) x y=>[.d2 k (.oE .lss .i64) x y]
 |_=>[]
def wP(k:Nat):List bQ→List bU→List bU
 |[],g=>g
 |x::r,g=>wP (k+1) r (wO k x++g)
def ar.eG(S:ar)(k:Nat)(xs:List bQ):ar:={S with k:=k+xs.length,g:=wP k xs S.g}
inductive CP where
 |yes
 |no
 |on (gs:List (ab × Bool))
 |bad
def uM(l:List bU)(b:Bool):ab→CP
 | .cs (.bool c)=>match decide (c=b)with
  |true=>.yes
  |false=>.no
 | .tp _=>.no
 | .fk h c v=>match h.rt with
  |some .bool=>match uM l b v with
   | .yes=>.on [(h,c)]
   | .no=>.no
   | .on gs=>.on ((h,c)::gs)
   | .bad=>.bad
  |_=>.bad
 |g=>match g.rt,lf g l with
  |some .bool,some c=>match decide (c=b)with
   |true=>.yes
   |false=>.no
  |some .bool,none=>.on [(g,b)]
  |_,_=>.bad
def guardOf(N:Nat)(ops:Array Oper)(S:ar)(o:Oper):CP:=
 match o.guard with
 |none=>.yes
 |some (j,b)=>match l5 ops j with
  |some d=>match Nat.blt d N with
   |true=>uM S.g b ((S.at d).res S.g)
   |false=>.bad
  |none=>.bad
def gT:List (ab × Bool)→List bU→List bU
 |[],l=>l
 |(g,b)::r,l=>.dJ g b::gT r l
def pR:List (ab × Bool)→fE→fE
 |[],n=>n
 |(g,b)::r,n=>.Pe g b (pR r n)
def lO(k:Nat):List (ab × Bool)→Bool
 |[]=>true
 |(g,_)::r=>g.lt k&&lO k r
def fq(e:Env):List (ab × Bool)→Bool
 |[]=>true
 |(g,b)::r=>(g.aH e .bool==b)&&fq e r
def Jk(P:Program)(B:Nat)(S:ar)(t:TypeId)(x:ab):Option du:=
 match x.rt,isStr P t&&Nat.ble B S.n with
 |some .str,true=>some ⟨[],[],none,(S.n,.it x (.cs (.int .i64 0)))::S.h,S.n+1,.iS S.n⟩
 |_,_=>none
def CQ(P:Program)(N B:Nat)(T:List (Nat × bN))(S:ar)(o:Oper):Option du:=
 match o.op with
 | .alloc t=>IE P B S t
 | .box t x=>IF B S t (S.aX N x)
 | .store t p x=>IG P S t (S.aX N p) (S.aX N x)
 | .buildSlice t len ps=>match IN P N B T S t len ps.toList with
  |some r=>some r
  |none=>match IM P N T S t len ps.toList with
   |some r=>some r
   |none=>IP P N B S t len ps.toList
 | .makeSlice t x y=>IQ P B T S t (S.aX N x) (S.aX N y)
 | .range t x=>Jk P B S t (S.aX N x)
 | .call c=>match c.callee,c.args.toList,c.argTypes.toList with
  | .builtin .append,[x,y],[t,bs]=>match Nat.beq t bs with
   |true=>IU P B S t (S.aX N x) (S.aX N y)
   |false=>IV P B S t bs (S.aX N x) (S.aX N y)
  |_,_,_=>none
 |_=>none
structure pS where
 xs:List bQ
 g:ab
 h:List (Nat × bC)
 v:ab
 bu:ab
def Qh(S:ar)(x:ab):Option pS:=
 match x with
 | .iS id=>match dm S.h id with
  |some (.it s p)=>match s.rt,p.rt with
   |some .str,some (.int .i64)=>some ⟨[.f2 .jh s p,.f2 .km s p,.f2 .ji s p,.f2 .hY s p],.bg .bool S.k,kD S.h id (.it s (.bg (.int .i64) (S.k+3))),
    .tp [.cs (.bool true),.bg (.int .i64) (S.k+1),.bg (.int .i32) (S.k+2)],.tp [.cs (.bool false)]⟩
   |_,_=>none
  |_=>none
 |_=>none
def Jl(N:Nat)(S:ar)(o:Oper):Option pS:=
 match o.op with
 | .next x true=>Qh S (S.aX N x)
 |_=>none
def pS.ok(q:pS)(S:ar):Bool:=(gR S.k q.xs&&q.g.lt (S.k+q.xs.length))&&(eF (S.k+q.xs.length) q.h&&(q.v.lt (S.k+q.xs.length)&&q.bu.lt (S.k+q.xs.length)))
def pS.st(q:pS)(S:ar)(dst:Option Nat):ar:=(ar.put {S.eG S.k q.xs with h:=q.h,g:=.dJ q.g true::(S.eG S.k q.xs).g} dst q.v).CN
def pS.wQ(q:pS)(S:ar)(dst:Option Nat):ar:=(ar.put {S.eG S.k q.xs with g:=.dJ q.g false::(S.eG S.k q.xs).g} dst q.bu).CN
def bC.kind:bC→bC→Bool
 | .c8 _ _,.c8 _ _=>true
 | .rw _ c _,.rw _ d _=>Nat.beq (c5 c) (c5 d)
 | .it _ _,.it _ _=>true
 |_,_=>false
def zr(n:Nat)(aS:List (Nat × bC)):List (Nat × bC)→Bool
 |[]=>true
 |(id,o)::r=>(match Nat.blt id n with
  |true=>match dm aS id with
   |some cl=>bC.kind cl o
   |none=>false
  |false=>true)&&zr n aS r
mutual
def ab.ra(n:Nat):ab→Bool
 | .cD l=>ab.sy n l
 | .tp l=>ab.sy n l
 | .dz k _=>Nat.blt k n
 | .gu k _ _=>Nat.blt k n
 | .gB k _ _ _=>Nat.blt k n
 | .aN k=>Nat.blt k n
 | .cx k _=>Nat.blt k n
 | .eV _ (some k) _=>Nat.blt k n
 | .fn _ a b=>ab.sy n a&&ab.sy n b
 | .iS k=>Nat.blt k n
 | .fk _ _ x=>ab.ra n x
 |_=>true
def ab.sy(n:Nat):List ab→Bool
 |[]=>true
 |x::r=>ab.ra n x&&ab.sy n r
end
def nR(n:Nat):List (Nat × bC)→Bool
 |[]=>true
 |(id,.c8 _ l)::r=>Nat.blt id n&&(ab.sy n l&&nR n r)
 |(id,.rw _ _ _)::r=>Nat.blt id n&&nR n r
 |(id,.it _ _)::r=>Nat.blt id n&&nR n r
def ar.back(S:ar)(dst:Option Nat)(C:ar):ar:=(⟨S.l,C.h,C.n,C.k,C.g⟩:ar).put dst (C.at 0)
def CR(S C:ar):Bool:=(ab.ra C.n (C.at 0)&&nR C.n C.h)&&(Nat.ble S.n C.n&&zr S.n S.h C.h)
def zt(S:ar)(dst:Option Nat)(C:ar):az:=
 match CR S C with
 |true=>.cr .b5 (S.back dst C)
 |false=>.bad 34
def Jm(C:ar):List ab→List ab→Nat→Option (Nat × Nat × Nat)
 | .aN k::r,.aN m::er,off=>match Nat.beq k m,dm C.h k,dm C.h m with
  |false,none,some (.rw _ _ _)=>some (off,k,m)
  |_,_,_=>Jm C r er (off+1)
 |_::r,_::er,off=>Jm C r er (off+1)
 |_,_,_=>none
def CS(C:ar):List (Nat × bC)→Option (Nat × Nat × Nat × Nat)
 |[]=>none
 |(id,.c8 _ Z8)::r=>match dm C.h id with
  |some (.c8 _ l)=>match Jm C Z8 l 0 with
   |some (off,k,m)=>some (id,off,k,m)
   |none=>CS C r
  |_=>CS C r
 |_::r=>CS C r
def Qi(m:Nat):Option ab→Bool
 |some (.aN j)=>Nat.beq j m
 |_=>false
def wR(B id off k m:Nat)(C:ar):ar:=
 match dm C.h id,dm C.h m with
 |some (.c8 t l),some (.rw jw c x)=>match Qi m (l[off]?)&&((Nat.ble B k&&Nat.blt k C.n)&& !(Nat.beq id k))with
  |true=>⟨(C.l.map (ab.kill m)).map (ab.kill k),kD ((k,.rw jw c x)::iX k (iX m C.h)) id (.c8 t ((ab.eg k (ab.eg m l)).set off (.aN k))),C.n,C.k,C.g⟩
  |false=>C
 |_,_=>C
def uN(B:Nat)(S C:ar):ar:=
 match CS C S.h with
 |some (id,off,k,m)=>wR B id off k m C
 |none=>C
def CT(N:Nat)(S:ar)(o:Oper):Option (Nat × List ab):=
 match o.op with
 | .call c=>match c.callee with
  | .value x=>match S.aX N x with
   | .fn (.func f) p q=>some (f,p++c.args.toList.map (S.aX N)++q)
   |_=>none
  |_=>none
 |_=>none
def zu(f:eQ)(x:ab):List bU→Option Nat
 |[]=>none
 | .d1 j g y::r=>match decide (g=f)&&fx y x with
  |true=>some j
  |false=>zu f x r
 |_::r=>zu f x r
def Jn(S:ar)(r:dK):Option (aU × Nat):=
 match r.xs,r.ns,r.v with
 |[.f1 f x],[],.bg t k=>match Nat.beq k S.k with
  |true=>match zu f x S.g with
   |some j=>match Nat.blt j S.k with
    |true=>some (t,j)
    |false=>none
   |none=>none
  |false=>none
 |_,_,_=>none
def Qj(f:b4)(a b:Int):Option ab:=
 match f with
 | .iU .add .i64 .i64=>some (.cs (.int .i64 (aZ .add .i64 a b)))
 | .iU .sub .i64 .i64=>some (.cs (.int .i64 (aZ .sub .i64 a b)))
 | .iU .mul .i64 .i64=>some (.cs (.int .i64 (aZ .mul .i64 a b)))
 | .oE op .i64=>some (.cs (.bool (yW op a b)))
 |_=>none
def Jo(S:ar)(r:dK):Option ab:=
 match r.xs,r.ns,r.v with
 |[.f2 f (.cs (.int .i64 a)) (.cs (.int .i64 b))],[],.bg t k=>match Nat.beq k S.k&&jr t f.c with
  |true=>Qj f a b
  |false=>none
 |_,_,_=>none
def Jp(o:Oper):Nat:=
 match o.op with
 | .pick _ _ _=>1
 | .alloc _=>2
 | .box _ _=>3
 | .build _ _=>4
 | .buildSlice _ _ _=>5
 | .insert _ _ _ _=>6
 | .load _ _=>7
 | .store _ _ _=>8
 | .nilCheck _=>9
 | .binOp _ _ _ _ _=>10
 | .unOp _ _ _=>11
 | .convert _ _ _=>12
 | .makeInterface _ _=>13
 | .makeFunc _ _ _=>14
 | .makeMap _ _=>15
 | .makeSlice _ _ _=>16
 | .slice _ _ _ _ _=>17
 | .fieldAddr _ _ _=>18
 | .field _ _ _=>19
 | .indexAddr _ _ _=>20
 | .index _ _ _=>21
 | .lookup _ _ _ _=>22
 | .mapUpdate _ _ _ _=>23
 | .call c=>match c.callee with
  | .builtin .append=>30
  | .builtin .len=>31
  | .builtin .copy=>32
  | .builtin _=>33
  | .value _=>34
  |_=>35
 | .range _ _=>40
 | .next _ _=>41
 | .extract _ _=>42
 |_=>50
def exec(P:Program)(N B:Nat)(T:List (Nat × bN))(inl:Nat→List ab→ar→az)(o:Oper)(S:ar)(k:ar→az):az:=
 match pN P N S o with
 |some r=>match gR S.k r.xs&&r.v.lt (S.k+r.xs.length)with
  |true=>match Jn S r with
   |some (t,j)=>k (S.put o.dst (.bg t j))
   |none=>match Jo S r with
    |some v=>k (S.put o.dst v)
    |none=>emit S.k r.xs r.ns (k ((S.eG S.k r.xs).put o.dst r.v))
  |false=>.bad 30
 |none=>match CQ P N B T S o with
  |some r=>match gR S.k r.xs&&(r.v.lt (S.k+r.xs.length)&&eF (S.k+r.xs.length) r.h)with
   |true=>emit S.k r.xs r.ns (k ((r.st S o.dst).eG S.k r.xs))
   |false=>.bad 31
  |none=>match Jl N S o with
   |some q=>match q.ok S with
    |true=>emit S.k q.xs [] (.it q.g (k (q.st S o.dst)) (k (q.wQ S o.dst)))
    |false=>.bad 33
   |none=>match CT N S o with
    |some (f,as)=>match mT P f with
     |true=>kG N S ((inl f as S).ez (zt S o.dst) none) fun C=>k (uN B S C)
     |false=>.bad 32
    |none=>.bad (100+Jp o)
def CU(g:ab)(b:Bool)(x y:az):az:=
 match b with
 |true=>.it g x y
 |false=>.it g y x
def sz(y:List bU→az):List (ab × Bool)→az→List bU→az
 |[],x,_=>x
 |(g,b)::r,x,l=>CU g b (sz y r x (.dJ g b::l)) (y (.dJ g (!b)::l))
def rb(S:ar)(dst:Option Nat)(l:List bU):az:=.cr .b5 (ar.put {S with g:=l} dst (.tp []))
def ja(P:Program)(N B:Nat)(T:List (Nat × bN))(inl:Nat→List ab→ar→az)(ops:Array Oper):List Oper→ar→az
 |[],S=>.cr .b5 S
 |o::r,S=>match guardOf N ops S o with
  | .yes=>exec P N B T inl o S (ja P N B T inl ops r)
  | .no=>ja P N B T inl ops r (S.put o.dst (.tp []))
  | .on gs=>match lO S.k gs with
   |true=>match pN P N {S with g:=gT gs S.g} o with
    |some q=>match gR S.k q.xs&&q.v.lt (S.k+q.xs.length)with
     |true=>emit S.k q.xs (q.ns.map (pR gs)) (ja P N B T inl ops r ((S.eG S.k q.xs).put o.dst (j3 gs q.v)))
     |false=>.bad 35
    |none=>pP N S o.dst gs (sz (rb S o.dst) gs (exec P N B T inl o {S with g:=gT gs S.g} (.cr .b5)) S.g) (ja P N B T inl ops r)
   |false=>.bad 36
  | .bad=>.bad 37
section
variable {P:Program} {G:aY} {N B:Nat} {M:List aW} {T:List (Nat × bN)} {inl:Nat→List ab→ar→az}
theorem Z9{S:ar}{o:Oper}{t:TypeId}{x:Operand}{r:du}(an:o.op= .range t x)(h:Jk P B S t (S.aX N x)=some r):oO P G N B M o S r:=fun e hf hx hn=>by
 unfold Jk at h
 split at h
 ·rename_i Iy hc
  cases h;simp only[Bool.and_eq_true]at hc
  have sA:aI G (S.den G N B e) x= .au (.v (.string ((S.aX N x).aH e .str))):=by rw[bI hf];exact gG Iy
  have:=XG (P:=P) (G:=G) (s:=S.den G N B e) t x an (uc hc.1) sA (Nat.le_of_ble_eq_true hc.2)
  unfold du.st;rw[fw];exact this
 ·cases h
theorem zaa{S:ar}{o:Oper}{q:pS}{e:Env}(h:Jl N S o=some q)(hf:S.cw e)(hx: ∀(j:Nat) (x:bQ),q.xs[j]? =some x→Env.at e (S.k+j)=x.den M e):
 (q.g.aH e .bool=true→ee P G o (S.den G N B e) ((ar.put {S with h:=q.h} o.dst q.v).den G N B e))∧(q.g.aH e .bool=false→ee P G o (S.den G N B e) ((S.put o.dst q.bu).den G N B e)):=by
 unfold Jl at h
 split at h
 ·rename_i x an
  unfold Qh at h
  split at h
  ·rename_i id av
   split at h
   ·rename_i s p ag
    split at h
    ·rename_i aa ae
     cases h
     have sA:aI G (S.den G N B e) x= .ref id:=by rw[bI hf,av];rfl
     have hid:aE (S.den G N B e).heap id=some (.bY (pz (s.aH e .str) (Int.toNat (p.aH e (.int .i64))))):=by
      show aE (cK G e S.h) id=_;rw[eN,ag];rfl
     have x0:=hx 0 _ rfl
     have cj:=hx 1 _ rfl
     have kr:=hx 2 _ rfl
     have Qk:=hx 3 _ rfl
     simp only[bQ.den,b4.den,Nat.add_zero]at x0 cj kr Qk
     have ss:(ab.bg .bool S.k).aH e .bool=decide (Int.toNat (p.aH e (.int .i64))<ByteArray.size (s.aH e .str)):=by
      simp only[ab.aH,ab.fG,ab.dyn,x0,cQ]
     refine⟨fun aG=>?_,fun aG=>?_⟩
     ·rw[ss]at aG
      have:=XI (P:=P) (G:=G) (s:=S.den G N B e) x an sA hid (of_decide_eq_true aG) (c:=(Utf8.decode (s.aH e .str) (Int.toNat (p.aH e (.int .i64)))).1) (k:=(Utf8.decode (s.aH e .str) (Int.toNat (p.aH e (.int .i64)))).2) rfl
      rw[fw]
      have a8:(({S with h:=kD S.h id (.it s (.bg (.int .i64) (S.k+3)))}:ar).den G N B e)={S.den G N B e with heap:=eU (S.den G N B e).heap id (.bY (pz (s.aH e .str) (Int.toNat (p.aH e (.int .i64))+(Utf8.decode (s.aH e .str) (Int.toNat (p.aH e (.int .i64)))).2)))}:=by
       simp only[ar.den,ux,bC.den]
       congr 3
       simp only[ab.aH,ab.fG,ab.dyn,Qk,cQ];rfl
      rw[a8]
      have zab:(ab.tp [.cs (.bool true),.bg (.int .i64) (S.k+1),.bg (.int .i32) (S.k+2)]).den G e= .tuple [.au (.v (.bool true)),.au (.v (.int .i64 ((Int.toNat (p.aH e (.int .i64)):Nat):Int))),.au (.v (.int .i32 (((Utf8.decode (s.aH e .str) (Int.toNat (p.aH e (.int .i64)))).1:Nat):Int)))]:=by
       simp only[ab.den,ab.bP,cj,kr,cQ,fM,lH]
      rw[zab];exact this
     ·rw[ss]at aG
      have:=XH (P:=P) (G:=G) (s:=S.den G N B e) x an sA hid (Nat.le_of_not_lt (of_decide_eq_false aG))
      rw[fw];exact this.step
    ·cases h
   ·cases h
  ·cases h
 ·cases h
theorem Ql{S:ar}{o:Oper}{r:du}(h:CQ P N B T S o=some r):oO P G N B M o S r:=by
 unfold CQ at h
 split at h
 ·exact Zy (by assumption) h
 ·exact Zz (by assumption) h
 ·exact ZB (by assumption) h
 ·split at h
  ·rename_i aJ
   cases h;exact ZQ (by assumption) aJ
  ·split at h
   ·rename_i aJ
    cases h;exact ZO (by assumption) aJ
   ·exact ZR (by assumption) h
 ·exact ZT (by assumption) h
 ·exact Z9 (by assumption) h
 ·rename_i c an
  split at h
  ·rename_i x y t bs hc hx aG
   split at h
   ·rename_i ad
    have:=Nat.eq_of_beq_eq_true ad
    subst this;obtain⟨callee,args,ts⟩:=c;simp only at hc hx aG;rw[hc,yN hx,yN aG]at an;exact ZW an h
   ·obtain⟨callee,args,ts⟩:=c
    simp only at hc hx aG;rw[hc,yN hx,yN aG]at an;exact ZX an h
  ·cases h
 ·cases h
theorem sB{g:ab}{a b:az}{e:Env}{v:Bool}(h:g.aH e .bool=v):run M (.it g a b) e=match v with|true=>run M a e|false=>run M b e:=by
 simp only[run,az.fold,h]
 cases v<;>rfl
def zv:bR→Exit→Prop
 | .b5,.normal=>True
 | .ext n,.exit m=>n=m
 | .ret,.ret=>True
 |_,_=>False
def jb(G:aY)(N B:Nat)(M:List aW)(t:az)(e:Env)(aR:Nat):Exit→aM→Prop:=fun ex st=>
 ∃x di aw,run M t e=some (x,di,aw)∧zv x ex∧cL st (di.den G N B aw)∧di.cv∧di.cw aw∧bX aR e aw∧aR≤di.k
theorem jb.sub{t bs:az}{e aw:Env}{k bo:Nat}{ex:Exit}{st:aM}(h:jb G N B M bs aw bo ex st)(af:run M t e=run M bs aw)(aK:bX k e aw)(aj:k≤bo):jb G N B M t e k ex st:=by
 obtain⟨x,di,aV,aa,ae,aq,aT,bD,cA,dx⟩:=h
 exact⟨x,di,aV,af.trans aa,ae,aq,aT,bD,bX.trans aK cA aj,Nat.le_trans aj dx⟩
theorem Qm{x:bR}{ex:Exit}(h:zv x ex)(n:Nat):x.bG n=false:=by
 cases x with
 |ld m=>cases ex<;>cases h
 |_=>rfl
def gI(P:Program)(G:aY)(M:List aW)(inl:Nat→List ab→ar→az):Prop:=
 ∀f as (S:ar) e,S.cv→ab.cB S.k as=true→S.cw e→(inl f as S).safe M e→
  dI P G f (ab.bP G e as) (cK G e S.h) S.n fun r bO=>∃C aw,run M (inl f as S) e=some (.b5,C,aw)∧r=(C.at 0).den G aw∧bO=cK G aw C.h∧C.cv∧C.cw aw∧bX S.k e aw∧S.k≤C.k
theorem zac{e:Env}{k:Nat}{x:bQ}(h:Env.at e k=x.den M e): ∀c∈wO k x,c.ok e:=fun c hc=>by
 unfold wO at hc
 split at hc
 ·rw[List.mem_singleton]at hc;subst hc;exact h
 ·rw[List.mem_singleton]at hc;subst hc;exact h
 ·rw[List.mem_singleton]at hc;subst hc;exact h
 ·rw[List.mem_singleton]at hc;subst hc;exact h
 ·rw[List.mem_singleton]at hc;subst hc;exact h
 ·cases hc
theorem zad{k:Nat}{x:bQ}(h:x.lt k=true):eW (k+1) (wO k x)=true:=by
 have ad:Nat.blt k (k+1)=true:=jG (Nat.lt_succ_self k)
 unfold wO
 split
 ·simp only[eW,bU.lt,ad,gh (Nat.le_succ k) (x:=_) h,Bool.and_self]
 ·simp only[eW,bU.lt,ad,gh (Nat.le_succ k) (x:=_) h,Bool.and_self]
 ·simp only[eW,bU.lt,ad,gh (Nat.le_succ k) (x:=_) h,Bool.and_self]
 ·simp only[bQ.lt,Bool.and_eq_true]at h
  simp only[eW,bU.lt,ad,gh (Nat.le_succ k) h.1,gh (Nat.le_succ k) h.2,Bool.and_self]
 ·simp only[bQ.lt,Bool.and_eq_true]at h
  simp only[eW,bU.lt,ad,gh (Nat.le_succ k) h.1,gh (Nat.le_succ k) h.2,Bool.and_self]
 ·rfl
theorem Qn{k:Nat}: ∀{a b:List bU},eW k a=true→eW k b=true→eW k (a++b)=true
 |[],_,_,h=>h
 |c::a,b,h,h'=>by
  simp only[eW,Bool.and_eq_true]at h;simp only[List.cons_append,eW,h.1,Qn h.2 h',Bool.and_self]
theorem Qo{e:Env}: ∀{xs:List bQ} {k:Nat} {g:List bU},(∀c∈g,c.ok e)→(∀(j:Nat) (x:bQ),xs[j]? =some x→Env.at e (k+j)=x.den M e)→∀c∈wP k xs g,c.ok e
 |[],_,_,h,_=>h
 |x::r,k,g,h,hx=>by
  refine Qo (xs:=r) (k:=k+1) (fun c hc=>?_) fun j y ax=>?_
  ·rcases List.mem_append.1 hc with hc|hc
   ·exact zac (hx 0 x (by simp)) c hc
   ·exact h c hc
  ·have:=hx (j+1) y (by simpa using ax)
   rw[show k+1+j=k+(j+1)by omega];exact this
theorem Qp: ∀{xs:List bQ} {k:Nat} {g:List bU},gR k xs=true→eW k g=true→eW (k+xs.length) (wP k xs g)=true
 |[],_,_,_,h=>h
 |x::r,k,g,ao,h=>by
  simp only[gR,Bool.and_eq_true]at ao
  have:=Qp (xs:=r) (k:=k+1) (g:=wO k x++g) ao.2 (Qn (zad ao.1) (oJ (Nat.le_succ k) h))
  rw[List.length_cons,show k+(r.length+1)=k+1+r.length by omega]
  exact this
theorem re{S:ar}{e:Env}{xs:List bQ}(ad:S.cv)(hf:S.cw e)(ao:gR S.k xs=true):
 (S.eG S.k xs).cv∧(S.eG S.k xs).cw (c1 M e S.k xs)∧(S.eG S.k xs).den G N B (c1 M e S.k xs)=S.den G N B e:=by
 have aK:bX S.k e (c1 M e S.k xs):=jx (Nat.le_refl _)
 refine⟨⟨fun i x hx=>gh (Nat.le_add_right _ _) (ad.l i x hx),uy (Nat.le_add_right _ _) ad.h,Qp ao ad.g⟩,Qo (ie aK ad.g hf) (iY ao),?_⟩
 exact(lg aK ad:S.den G N B (c1 M e S.k xs)=S.den G N B e)
theorem j4{S:ar}{dst:Option Nat}{v:ab}(ad:S.cv)(av:v.lt S.k=true):(S.put dst v).cv:=by
 cases dst with
 |none=>exact ad
 |some d=>
  refine⟨fun i x hx=>?_,ad.h,ad.g⟩
  simp only[ar.put,a1.jV]at hx
  split at hx
  ·cases hx;exact av
  ·exact ad.l i x hx
theorem zw{e:Env}{f:eQ}{x:ab}{j:Nat}: ∀{l:List bU},zu f x l=some j→(∀c∈l,c.ok e)→Env.at e j=⟨f.c,f.den (x.aH e f.a)⟩
 | .d1 i g y::r,h,hc=>by
  simp only[zu]at h
  split at h
  ·rename_i ad
   cases h;simp only[Bool.and_eq_true,decide_eq_true_eq]at ad
   have:=hc (.d1 j g y) (by simp)
   simp only[bU.ok]at this;rw[this,ad.1,fN ad.2]
  ·exact zw h fun c hm=>hc c (by simp[hm])
 | .d2 _ _ _ _::r,h,hc=>zw (l:=r) h fun c hm=>hc c (by simp[hm])
 | .rg _ _::r,h,hc=>zw (l:=r) h fun c hm=>hc c (by simp[hm])
 | .dJ _ _::r,h,hc=>zw (l:=r) h fun c hm=>hc c (by simp[hm])
theorem zae{S:ar}{r:dK}{t:aU}{j:Nat}{e:Env}(h:Jn S r=some (t,j))(hf:S.cw e)(ao:gR S.k r.xs=true):(ab.bg t j).den G e=r.v.den G (c1 M e S.k r.xs)∧Nat.blt j S.k=true∧r.ns=[]:=by
 unfold Jn at h
 split at h
 ·rename_i f x bs k hx hn av
  split at h
  ·rename_i aj
   split at h
   ·rename_i zc1 ai
    split at h
    ·rename_i bA
     cases h;refine⟨?_,bA,hn⟩
     have aa:=zw ai hf
     have ae:=iY (M:=M) (e:=e) ao 0 (.f1 f x) (by rw[hx];rfl)
     rw[Nat.add_zero]at ae;rw[av,Nat.eq_of_beq_eq_true aj];simp only[ab.den];rw[aa,ae]
     have zaf:x.lt S.k=true:=by
      rw[hx]at ao;simp only[gR,bQ.lt,Bool.and_eq_true]at ao;exact ao.1
     simp only[bQ.den];rw[fl (jx (Nat.le_refl _)) zaf]
    ·cases h
   ·cases h
  ·cases h
 ·cases h
theorem zag{S:ar}{r:dK}{v:ab}{e:Env}(h:Jo S r=some v)(ao:gR S.k r.xs=true):v.den G e=r.v.den G (c1 M e S.k r.xs)∧v.lt S.k=true∧r.ns=[]:=by
 unfold Jo at h
 split at h
 ·rename_i f a b t k hx hn av
  split at h
  ·rename_i aj
   simp only[Bool.and_eq_true]at aj
   have ae:=iY (M:=M) (e:=e) ao 0 _ (by rw[hx];rfl)
   rw[Nat.add_zero]at ae;rw[av,Nat.eq_of_beq_eq_true aj.1,iz aj.2];unfold Qj at h
   split at h<;>first|cases h|skip
   all_goals
    refine⟨?_,rfl,hn⟩
    simp only[ab.den,ae,bQ.den,cQ,ab.aH,ab.fG,ab.dyn,b4.den];rfl
  ·cases h
 ·cases h
theorem j5{S:ar}{dst:Option Nat}{v:ab}{e:Env}(hf:S.cw e):(S.put dst v).cw e:=by
 cases dst<;>exact hf
theorem j6{S:ar}{dst:Option Nat}{v:ab}:(S.put dst v).k=S.k:=by cases dst<;>rfl
end
end Go.aL
namespace Go.aL
open Go
section
variable {P:Program} {G:aY} {N B:Nat} {M:List aW} {T:List (Nat × bN)} {inl:Nat→List ab→ar→az}
theorem cm.zah{ops:Array Oper}{o:Oper}{rest:List Oper}{s:aM}{Q:Exit→aM→Prop}{A:aM→Prop}(ag:dT ops s o=some true)
 (h: ∀(E:Entry) (a:Act) (w:World),Rel E G s a w→∀(K:Act→World→Prop) (Q:Exit→Act→World→Prop),(∀t,A t→∀a6 w',Rel E G t a6 w'→K a6 w')→o.wp P a w K Q)(k: ∀t,A t→cm P G ops Q rest t):cm P G ops Q (o::rest) s:=
 fun E a w af=>wpList_step fun _ hK=>by
  have ax:=nJ af ag
  simp only[ax,if_true];exact h E a w af _ _ fun t aG a6 w' dS=>hK a6 w' (k t aG E a6 w' dS)
mutual
theorem CV{n:Nat}{e:Env}: ∀{x:ab},ab.ra n x=true→gd n (x.den G e)=true:=fun {x} h=>by
 cases x with
 |cD l=>simp only[ab.den,gd];exact wS (l:=l) h
 |tp l=>simp only[ab.den,gd];exact wS (l:=l) h
 |fn f a b=>
  simp only[ab.ra,Bool.and_eq_true]at h;simp only[ab.den,gd,wS h.1,wS h.2,Bool.and_self]
 |dz k o=>simp only[ab.den,gd];exact decide_eq_true (eT h)
 |gu k x o=>simp only[ab.den,gd];exact decide_eq_true (eT (i:=k) h)
 |gB k o x n=>simp only[ab.den,gd];exact decide_eq_true (eT (i:=k) h)
 |cx k n=>simp only[ab.den,gd];exact decide_eq_true (eT (i:=k) h)
 |eV g i o=>
  cases i with
  |none=>simp only[ab.den];cases g.aH e .bool<;>rfl
  |some k=>
   have aa:decide (k<n)=true:=decide_eq_true (eT (i:=k) h)
   simp only[ab.den];cases g.aH e .bool
   ·rfl
   ·exact aa
 |aN k=>simp only[ab.den,gd];exact decide_eq_true (eT h)
 |iS k=>simp only[ab.den,gd];exact decide_eq_true (eT h)
 |fk g b x=>
  have:gd n (x.den G e)=true:=CV h
  simp only[ab.den]
  cases g.aH e .bool<;>cases b<;>first|exact this|rfl
 |lJ g o=>simp only[ab.den];cases G g<;>rfl
 |_=>rfl
theorem wS{n:Nat}{e:Env}: ∀{l:List ab},ab.sy n l=true→k4 n (ab.bP G e l)=true:=fun {l} h=>by
 match l with
 |[]=>rfl
 |x::r=>
  simp only[ab.sy,Bool.and_eq_true]at h;simp only[ab.bP,k4,CV h.1,wS h.2,Bool.and_self]
end
theorem wT{n:Nat}{e:Env}: ∀{h:List (Nat × bC)},nR n h=true→k5 n (cK G e h)=true
 |[],_=>rfl
 |(id,.c8 t l)::r,h=>by
  simp only[nR,Bool.and_eq_true]at h;simp only[cK,bC.den,k5,wT h.2.2,wS h.2.1,decide_eq_true (eT h.1),Bool.and_self]
 |(id,.rw t c x)::r,h=>by
  simp only[nR,Bool.and_eq_true]at h;simp only[cK,bC.den,k5,wT h.2,decide_eq_true (eT h.1),Bool.and_self]
 |(id,.it x p)::r,h=>by
  simp only[nR,Bool.and_eq_true]at h;simp only[cK,bC.den,k5,wT h.2,decide_eq_true (eT h.1),Bool.and_self]
theorem Qq: ∀{h:List (Nat × bC)} {id:Nat} {o:bC},dm h id=some o→(id,o)∈h
 |(i,p)::r,id,o,h=>by
  simp only[dm]at h
  split at h
  ·rename_i ad
   cases h;rw[Nat.eq_of_beq_eq_true ad];simp
  ·exact List.mem_cons_of_mem _ (Qq h)
theorem zai{n:Nat}{aS:List (Nat × bC)}{e aw:Env}: ∀{h:List (Nat × bC)},zr n aS h=true→∀id o,id<n→aE (cK G aw h) id=some o→∃cl,aE (cK G e aS) id=some cl∧Ct cl o:=by
 have key: ∀{h:List (Nat × bC)},zr n aS h=true→∀id oR,(id,oR)∈h→id<n→∃cl,dm aS id=some cl∧bC.kind cl oR=true:=by
  intro h
  induction h with
  |nil=>intro _ _ _ hm;cases hm
  |cons p r aQ=>
   obtain⟨j,q⟩:=p;intro aj id oR hm bA;simp only[zr,Bool.and_eq_true]at aj
   rcases List.mem_cons.1 hm with he|he
   ·cases he
    have aa:=aj.1
    rw[jG bA]at aa;simp only at aa
    split at aa
    ·rename_i cl an;exact⟨cl,an,aa⟩
    ·cases aa
   ·exact aQ aj.2 id oR he bA
 intro h aj id o bA ag
 rw[eN]at ag
 cases ah:dm h id with
 |none=>rw[ah]at ag;cases ag
 |some oR=>
  rw[ah]at ag;cases ag;obtain⟨cl,aa,ae⟩:=key aj id oR (Qq ah) bA;refine⟨cl.den G e,by rw[eN,aa];rfl,?_⟩
  cases cl<;>cases oR<;>first|trivial|(cases ae;done)|exact Nat.eq_of_beq_eq_true ae
mutual
theorem zx(id:Nat){k:Nat}: ∀{x:ab},x.lt k=true→(x.kill id).lt k=true:=fun {x} h=>by
 cases x with
 |cD l=>exact sC id (l:=l) h
 |tp l=>exact sC id (l:=l) h
 |fn f a b=>
  simp only[ab.lt,Bool.and_eq_true]at h;simp only[ab.kill,ab.lt,Bool.and_eq_true];exact⟨sC id h.1,sC id h.2⟩
 |fk g b x=>
  simp only[ab.lt,Bool.and_eq_true]at h;simp only[ab.kill,ab.lt,Bool.and_eq_true];exact⟨h.1,zx id h.2⟩
 |dz j o=>simp only[ab.kill];split<;>first|rfl|exact h
 |gu j x o=>simp only[ab.kill];split<;>first|rfl|exact h
 |gB j o x n=>simp only[ab.kill];split<;>first|rfl|exact h
 |cx j n=>simp only[ab.kill];split<;>rfl
 |eV g i o=>
  cases i with
  |none=>exact h
  |some j=>simp only[ab.kill];split<;>exact h
 |aN j=>simp only[ab.kill];split<;>first|rfl|exact h
 |iS j=>simp only[ab.kill];split<;>first|rfl|exact h
 |_=>exact h
theorem sC(id:Nat){k:Nat}: ∀{l:List ab},ab.cB k l=true→ab.cB k (ab.eg id l)=true:=fun {l} h=>by
 match l with
 |[]=>rfl
 |x::r=>
  simp only[ab.cB,Bool.and_eq_true]at h;simp only[ab.eg,ab.cB,Bool.and_eq_true];exact⟨zx id h.1,sC id h.2⟩
end
theorem Qr{S:ar}{o:Oper}{r:du}{e:Env}(ad:S.cv)(hf:S.cw e)(ao:gR S.k r.xs=true)(av:r.v.lt (S.k+r.xs.length)=true)(a8:eF (S.k+r.xs.length) r.h=true):
 ((r.st S o.dst).eG S.k r.xs).cv∧((r.st S o.dst).eG S.k r.xs).cw (c1 M e S.k r.xs):=by
 obtain⟨bB,a2,_⟩:=re (M:=M) (G:=fun _=>none) (N:=0) (B:=0) ad hf ao
 have ag:(r.st S o.dst).g=S.g:=by unfold du.st;cases o.dst<;>rfl
 refine⟨⟨fun i x hx=>?_,?_,?_⟩,?_⟩
 ·have hx:(r.st S o.dst).l.get i=some x:=hx
  show x.lt (S.k+r.xs.length)=true
  have base: ∀x,(r.l S.l).get i=some x→x.lt (S.k+r.xs.length)=true:=fun x hx=>by
   unfold du.l at hx
   split at hx
   ·exact gh (Nat.le_add_right _ _) (ad.l i x hx)
   ·rw[a1.get_map]at hx
    cases aJ:S.l.get i with
    |none=>rw[aJ]at hx;cases hx
    |some y=>
     rw[aJ]at hx;cases hx;exact zx _ (gh (Nat.le_add_right _ _) (ad.l i y aJ))
  unfold du.st at hx
  cases hd:o.dst with
  |none=>rw[hd]at hx;exact base x hx
  |some d=>
   rw[hd]at hx;simp only[ar.put,a1.jV]at hx
   split at hx
   ·cases hx;exact av
   ·exact base x hx
 ·have:((r.st S o.dst).eG S.k r.xs).h=r.h:=by unfold du.st ar.eG;cases o.dst<;>rfl
  rw[this];exact a8
 ·show eW (S.k+r.xs.length) (wP S.k r.xs (r.st S o.dst).g)=true
  rw[ag];exact bB.g
 ·show ∀c∈wP S.k r.xs (r.st S o.dst).g,_
  rw[ag];exact a2
theorem zy{k:Nat}: ∀{a b:List ab},ab.cB k a=true→ab.cB k b=true→ab.cB k (a++b)=true
 |[],_,_,h=>h
 |x::a,b,h,h'=>by
  simp only[ab.cB,Bool.and_eq_true]at h;simp only[List.cons_append,ab.cB,h.1,zy h.2 h',Bool.and_self]
theorem Jq{k:Nat}{x:ab}(hx:x.lt k=true): ∀{l:List ab} {i:Nat},ab.cB k l=true→ab.cB k (l.set i x)=true
 |[],_,h=>h
 |y::l,0,h=>by simp only[ab.cB,Bool.and_eq_true,List.set]at h⊢;exact⟨hx,h.2⟩
 |y::l,i+1,h=>by simp only[ab.cB,Bool.and_eq_true,List.set]at h⊢;exact⟨h.1,Jq hx h.2⟩
theorem CW{k:Nat}{o:bC}(an:o.lt k=true): ∀{l:List (Nat × bC)} {i:Nat},eF k l=true→eF k (kD l i o)=true
 |[],_,_=>by simp only[kD,eF,an,Bool.and_self]
 |(j,x)::l,i,h=>by
  simp only[eF,Bool.and_eq_true]at h;simp only[kD]
  split
  ·simp only[eF,Bool.and_eq_true];exact⟨an,h.2⟩
  ·simp only[eF,Bool.and_eq_true];exact⟨h.1,CW an h.2⟩
theorem CX{k id:Nat}{o:bC}: ∀{l:List (Nat × bC)},eF k l=true→dm l id=some o→o.lt k=true
 |[],_,h=>by cases h
 |(j,x)::l,ao,h=>by
  simp only[eF,Bool.and_eq_true]at ao;simp only[dm]at h
  split at h
  ·cases h;exact ao.1
  ·exact CX ao.2 h
theorem Jr{e:Env}{x:ab}: ∀{l:List ab} {i:Nat},ab.bP G e (l.set i x)=(ab.bP G e l).set i (x.den G e)
 |[],_=>rfl
 |y::l,0=>rfl
 |y::l,i+1=>by simp only[List.set,ab.bP,Jr (l:=l)]
theorem sD(id:Nat){k:Nat}: ∀{h:List (Nat × bC)},eF k h=true→eF k (iX id h)=true
 |[],h=>h
 |(j,.c8 t l)::r,h=>by
  simp only[eF,Bool.and_eq_true]at h;unfold iX
  split
  ·exact sD id h.2
  ·simp only[eF,Bool.and_eq_true]
   exact⟨sC id h.1,sD id h.2⟩
 |(j,.rw t c x)::r,h=>by
  simp only[eF,Bool.and_eq_true]at h;unfold iX
  split
  ·exact sD id h.2
  ·simp only[eF,Bool.and_eq_true]
   exact⟨h.1,sD id h.2⟩
 |(j,.it x p)::r,h=>by
  simp only[eF,Bool.and_eq_true]at h;unfold iX
  split
  ·exact sD id h.2
  ·simp only[eF,Bool.and_eq_true]
   exact⟨h.1,sD id h.2⟩
theorem zaj{id off k m:Nat}{C:ar}{e:Env}(ad:C.cv)(hf:C.cw e):(wR B id off k m C).cv∧(wR B id off k m C).cw e∧(wR B id off k m C).k=C.k∧cL (C.den G N B e) ((wR B id off k m C).den G N B e):=by
 unfold wR
 split
 ·rename_i t l jw c x ag hm
  split
  ·rename_i hc
   simp only[Bool.and_eq_true,Bool.not_eq_true']at hc;obtain⟨aA,⟨et,gQ⟩,lj⟩:=hc;refine⟨⟨fun i y ax=>?_,CW (o:=.c8 t _) (Jq (x:=.aN k) rfl (sC _ (sC _ (CX (o:=.c8 t l) ad.h ag)))) ?_,ad.g⟩,hf,rfl,?_⟩
   ·simp only[a1.get_map]at ax
    cases aJ:C.l.get i with
    |none=>rw[aJ]at ax;cases ax
    |some z=>
     rw[aJ]at ax;simp only[Option.map_some,Option.some.injEq]at ax;subst ax;exact zx _ (zx _ (ad.l i z aJ))
   ·have aa:=CX (o:=.rw jw c x) ad.h hm
    have ae:=sD k (sD m ad.h)
    simp only[eF,Bool.and_eq_true];exact⟨aa,ae⟩
   ·refine cL.ZJ id off m k jw (c5 c) (t:=t) (cs:=ab.bP G e l) (es:=List.map (cX c) (x.aH e (.li c))) (by simp only[ar.den,eN,ag,Option.map_some,bC.den]) (by simp only[ar.den,eN,hm,Option.map_some,bC.den]) ?_ (Nat.le_of_ble_eq_true et) (eT gQ) (Nat.ne_of_beq_eq_false lj) ?_
    ·rw[eD,List.getElem?_map]
     unfold Qi at aA
     split at aA
     ·rename_i ao
      rw[ao]
      have:=Nat.eq_of_beq_eq_true aA
      subst this;rfl
     ·cases aA
    ·simp only[ar.den,zl,ux,cK,bC.den,su,Jr,uI,ab.den]
  ·exact⟨ad,hf,rfl,cL.refl _⟩
 ·exact⟨ad,hf,rfl,cL.refl _⟩
theorem zak{S C:ar}{e:Env}(ad:C.cv)(hf:C.cw e):(uN B S C).cv∧(uN B S C).cw e∧(uN B S C).k=C.k∧cL (C.den G N B e) ((uN B S C).den G N B e):=by
 unfold uN
 split
 ·exact zaj ad hf
 ·exact⟨ad,hf,rfl,cL.refl _⟩
theorem Qs(ch:gI P G M inl){ops:Array Oper}{o:Oper}{r:List Oper}{S:ar}{k:ar→az}{e:Env}{Q:Exit→aM→Prop}(ad:S.cv)(hf:S.cw e)(hw:dT ops (S.den G N B e) o=some true)(ah:(exec P N B T inl o S k).safe M e)
 (aj: ∀di aw,di.cv→di.cw aw→bX S.k e aw→S.k≤di.k→(k di).safe M aw→run M (exec P N B T inl o S k) e=run M (k di) aw→cm P G ops Q r (di.den G N B aw)):cm P G ops Q (o::r) (S.den G N B e):=by
 have ig:=ah
 unfold exec at ig
 split at ig
 ·rename_i q av
  split at ig
  ·rename_i hc
   split at ig
   ·rename_i t j zz
    have gS:exec P N B T inl o S k=k (S.put o.dst (.bg t j)):=by unfold exec;rw[av];simp only[hc,zz]
    simp only[Bool.and_eq_true]at hc;obtain⟨cn,cH,kh⟩:=zae (M:=M) (G:=G) zz hf hc.1
    have bF:bX S.k e (c1 M e S.k q.xs):=jx (Nat.le_refl _)
    have dH:=uG (G:=G) (B:=B) (M:=M) av (c1 M e S.k q.xs) (ie bF ad.g hf) (iY hc.1) (by rw[kh];intro n hn;cases hn)
    rw[lg bF ad,←cn]at dH
    have oT:(S.den G N B e).put o.dst ((ab.bg t j).den G e)=(S.put o.dst (.bg t j)).den G N B e:=by rw[fw]
    refine cm.step hw (oT ▸ dH.step) ?_
    exact aj _ e (j4 ad cH) (j5 hf) (bX.refl _ _) (by rw[j6];exact Nat.le_refl _) ig (by rw[gS])
   rename_i zz
   split at ig
   ·rename_i v wE
    have gS:exec P N B T inl o S k=k (S.put o.dst v):=by unfold exec;rw[av];simp only[hc,zz,wE]
    simp only[Bool.and_eq_true]at hc;obtain⟨cn,cH,kh⟩:=zag (M:=M) (G:=G) (e:=e) wE hc.1
    have bF:bX S.k e (c1 M e S.k q.xs):=jx (Nat.le_refl _)
    have dH:=uG (G:=G) (B:=B) (M:=M) av (c1 M e S.k q.xs) (ie bF ad.g hf) (iY hc.1) (by rw[kh];intro n hn;cases hn)
    rw[lg bF ad,←cn]at dH
    have oT:(S.den G N B e).put o.dst (v.den G e)=(S.put o.dst v).den G N B e:=by rw[fw]
    refine cm.step hw (oT ▸ dH.step) ?_
    exact aj _ e (j4 ad cH) (j5 hf) (bX.refl _ _) (by rw[j6];exact Nat.le_refl _) ig (by rw[gS])
   rename_i wE
   have gS:exec P N B T inl o S k=emit S.k q.xs q.ns (k ((S.eG S.k q.xs).put o.dst q.v)):=by unfold exec;rw[av];simp only[hc,zz,wE]
   simp only[Bool.and_eq_true]at hc;obtain⟨gj,fy⟩:=mj ig;obtain⟨bB,a2,a3⟩:=re (M:=M) (G:=G) (N:=N) (B:=B) ad hf hc.1
   have bF:bX S.k e (c1 M e S.k q.xs):=jx (Nat.le_refl _)
   have dH:=uG (G:=G) (B:=B) (M:=M) av (c1 M e S.k q.xs) (ie bF ad.g hf) (iY hc.1) gj
   rw[lg bF ad]at dH
   have oT:(S.den G N B e).put o.dst (q.v.den G (c1 M e S.k q.xs))=((S.eG S.k q.xs).put o.dst q.v).den G N B (c1 M e S.k q.xs):=by rw[fw,a3]
   refine cm.step hw (oT ▸ dH.step) ?_
   exact aj _ _ (j4 bB hc.2) (j5 a2) bF (by rw[j6];exact Nat.le_add_right _ _) fy (by rw[gS,lN])
  ·exact ig.elim
 ·rename_i av
  split at ig
  ·rename_i q aJ
   split at ig
   ·rename_i hc
    have gS:exec P N B T inl o S k=emit S.k q.xs q.ns (k ((q.st S o.dst).eG S.k q.xs)):=by unfold exec;rw[av,aJ];simp only[hc]
    simp only[Bool.and_eq_true]at hc;obtain⟨gj,fy⟩:=mj ig
    have bF:bX S.k e (c1 M e S.k q.xs):=jx (Nat.le_refl _)
    have dH:=Ql (G:=G) (M:=M) aJ (c1 M e S.k q.xs) (ie bF ad.g hf) (iY hc.1) gj
    rw[lg bF ad]at dH;obtain⟨cn,cH⟩:=Qr (M:=M) (o:=o) ad hf hc.1 hc.2.1 hc.2.2;refine cm.step hw dH ?_
    have CY:S.k≤((q.st S o.dst).eG S.k q.xs).k:=Nat.le_add_right _ _
    exact aj ((q.st S o.dst).eG S.k q.xs) _ cn cH bF CY fy (by rw[gS,lN])
   ·exact ig.elim
  ·rename_i aJ
   split at ig
   ·rename_i q pt
    split at ig
    ·rename_i hc
     have gS:exec P N B T inl o S k=emit S.k q.xs [] (.it q.g (k (q.st S o.dst)) (k (q.wQ S o.dst))):=by unfold exec;rw[av,aJ,pt];simp only[hc]
     simp only[pS.ok,Bool.and_eq_true]at hc;obtain⟨_,fy⟩:=mj ig
     have bF:bX S.k e (c1 M e S.k q.xs):=jx (Nat.le_refl _)
     obtain⟨bB,a2,a3⟩:=re (M:=M) (G:=G) (N:=N) (B:=B) ad hf hc.1.1;obtain⟨cn,cH⟩:=zaa (P:=P) (G:=G) (B:=B) pt (ie bF ad.g hf) (iY hc.1.1);rw[lg bF ad]at cn cH
     have CY: ∀b,Nat.ble S.k (S.k+b)=true:=fun b=>Nat.ble_eq_true_of_le (Nat.le_add_right _ _)
     have cS:run M (exec P N B T inl o S k) e=run M (.it q.g (k (q.st S o.dst)) (k (q.wQ S o.dst))) (c1 M e S.k q.xs):=by rw[gS,lN]
     have dJ: ∀b,q.g.aH (c1 M e S.k q.xs) .bool=b→∀c∈(bU.dJ q.g b::(S.eG S.k q.xs).g),c.ok (c1 M e S.k q.xs):=fun b ag c hm=>by
      rcases List.mem_cons.1 hm with rfl|hm
      ·exact ag
      ·exact a2 c hm
     cases ag:q.g.aH (c1 M e S.k q.xs) .bool with
     |true=>
      refine cm.step hw (cn ag) ?_
      have pT:(q.st S o.dst).cv:=Qe (j4 (S:={S.eG S.k q.xs with h:=q.h,g:=.dJ q.g true::(S.eG S.k q.xs).g}) ⟨bB.l,hc.2.1,by simp only[eW,bU.lt,Bool.and_eq_true];exact⟨hc.1.2,bB.g⟩⟩ hc.2.2.1)
      have eO:(q.st S o.dst).cw (c1 M e S.k q.xs):=Qf (j5 (S:={S.eG S.k q.xs with h:=q.h,g:=.dJ q.g true::(S.eG S.k q.xs).g}) (dJ true ag))
      have hd:(ar.put {S with h:=q.h} o.dst q.v).den G N B (c1 M e S.k q.xs)=(q.st S o.dst).den G N B (c1 M e S.k q.xs):=by cases o.dst<;>rfl
      rw[hd];exact aj _ _ pT eO bF (by show S.k≤(ar.put _ _ _).k;rw[j6];exact Nat.le_add_right _ _) (fy.1 ag) (by rw[cS,sB ag])
     |false=>
      refine cm.step hw (cH ag) ?_
      have pT:(q.wQ S o.dst).cv:=Qe (j4 (S:={S.eG S.k q.xs with g:=.dJ q.g false::(S.eG S.k q.xs).g}) ⟨bB.l,bB.h,by simp only[eW,bU.lt,Bool.and_eq_true];exact⟨hc.1.2,bB.g⟩⟩ hc.2.2.2)
      have eO:(q.wQ S o.dst).cw (c1 M e S.k q.xs):=Qf (j5 (S:={S.eG S.k q.xs with g:=.dJ q.g false::(S.eG S.k q.xs).g}) (dJ false ag))
      have hd:(S.put o.dst q.bu).den G N B (c1 M e S.k q.xs)=(q.wQ S o.dst).den G N B (c1 M e S.k q.xs):=by cases o.dst<;>rfl
      rw[hd];exact aj _ _ pT eO bF (by show S.k≤(ar.put _ _ _).k;rw[j6];exact Nat.le_add_right _ _) (fy.2 ag) (by rw[cS,sB ag])
    ·exact ig.elim
   rename_i pt
   split at ig
   ·rename_i f as iy
    split at ig
    ·rename_i gf
     have gS:exec P N B T inl o S k=kG N S ((inl f as S).ez (zt S o.dst) none) fun C=>k (uN B S C):=by unfold exec;rw[av,aJ,pt,iy];simp only[gf]
     obtain⟨t1,_,t3⟩:=CO (G:=G) (B:=B) ad hf ig;obtain⟨g1,g2,g3⟩:=jt (inl f as S) none t1;unfold CT at iy
     split at iy
     ·rename_i c wx
      split at iy
      ·rename_i x hx
       split at iy
       ·rename_i zal p gx uD
        cases iy;obtain⟨callee,args,ts⟩:=c;simp only at hx;subst hx
        have bA:ab.cB S.k (p++args.toList.map (S.aX N)++gx)=true:=by
         have gF:=y4 (N:=N) ad x
         rw[uD]at gF;simp only[ab.lt,Bool.and_eq_true]at gF;refine zy (zy gF.1 ?_) gF.2
         generalize args.toList=l
         induction l with
         |nil=>rfl
         |cons y r aQ=>simp only[List.map_cons,ab.cB,y4 ad y,aQ,Bool.and_self]
        have gO:=ch f _ S e ad bA hf g1
        have oT:ab.bP G e (p++args.toList.map (S.aX N)++gx)=ab.bP G e p++args.toList.map (aI G (S.den G N B e))++ab.bP G e gx:=by
         rw[eD,eD,eD,List.map_append,List.map_append,List.map_map]
         congr 2
         exact List.map_congr_left fun y _=>(bI hf y).symm
        rw[oT]at gO
        refine cm.zah (A:=fun t=>∃C aw,run M (inl f (p++args.toList.map (S.aX N)++gx) S) e=some (.b5,C,aw)∧C.cv∧C.cw aw∧bX S.k e aw∧S.k≤C.k∧CR S C=true∧t=(S.back o.dst C).den G N B aw) hw
         (Zu wx (by rw[bI hf,uD];rfl) gf gO fun r bO ⟨C,aw,aA,et,gQ,lj,rf,pU,nS⟩=>?_) fun t ⟨C,aw,aA,lj,rf,pU,nS,a7,aG⟩=>?_
        ·have ag:=(g3 C aw aA).1
         have a7:CR S C=true:=by
          unfold zt at ag
          split at ag
          ·assumption
          ·exact ag.elim
         have ea:=a7
         simp only[CR,Bool.and_eq_true]at ea;refine⟨C.n,Nat.le_of_ble_eq_true ea.2.1,?_,?_,?_,C,aw,aA,lj,rf,pU,nS,a7,?_⟩
         ·rw[et];exact CV ea.1.1
         ·rw[gQ];exact wT ea.1.2
         ·rw[gQ];exact zai ea.2.2
         ·rw[et,gQ,ar.back,fw]
          have:=lg (G:=G) (N:=N) (B:=B) pU ad
          have vF:jY G aw S.l 0 N=jY G e S.l 0 N:=congrArg aM.cC this
          simp only[ar.den,vF]
        ·subst aG
         have ag:=(g3 C aw aA)
         have cS:run M ((inl f (p++args.toList.map (S.aX N)++gx) S).ez (zt S o.dst) none) e=some (.b5,S.back o.dst C,aw):=by
          rw[g2,aA];simp only[ic,zt,a7];rfl
         have pT:(S.back o.dst C).cv:=by
          unfold ar.back;refine j4 ⟨fun i x hx=>gh nS (ad.l i x hx),lj.h,lj.g⟩ ?_
          show(C.at 0).lt C.k=true;unfold ar.at
          cases h3:C.l.get 0 with
          |none=>rfl
          |some y=>exact lj.l 0 y h3
         obtain⟨dO,aV,s1,s2,hb,kj,kk,kl,kQ⟩:=t3 _ _ cS pT (j5 rf) pU (by unfold ar.back;rw[j6];exact nS)
         obtain⟨gj,fy,zam,zan⟩:=zak (G:=G) (N:=N) (B:=B) (S:=S) s2 hb;exact cm.le (cL.trans s1 zan) (aj _ aV gj fy kj (by rw[zam];exact kk) kl (by rw[gS,kQ]))
       ·cases iy
      ·cases iy
     ·cases iy
    ·exact ig.elim
   ·exact ig.elim
def Qt(G:aY)(N B:Nat)(ops:Array Oper)(o:Oper)(S:ar)(e:Env):CP→Prop
 | .yes=>dT ops (S.den G N B e) o=some true
 | .no=>dT ops (S.den G N B e) o=some false
 | .on gs=>(fq e gs=true→dT ops (S.den G N B e) o=some true)∧(fq e gs=false→dT ops (S.den G N B e) o=some false)
 | .bad=>True
def pV(b:Bool):aD→Option Bool
 | .au (.v (.bool c))=>some (c==b)
 | .tuple _=>some false
 |_=>none
def CZ(G:aY)(b:Bool)(e:Env)(v:ab):CP→Prop
 | .yes=>pV b (v.den G e)=some true
 | .no=>pV b (v.den G e)=some false
 | .on gs=>(fq e gs=true→pV b (v.den G e)=some true)∧(fq e gs=false→pV b (v.den G e)=some false)
 | .bad=>True
theorem Qu{a b:Bool}(h:a=b):(a==b)=true:=by cases a<;>cases b<;>first|rfl|cases h
theorem Qv{a b:Bool}(h: ¬a=b):(a==b)=false:=by cases a<;>cases b<;>first|rfl|exact absurd rfl h
theorem lP{l:List bU}{b:Bool}{e:Env}(hf: ∀c∈l,c.ok e)(g:ab):CZ G b e g (match g.rt,lf g l with
 |some .bool,some c=>match decide (c=b)with
  |true=>.yes
  |false=>.no
 |some .bool,none=>.on [(g,b)]
 |_,_=>.bad):=by
 split
 ·rename_i c aa ae
  have aj:=pJ ae hf
  have hd:=gG (G:=G) (e:=e) aa
  rw[aj]at hd
  cases gf:decide (c=b)with
  |true=>show pV b (g.den G e)=some true;rw[hd];exact congrArg some (Qu (of_decide_eq_true gf))
  |false=>show pV b (g.den G e)=some false;rw[hd];exact congrArg some (Qv (of_decide_eq_false gf))
 ·rename_i aa ae
  have hd:=gG (G:=G) (e:=e) aa
  simp only[CZ,fq,Bool.and_true];rw[hd];exact⟨fun h=>congrArg some h,fun h=>congrArg some h⟩
 ·trivial
theorem wU{h:ab}{c:Bool}{v:ab}{e:Env}(hc:h.aH e .bool=c):(ab.fk h c v).den G e=v.den G e:=by
 simp only[ab.den,hc];cases c<;>rfl
theorem Qw{h:ab}{c:Bool}{v:ab}{e:Env}(hc:h.aH e .bool= !c):(ab.fk h c v).den G e= .tuple []:=by
 simp only[ab.den,hc];cases c<;>rfl
theorem Qx{l:List bU}{b:Bool}{e:Env}(hf: ∀c∈l,c.ok e): ∀v:ab,CZ G b e v (uM l b v)
 | .fk h c v=>by
  have aQ:=Qx (b:=b) hf v
  have Js:h.aH e .bool≠c→pV b ((ab.fk h c v).den G e)=some false:=fun hn=>by
   rw[Qw (by cases a8:h.aH e .bool<;>cases c<;>first|rfl|exact absurd a8 hn)]
   rfl
  simp only[uM]
  split
  ·cases ag:uM l b v with
   |yes=>
    rw[ag]at aQ;refine⟨fun aK=>?_,fun aK=>?_⟩
    ·simp only[fq,Bool.and_true,beq_iff_eq]at aK
     rw[wU aK];exact aQ
    ·simp only[fq,Bool.and_true,beq_eq_false_iff_ne]at aK
     exact Js aK
   |no=>
    rw[ag]at aQ;show pV b _=some false
    by_cases a8:h.aH e .bool=c
    ·rw[wU a8];exact aQ
    ·exact Js a8
   |on gs=>
    rw[ag]at aQ;refine⟨fun aK=>?_,fun aK=>?_⟩
    ·simp only[fq,Bool.and_eq_true,beq_iff_eq]at aK
     rw[wU aK.1];exact aQ.1 aK.2
    ·by_cases a8:h.aH e .bool=c
     ·rw[wU a8]
      refine aQ.2 ?_
      simp only[fq,a8,beq_self_eq_true,Bool.true_and]at aK;exact aK
     ·exact Js a8
   |bad=>trivial
  ·trivial
 | .cs x=>by
  unfold uM
  split
  ·rename_i c heq
   cases heq
   cases gf:decide (c=b)with
   |true=>exact congrArg some (Qu (of_decide_eq_true gf))
   |false=>exact congrArg some (Qv (of_decide_eq_false gf))
  ·rename_i heq;cases heq
  ·rename_i heq;cases heq
  ·exact lP hf _
 | .tp l=>rfl
 | .bg r i=>lP hf (.bg r i)
 | .fd c i k r=>lP hf (.fd c i k r)
 | .ip c i k=>lP hf (.ip c i k)
 | .cD l=>lP hf (.cD l)
 | .dz i o=>lP hf (.dz i o)
 | .gu i x o=>lP hf (.gu i x o)
 | .aN i=>lP hf (.aN i)
 | .fn f a b=>lP hf (.fn f a b)
 | .iS i=>lP hf (.iS i)
 | .lJ g o=>lP hf (.lJ g o)
 | .gB i o x n=>lP hf (.gB i o x n)
 | .cx i n=>lP hf (.cx i n)
 | .eV g i o=>lP hf (.eV g i o)
 | .top=>lP hf .top
theorem Jt{ops:Array Oper}{o:Oper}{S:ar}{e:Env}(hf:S.cw e):Qt G N B ops o S e (guardOf N ops S o):=by
 unfold guardOf
 cases ag:o.guard with
 |none=>simp only[Qt,dT,ag]
 |some Hw=>
  obtain⟨j,b⟩:=Hw;simp only
  cases hd:l5 ops j with
  |none=>trivial
  |some d=>
   simp only
   cases ha:Nat.blt d N with
   |false=>trivial
   |true=>
    have bA:d<N:=eT ha
    have af:=H2 (G:=G) hf (x:=S.at d)
    have hc:=Qx (G:=G) (b:=b) hf ((S.at d).res S.g)
    rw[CZ.eq_def]at hc
    have key: ∀q,pV b (((S.at d).res S.g).den G e)=some q→dT ops (S.den G N B e) o=some q:=fun q h=>by
     rw[af]at h;simp only[dT,ag,hd,uw,if_pos bA];generalize (S.at d).den G e=v at h;unfold pV at h
     split at h
     ·rename_i c
      cases h
      cases b<;>cases c<;>rfl
     ·cases h;rfl
     ·cases h
    simp only;generalize uM S.g b ((S.at d).res S.g)=fk at hc
    cases fk with
    |yes=>exact key _ hc
    |no=>exact key _ hc
    |on gs=>exact⟨fun h=>key _ (hc.1 h),fun h=>key _ (hc.2 h)⟩
    |bad=>trivial
end
end Go.aL
namespace Go.aL
open Go
section
variable {P:Program} {G:aY} {N B:Nat} {M:List aW} {T:List (Nat × bN)} {inl:Nat→List ab→ar→az}
theorem zA{S:ar}{g:ab}{b:Bool}(ad:S.cv)(ag:g.lt S.k=true):({S with g:=.dJ g b::S.g}:ar).cv:=
 ⟨ad.l,ad.h,by
  show(bU.lt S.k (.dJ g b)&&eW S.k S.g)=true;rw[ad.g,Bool.and_true]
  exact ag⟩
theorem zB{S:ar}{g:ab}{b:Bool}{e:Env}(hf:S.cw e)(ag:g.aH e .bool=b):({S with g:=.dJ g b::S.g}:ar).cw e:=fun c hc=>by
 rcases List.mem_cons.1 hc with rfl|hc
 ·exact ag
 ·exact hf c hc
theorem qq{a b:Bool}(h: ¬a=b):a= !b:=by cases a<;>cases b<;>first|rfl|exact absurd rfl h
theorem Qy{g:ab}{b:Bool}{x y:az}{e:Env}(h:g.aH e .bool=b):run M (CU g b x y) e=run M x e:=by
 cases b<;>exact sB h
theorem zao{g:ab}{b:Bool}{x y:az}{e:Env}(h:g.aH e .bool= !b):run M (CU g b x y) e=run M y e:=by
 cases b<;>exact sB h
theorem zap{g:ab}{b:Bool}{x y:az}{e:Env}(ah:(CU g b x y).safe M e)(h:g.aH e .bool=b):x.safe M e:=by
 cases b with
 |true=>exact ah.1 h
 |false=>exact ah.2 h
theorem wV{S:ar}: ∀{gs:List (ab × Bool)},S.cv→lO S.k gs=true→({S with g:=gT gs S.g}:ar).cv
 |[],ad,_=>ad
 |(g,b)::r,ad,h=>by
  simp only[lO,Bool.and_eq_true]at h;exact zA (S:={S with g:=gT r S.g}) (b:=b) (wV ad h.2) h.1
theorem wW{S:ar}{e:Env}: ∀{gs:List (ab × Bool)},S.cw e→fq e gs=true→({S with g:=gT gs S.g}:ar).cw e
 |[],hf,_=>hf
 |(g,b)::r,hf,h=>by
  simp only[fq,Bool.and_eq_true,beq_iff_eq]at h;exact zB (S:={S with g:=gT r S.g}) (b:=b) (wW hf h.2) h.1
theorem C0{k:Nat}{v:ab}: ∀{gs:List (ab × Bool)},lO k gs=true→v.lt k=true→(j3 gs v).lt k=true
 |[],_,h=>h
 |(g,b)::r,ag,h=>by
  simp only[lO,Bool.and_eq_true]at ag;simp only[j3,ab.lt,ag.1,C0 ag.2 h,Bool.and_self]
theorem C1{k m:Nat}(h:k≤m): ∀{gs:List (ab × Bool)},lO k gs=true→lO m gs=true
 |[],_=>rfl
 |(g,b)::r,ag=>by
  simp only[lO,Bool.and_eq_true]at ag⊢;exact⟨gh h ag.1,C1 h ag.2⟩
theorem C2{k:Nat}{e aw:Env}(h:bX k e aw): ∀{gs:List (ab × Bool)},lO k gs=true→fq aw gs=fq e gs
 |[],_=>rfl
 |(g,b)::r,ag=>by
  simp only[lO,Bool.and_eq_true]at ag;simp only[fq,fl h ag.1,C2 h ag.2]
theorem C3{v:ab}{e:Env}: ∀{gs:List (ab × Bool)},fq e gs=true→(j3 gs v).den G e=v.den G e
 |[],_=>rfl
 |(g,b)::r,h=>by
  simp only[fq,Bool.and_eq_true,beq_iff_eq]at h;exact(wU h.1).trans (C3 h.2)
theorem C4{v:ab}{e:Env}: ∀{gs:List (ab × Bool)},fq e gs=false→(j3 gs v).den G e= .tuple []
 |[],h=>by cases h
 |(g,b)::r,h=>by
  by_cases ag:g.aH e .bool=b
  ·simp only[fq,ag,beq_self_eq_true,Bool.true_and]at h
   exact(wU ag).trans (C4 h)
  ·exact Qw (qq ag)
theorem C5{n:fE}{e:Env}: ∀{gs:List (ab × Bool)},(pR gs n).ok M e→fq e gs=true→n.ok M e
 |[],h,_=>h
 |(g,b)::r,h,aK=>by
  simp only[fq,Bool.and_eq_true,beq_iff_eq]at aK;exact C5 (gs:=r) (h aK.1) aK.2
theorem Ju{x:az}{y:List bU→az}{e:Env}: ∀{gs:List (ab × Bool)} {l:List bU},fq e gs=true→run M (sz y gs x l) e=run M x e∧((sz y gs x l).safe M e→x.safe M e)
 |[],_,_=>⟨rfl,fun h=>h⟩
 |(g,b)::r,l,h=>by
  simp only[fq,Bool.and_eq_true,beq_iff_eq]at h;obtain⟨aa,ae⟩:=Ju (x:=x) (y:=y) (l:=.dJ g b::l) h.2;exact⟨(Qy h.1).trans aa,fun ah=>ae (zap ah h.1)⟩
theorem Jv{x:az}{y:List bU→az}{e:Env}{k:Nat}: ∀{gs:List (ab × Bool)} {l:List bU},fq e gs=false→lO k gs=true→eW k l=true→(∀c∈l,c.ok e)→∃hG,run M (sz y gs x l) e=run M (y hG) e∧eW k hG=true∧∀c∈hG,c.ok e
 |[],_,h,_,_,_=>by cases h
 |(g,b)::r,l,h,ag,ao,hc=>by
  simp only[lO,Bool.and_eq_true]at ag
  have r5: ∀b,eW k (.dJ g b::l)=true:=fun b=>by
   show(bU.lt k (.dJ g b)&&eW k l)=true;rw[ao,Bool.and_true];exact ag.1
  by_cases e4:g.aH e .bool=b
  ·simp only[fq,e4,beq_self_eq_true,Bool.true_and]at h
   obtain⟨hG,aa,ae,aq⟩:=Jv (x:=x) (y:=y) (k:=k) (gs:=r) (l:=.dJ g b::l) h ag.2 (r5 b) fun c hm=>by
    rcases List.mem_cons.1 hm with rfl|hm
    ·exact e4
    ·exact hc c hm
   exact⟨hG,(Qy e4).trans aa,ae,aq⟩
  ·refine⟨.dJ g (!b)::l,zao (qq e4),r5 _,fun c hm=>?_⟩
   rcases List.mem_cons.1 hm with rfl|hm
   ·exact qq e4
   ·exact hc c hm
theorem Qz{S:ar}{dst:Option Nat}{l:List bU}{e:Env}(ad:S.cv)(ao:eW S.k l=true)(hc: ∀c∈l,c.ok e):
 ∃aP:ar,rb S dst l= .cr .b5 aP∧aP.cv∧aP.cw e∧S.k≤aP.k∧aP.den G N B e=(S.den G N B e).put dst (.tuple []):=
 ⟨_,rfl,j4 ⟨ad.l,ad.h,ao⟩ rfl,j5 hc,by rw[j6];exact Nat.le_refl _,by rw[fw];rfl⟩
theorem zC(ch:gI P G M inl){ops:Array Oper}: ∀(l:List Oper) {S:ar} {e:Env} {Q:Exit→aM→Prop},S.cv→S.cw e→(ja P N B T inl ops l S).safe M e→(∀ex st,jb G N B M (ja P N B T inl ops l S) e S.k ex st→Q ex st)→cm P G ops Q l (S.den G N B e)
 |[],S,e,Q,ad,hf,_,ef=>cm.nil (ef _ _ ⟨.b5,S,e,rfl,trivial,cL.refl _,ad,hf,bX.refl _ _,Nat.le_refl _⟩)
 |o::r,S,e,Q,ad,hf,ah,ef=>by
  have ag:=Jt (G:=G) (N:=N) (B:=B) (ops:=ops) (o:=o) hf
  have e1:=ah
  unfold ja at e1
  cases jc:guardOf N ops S o with
  |yes=>
   rw[jc]at ag e1
   have gS:ja P N B T inl ops (o::r) S=exec P N B T inl o S (ja P N B T inl ops r):=by rw[ja,jc]
   refine Qs ch ad hf ag e1 fun di aw aa ae aq aT bD cA=>zC ch r aa ae bD fun ex st ak=>ef ex st (ak.sub ?_ aq aT)
   rw[gS,cA]
  |no=>
   rw[jc]at ag e1
   have gS:ja P N B T inl ops (o::r) S=ja P N B T inl ops r (S.put o.dst (.tp [])):=by rw[ja,jc]
   refine cm.pass ag ?_
   have hd:(S.den G N B e).put o.dst (.tuple [])=(S.put o.dst (.tp [])).den G N B e:=by rw[fw];rfl
   rw[hd];refine zC ch r (j4 ad rfl) (j5 hf) e1 fun ex st ak=>ef ex st (ak.sub (by rw[gS]) (bX.refl _ _) (by rw[j6];exact Nat.le_refl _))
  |on gs=>
   rw[jc]at ag e1;simp only at e1;obtain⟨g1,g2⟩:=ag
   split at e1
   ·rename_i kH
    split at e1
    ·rename_i q av
     split at e1
     ·rename_i hc
      have gS:ja P N B T inl ops (o::r) S=emit S.k q.xs (q.ns.map (pR gs)) (ja P N B T inl ops r ((S.eG S.k q.xs).put o.dst (j3 gs q.v))):=by rw[ja,jc];simp only[kH,av,hc]
      simp only[Bool.and_eq_true]at hc;obtain⟨gj,fy⟩:=mj e1;obtain⟨bB,a2,a3⟩:=re (M:=M) (G:=G) (N:=N) (B:=B) ad hf hc.1
      have bF:bX S.k e (c1 M e S.k q.xs):=jx (Nat.le_refl _)
      have hW:fq (c1 M e S.k q.xs) gs=fq e gs:=C2 bF kH
      have aj:S.k≤S.k+q.xs.length:=Nat.le_add_right _ _
      have oP:(j3 gs q.v).lt (S.k+q.xs.length)=true:=C0 (C1 aj kH) hc.2
      have Jw:((S.eG S.k q.xs).put o.dst (j3 gs q.v)).cv:=j4 bB oP
      have zD:=zC ch (ops:=ops) r (Q:=Q) Jw (j5 a2) fy fun ex st ak=>ef ex st (ak.sub (by rw[gS,lN]) bF (by rw[j6];exact aj))
      rw[fw,a3]at zD
      cases e4:fq e gs with
      |true=>
       have jR:=wW hf e4
       have ix:=wV ad kH
       have dH:=uG (G:=G) (B:=B) (M:=M) av (c1 M e S.k q.xs) (ie bF ix.g jR) (iY hc.1) fun n hn=>C5 (gj (pR gs n) (List.mem_map.2 ⟨n,hn,rfl⟩)) (hW.trans e4)
       have wX:({S with g:=gT gs S.g}:ar).den G N B (c1 M e S.k q.xs)=S.den G N B e:=lg (S:={S with g:=gT gs S.g}) bF ix
       rw[wX]at dH;refine cm.step (g1 e4) dH.step ?_
       rw[C3 (hW.trans e4)]at zD;exact zD
      |false=>
       refine cm.pass (g2 e4) ?_
       rw[C4 (hW.trans e4)]at zD;exact zD
     ·exact e1.elim
    ·rename_i av
     have gS:ja P N B T inl ops (o::r) S=pP N S o.dst gs (sz (rb S o.dst) gs (exec P N B T inl o {S with g:=gT gs S.g} (.cr .b5)) S.g) (ja P N B T inl ops r):=by rw[ja,jc];simp only[av,kH]
     obtain⟨t1,_,t3⟩:=Jj (G:=G) (B:=B) ad hf e1
     have fin: ∀(aP:ar) (ay:Env),run M (sz (rb S o.dst) gs (exec P N B T inl o {S with g:=gT gs S.g} (.cr .b5)) S.g) e=some (.b5,aP,ay)→aP.cv→aP.cw ay→bX S.k e ay→S.k≤aP.k→cm P G ops Q r (aP.den G N B ay):=fun aP ay af aa ae aq aT=>by
      obtain⟨dO,aV,s1,s2,hb,kj,kk,kl,kQ⟩:=t3 aP ay af aa ae aq aT;exact cm.le s1 (zC ch r s2 hb kl fun ex st ak=>ef ex st (ak.sub (by rw[gS,kQ]) kj kk))
     cases e4:fq e gs with
     |false=>
      refine cm.pass (g2 e4) ?_
      obtain⟨hG,dh,dv,kq⟩:=Jv (M:=M) (x:=exec P N B T inl o {S with g:=gT gs S.g} (.cr .b5)) (y:=rb S o.dst) (l:=S.g) e4 kH ad.g hf
      obtain⟨aP,cN,dA,Jx,u0,Jy⟩:=Qz (G:=G) (N:=N) (B:=B) (dst:=o.dst) ad dv kq;rw[←Jy];exact fin aP e (by rw[dh,cN];rfl) dA Jx (bX.refl _ _) u0
     |true=>
      have jR:=wW hf e4
      have ix:=wV ad kH
      obtain⟨f1,f2⟩:=Ju (M:=M) (x:=exec P N B T inl o {S with g:=gT gs S.g} (.cr .b5)) (y:=rb S o.dst) (l:=S.g) e4
      refine Qs ch (S:={S with g:=gT gs S.g}) ix jR (g1 e4) (f2 t1) fun di aw aa ae aq aT _ cA=>fin di aw ?_ aa ae aq aT
      exact f1.trans cA
   ·exact e1.elim
  |bad=>rw[jc]at e1;exact e1.elim
end
end Go.aL
namespace Go.aL
open Go
def zE(i:Nat)(y:ab):List bU→Bool
 |[]=>false
 | .rg j b::r=>(Nat.beq j i&&fx b y)||zE i y r
 |_::r=>zE i y r
def wY(j:Nat)(all:List bU):List bU→Option Bool
 |[]=>none
 | .d2 i (.oE .lss .i64) x y::r=>match Nat.beq i j with
  |true=>match fx x y with
   |true=>some false
   |false=>match x with
    | .bg (.int .i64) m=>match zE m y all&&(match y.rt with|some (.int .i64)=>true|_=>false)with
     |true=>some true
     |false=>none
    |_=>none
  |false=>wY j all r
 |_::r=>wY j all r
def Jz(g:ab)(l:List bU):Option Bool:=
 match lf g l with
 |some b=>some b
 |none=>match g with
  | .bg .bool j=>wY j l l
  |_=>none
def zF(i:Nat):List bU→Option ab
 |[]=>none
 | .d1 j .mZ x::r=>match Nat.beq j i with
  |true=>match x.rt with
   |some .bool=>some x
   |_=>none
  |false=>zF i r
 |_::r=>zF i r
def ar.dJ(S:ar)(v:ab)(b:Bool):ar:=
 match v with
 | .bg .bool i=>match zF i S.g with
  |some x=>{S with g:=.dJ x (!b):: .dJ (.bg .bool i) b::S.g}
  |none=>{S with g:=.dJ (.bg .bool i) b::S.g}
 |v=>{S with g:=.dJ v b::S.g}
def JA(N:Nat)(S:ar)(x:Operand)(f g:ar→az):az:=
 match S.aX N x with
 | .cs (.bool true)=>f S
 | .cs (.bool false)=>g S
 |v=>match v.rt with
  |some .bool=>match Jz v S.g with
   |some true=>f S
   |some false=>g S
   |none=>.it v (f (S.dJ v true)) (g (S.dJ v false))
  |_=>.bad 38
def comp(P:Program)(N B:Nat)(T:List (Nat × bN))(inl:Nat→List ab→ar→az)(L:(ar→az)→Nat→ar→az)(D:Array Oper→ar→az):Code→Nat→ar→az
 | .skip,_,S=>.cr .b5 S
 | .ret,_,S=>.cr .ret S
 | .exit id,_,S=>.cr (.ext id) S
 | .region _ ops draw,_,S=>match draw with
  |true=>D ops S
  |false=>ja P N B T inl ops ops.toList S
 | .cond x a b,cur,S=>JA N S x (comp P N B T inl L D a cur) (comp P N B T inl L D b cur)
 | .block id c,_,S=>(comp P N B T inl L D c id S).rel (oG id)
 | .seq a b,cur,S=>kG N S (comp P N B T inl L D a cur S) (comp P N B T inl L D b cur)
 | .loop c,cur,S=>L (comp P N B T inl L D c cur) cur S
 |_,_,_=>.bad 6
section
variable {P:Program} {G:aY} {N B:Nat} {M:List aW} {T:List (Nat × bN)} {inl:Nat→List ab→ar→az} {L:(ar→az)→Nat→ar→az} {D:Array Oper→ar→az}
theorem zG{i:Nat}{y:ab}{e:Env}: ∀{l:List bU},zE i y l=true→(∀c∈l,c.ok e)→0≤cc (Env.at e i)∧cc (Env.at e i)<cc (y.dyn e)
 | .rg j b::r,h,hc=>by
  simp only[zE,Bool.or_eq_true,Bool.and_eq_true]at h
  rcases h with⟨aa,ae⟩|h
  ·rw[←Nat.eq_of_beq_eq_true aa,←fN ae]
   exact hc (.rg j b) (by simp)
  ·exact zG h fun c hm=>hc c (by simp[hm])
 | .d1 _ _ _::r,h,hc=>zG (l:=r) h fun c hm=>hc c (by simp[hm])
 | .d2 _ _ _ _::r,h,hc=>zG (l:=r) h fun c hm=>hc c (by simp[hm])
 | .dJ _ _::r,h,hc=>zG (l:=r) h fun c hm=>hc c (by simp[hm])
theorem zaq(d:aB):(d.as (.int .i64):Int)=cc d∨(d.as (.int .i64):Int)=0:=by
 obtain⟨r,v⟩:=d
 by_cases h:r= .int .i64
 ·subst h
  exact .inl (cQ _ _)
 ·refine .inr ?_
  unfold aB.as
  split
  ·rename_i h' _;exact absurd h' h
  ·rfl
theorem zH{j:Nat}{e:Env}{b:Bool}{all:List bU}(aK: ∀c∈all,c.ok e): ∀{l:List bU},wY j all l=some b→(∀c∈l,c.ok e)→(ab.bg .bool j).aH e .bool=b
 | .d2 i f x y::r,h,hc=>by
  have aS:=hc (.d2 i f x y) (by simp)
  have af: ∀{b},wY j all r=some b→(ab.bg .bool j).aH e .bool=b:=fun h=>zH aK h fun c hm=>hc c (by simp[hm])
  unfold wY at h
  split at h
  ·cases h
  ·rename_i yv k8 sa er heq
   cases heq
   split at h
   ·rename_i tX
    have tX:=Nat.eq_of_beq_eq_true tX
    subst tX;simp only[bU.ok]at aS
    have av:(ab.bg .bool i).aH e .bool=yW .lss (x.aH e (.int .i64)) (y.aH e (.int .i64)):=by
     simp only[ab.aH,ab.fG,ab.dyn,cQ,aS];rfl
    rw[av]
    split at h
    ·rename_i he
     cases h;rw[fN he];exact decide_eq_false (Int.lt_irrefl _)
    ·split at h
     ·rename_i m _
      split at h
      ·rename_i aj
       cases h;simp only[Bool.and_eq_true]at aj
       have aa:=zG aj.1 aK
       have ax:y.rt=some (.int .i64):=by
        have:=aj.2
        split at this
        ·assumption
        ·cases this
       rw[mh ax]at aa
       have hx:(ab.bg (.int .i64) m).aH e (.int .i64)=(Env.at e m).as (.int .i64):=by simp only[ab.aH,ab.fG,ab.dyn,cQ]
       rw[hx];refine decide_eq_true ?_
       have ae:=aa.2
       rcases zaq (Env.at e m)with q|q
       ·rw[q];exact ae
       ·rw[q];exact Int.lt_of_le_of_lt aa.1 ae
      ·cases h
     ·cases h
   ·exact af h
  ·rename_i heq
   cases heq;exact af h
 | .d1 _ _ _::r,h,hc=>zH aK (l:=r) h fun c hm=>hc c (by simp[hm])
 | .rg _ _::r,h,hc=>zH aK (l:=r) h fun c hm=>hc c (by simp[hm])
 | .dJ _ _::r,h,hc=>zH aK (l:=r) h fun c hm=>hc c (by simp[hm])
theorem QA{e:Env}{g:ab}{b:Bool}{l:List bU}(h:Jz g l=some b)(hc: ∀c∈l,c.ok e):g.aH e .bool=b:=by
 unfold Jz at h
 split at h
 ·rename_i aj;cases h;exact pJ aj hc
 ·split at h
  ·exact zH hc h hc
  ·cases h
def kI(P:Program)(G:aY)(N B:Nat)(M:List aW)(c:Code)(f:ar→az):Prop:=
 ∀(S:ar) (e:Env),S.cv→S.cw e→(f S).safe M e→bW P G c (jb G N B M (f S) e S.k) (S.den G N B e)
theorem JB{i:Nat}{x:ab}{e:Env}{k:Nat}: ∀{l:List bU},zF i l=some x→(∀c∈l,c.ok e)→eW k l=true→(ab.bg .bool i).aH e .bool= !(x.aH e .bool)∧x.lt k=true
 |[],h,_,_=>by cases h
 |c::r,h,hc,ao=>by
  have yf: ∀c∈r,c.ok e:=fun c hm=>hc c (List.mem_cons_of_mem _ hm)
  have r5:c.lt k=true∧eW k r=true:=by simpa only[eW,Bool.and_eq_true]using ao
  unfold zF at h
  split at h
  ·rename_i heq;cases heq
  ·rename_i j y er heq
   cases heq
   split at h
   ·rename_i ai
    have ai:=Nat.eq_of_beq_eq_true ai
    subst ai
    split at h
    ·cases h
     have aS:Env.at e j=⟨eQ.mZ.c,eQ.mZ.den (x.aH e eQ.mZ.a)⟩:=hc _ (List.mem_cons_self ..)
     have aa:=r5.1
     simp only[bU.lt,Bool.and_eq_true]at aa;refine⟨?_,aa.2⟩
     simp only[ab.aH,ab.fG,ab.dyn,aS,cQ];rfl
    ·cases h
   ·exact JB h yf r5.2
  ·rename_i heq
   cases heq;exact JB h yf r5.2
theorem QB{S:ar}{v:ab}{b:Bool}{e:Env}(ad:S.cv)(hf:S.cw e)(ao:v.lt S.k=true)(av:v.aH e .bool=b):(S.dJ v b).cv∧(S.dJ v b).cw e∧(S.dJ v b).k=S.k∧(S.dJ v b).den G N B e=S.den G N B e:=by
 unfold ar.dJ
 split
 ·rename_i i
  split
  ·rename_i x hx
   obtain⟨aa,ae⟩:=JB hx hf ad.g;rw[av]at aa
   have aq:x.aH e .bool= !b:=by rw[aa];cases x.aH e .bool<;>rfl
   have bB:=zA (b:=b) ad ao
   have a2:=zB hf av
   exact⟨zA (S:={S with g:=.dJ (.bg .bool i) b::S.g}) (b:=!b) bB ae,zB (S:={S with g:=.dJ (.bg .bool i) b::S.g}) a2 aq,rfl,rfl⟩
  ·exact⟨zA ad ao,zB hf av,rfl,rfl⟩
 ·exact⟨zA ad ao,zB hf av,rfl,rfl⟩
theorem zar{x:Operand}{a b:Code}{f g:ar→az}(hf:kI P G N B M a f)(ag:kI P G N B M b g):kI P G N B M (.cond x a b) (fun S=>JA N S x f g):=by
 intro S e ad eO ah
 have hx:=bI (G:=G) (N:=N) (B:=B) eO x
 have bA:=y4 (N:=N) ad x
 simp only at ah⊢
 unfold JA at ah⊢
 generalize S.aX N x=v at ah hx bA⊢
 split at ah
 ·exact bW.N5 hx (hf S e ad eO ah)
 ·exact bW.N6 hx (ag S e ad eO ah)
 ·rename_i aa ae
  split at ah
  ·rename_i af
   have hd:=gG (G:=G) (e:=e) af
   rw[←hx]at hd
   have hd:=hd.trans (show _=aD.au (.v (.bool _))from rfl)
   split at ah
   ·rename_i aj
    rw[QA aj eO]at hd;exact bW.N5 hd (hf S e ad eO ah)
   ·rename_i aj
    rw[QA aj eO]at hd;exact bW.N6 hd (ag S e ad eO ah)
   ·refine bW.cond hd (fun aG=>?_) (fun aG=>?_)
    ·obtain⟨dh,dv,kq,qy⟩:=QB (G:=G) (N:=N) (B:=B) ad eO bA aG
     have:=hf _ e dh dv (ah.1 aG)
     rw[qy]at this;refine bW.mono this fun ex st ak=>ak.sub ?_ (bX.refl _ _) (Nat.le_of_eq kq.symm)
     rw[sB aG]
    ·obtain⟨dh,dv,kq,qy⟩:=QB (G:=G) (N:=N) (B:=B) ad eO bA aG
     have:=ag _ e dh dv (ah.2 aG)
     rw[qy]at this;refine bW.mono this fun ex st ak=>ak.sub ?_ (bX.refl _ _) (Nat.le_of_eq kq.symm)
     rw[sB aG]
  ·exact ah.elim
theorem zas{id:Nat}{c:Code}{f:ar→az}(hf:kI P G N B M c f):kI P G N B M (.block id c) (fun S=>(f S).rel (oG id)):=by
 intro S e ad eO ah
 have an:=YS (f S) id
 refine bW.block (bW.mono (hf S e ad eO ((lK an).1 ah)) fun ex st ak=>?_)
 obtain⟨x,di,aw,aa,ae,aq,aT,bD,cA,dx⟩:=ak
 have af:run M ((f S).rel (oG id)) e=some (oG id x,di,aw):=by rw[yZ an,aa];rfl
 cases x with
 |b5=>cases ex<;>first|exact⟨_,di,aw,af,trivial,aq,aT,bD,cA,dx⟩|exact ae.elim
 |ret=>cases ex<;>first|exact⟨_,di,aw,af,trivial,aq,aT,bD,cA,dx⟩|exact ae.elim
 |ld n=>exact(by cases ex<;>exact ae.elim)
 |ext n=>
  cases ex with
  |exit m=>
   have ae:n=m:=ae
   subst ae;show(bif Nat.beq n id then _ else _)
   cases ad:Nat.beq n id with
   |true=>exact⟨.b5,di,aw,by rw[af];simp only[oG,ad],trivial,aq,aT,bD,cA,dx⟩
   |false=>exact⟨.ext n,di,aw,by rw[af];simp only[oG,ad],rfl,aq,aT,bD,cA,dx⟩
  |_=>exact ae.elim
theorem zat{a b:Code}{f g:ar→az}(hf:kI P G N B M a f)(ag:kI P G N B M b g):kI P G N B M (.seq a b) (fun S=>kG N S (f S) g):=by
 intro S e ad eO ah
 obtain⟨t1,t2,t3⟩:=CO (G:=G) (B:=B) ad eO ah
 refine bW.seq (bW.mono (hf S e ad eO t1) fun ex st ak=>?_)
 obtain⟨x,di,aw,aa,ae,aq,aT,bD,cA,dx⟩:=ak
 have other:x≠ .b5→ex≠ .normal→jb G N B M (kG N S (f S) g) e S.k ex st:=fun cf _=>⟨x,di,aw,t2 x di aw aa cf (Qm ae),ae,aq,aT,bD,cA,dx⟩
 cases x with
 |b5=>
  cases ex with
  |normal=>
   obtain⟨dO,aV,s1,s2,hb,kj,kk,kl,kQ⟩:=t3 di aw aa aT bD cA dx;exact bW.le aq (bW.le s1 (bW.mono (ag dO aV s2 hb kl) fun ex st ak=>ak.sub kQ kj kk))
  |_=>exact ae.elim
 |ret=>cases ex<;>first|exact other (by simp) (by simp)|exact ae.elim
 |ext n=>cases ex<;>first|exact other (by simp) (by simp)|exact ae.elim
 |ld n=>cases ex<;>exact ae.elim
theorem JC{c:Code}{x:bR}{ex:Exit}(h:zv x ex)(k: ∀{Q:Exit→aM→Prop} {s:aM},Q ex s→bW P G c Q s):kI P G N B M c (fun S=>.cr x S):=
 fun S e ad hf _=>k ⟨x,S,e,rfl,h,cL.refl _,ad,hf,bX.refl _ _,Nat.le_refl _⟩
def JD(P:Program)(G:aY)(N B:Nat)(M:List aW)(L:(ar→az)→Nat→ar→az):Prop:=∀c f id,kI P G N B M c f→kI P G N B M (.loop c) (L f id)
def JE(P:Program)(G:aY)(N B:Nat)(M:List aW)(D:Array Oper→ar→az):Prop:=∀id ops,kI P G N B M (.region id ops true) (D ops)
theorem uO(ch:gI P G M inl)(fA:JD P G N B M L)(l3:JE P G N B M D): ∀(c:Code) (cur:Nat),kI P G N B M c (comp P N B T inl L D c cur)
 | .skip,_=>JC (ex:=.normal) trivial bW.skip
 | .ret,_=>JC (ex:=.ret) trivial bW.ret
 | .exit id,_=>JC (ex:=.exit id) rfl bW.exit
 | .region id ops draw,_=>by
  cases draw with
  |true=>exact l3 id ops
  |false=>
   intro S e ad hf ah
   have lV:ops=ops.toList.toArray:=by simp
   rw[lV];refine bW.region ?_
   rw[←lV];exact zC ch ops.toList ad hf ah fun _ _ h=>h
 | .cond x a b,cur=>zar (uO ch fA l3 a cur) (uO ch fA l3 b cur)
 | .block id c,_=>zas (uO ch fA l3 c id)
 | .seq a b,cur=>zat (uO ch fA l3 a cur) (uO ch fA l3 b cur)
 | .loop c,cur=>fA c _ cur (uO ch fA l3 c cur)
 | .rangeFunc _ _ _ _,_=>fun _ _ _ _ h=>h.elim
 | .scope _,_=>fun _ _ _ _ h=>h.elim
 | .label _,_=>fun _ _ _ _ h=>h.elim
 | .goto _,_=>fun _ _ _ _ h=>h.elim
 | .refuse _,_=>fun _ _ _ _ h=>h.elim
end
end Go.aL
namespace Go.aL
open Go
def zI:Nat→List ab→List (Nat × ab)
 |_,[]=>[]
 |i,x::r=>(i,x)::zI (i+1) r
def wZ(P:Program)(N:Nat)(S:ar):List ResultVar→Option (List ab)
 |[]=>some []
 | .tmp t::r=>match wZ P N S r with
  |some l=>some (S.aX N (.tmp t)::l)
  |none=>none
 | .cell p t::r=>match wZ P N S r,uz S (S.aX N (.tmp p))with
  |some l,some cs=>match q5 P t cs with
   |some v=>some (v::l)
   |none=>none
  |_,_=>none
def JF(P:Program)(fn:Func)(N:Nat)(S:ar):Option ab:=
 match wZ P N S fn.results.toList with
 |some [x]=>some x
 |some l=>some (.tp l)
 |none=>none
def zJ:bR→bR
 | .ret=>.b5
 |x=>x
def zau:bR→Bool
 | .b5=>true
 | .ret=>true
 |_=>false
def C6(P:Program)(fn:Func)(N:Nat)(S:ar):az:=
 match JF P fn N S with
 |some v=>match v.lt S.k with
  |true=>.cr .b5 {S with l:=a1.put .emp 0 v}
  |false=>.bad 44
 |none=>.bad 43
structure oc where
 L:Nat→Nat→(Nat→List ab→ar→az)→(ar→az)→Nat→ar→az
 D:Nat→Nat→(Nat→List ab→ar→az)→Array Oper→ar→az
def uP(as:List ab)(S:ar):ar:={S with l:=eX (zI 0 as)}
def JG(P:Program)(H:oc)(T:List (Nat × bN))(inl:Nat→List ab→ar→az)(c:Code)(N:Nat)(as:List ab)(S:ar):az:=
 comp P N S.n T inl (H.L N S.n inl) (H.D N S.n inl) c 0 (uP as S)
def w0(n:Nat)(m:Nat):Nat:=
 match n with
 |0=>m
 |k+1=>k+1
def az.ni:az→Nat
 | .cr _ _=>0
 | .lt _ _ t=>t.ni
 | .eH _ t=>t.ni
 | .it _ a b=>w0 a.ni b.ni
 | .dn _ a _ k=>w0 a.ni k.ni
 | .dY _ _ _ _ _ a k=>w0 a.ni k.ni
 | .eE _ _ _ a k=>w0 a.ni k.ni
 | .bad n=>n
def zav(f n:Nat):Nat:=
 match Nat.ble 1000 n with
 |true=>n
 |false=>f*1000+n
def QC(P:Program)(f:Nat)(fn:Func)(N:Nat)(t:az):az:=
 match t.e3 zau with
 |true=>(t.rel zJ).ez (C6 P fn N) none
 |false=>.bad (zav f t.ni)
def JH(P:Program)(H:oc)(T:List (Nat × bN))(inl:Nat→List ab→ar→az)(f:Nat)(as:List ab)(S:ar):az:=
 match P.funcs[f]? with
 |some fn=>match fn.body with
  |some c=>QC P f fn (as.length+(fn.ntmps-as.length)) (JG P H T inl c (as.length+(fn.ntmps-as.length)) as S)
  |none=>.bad 41
 |none=>.bad 42
section
variable {P:Program} {G:aY} {N B:Nat} {M:List aW} {T:List (Nat × bN)} {inl:Nat→List ab→ar→az} {H:oc}
def JI(P:Program)(G:aY)(M:List aW)(H:oc):Prop:=∀(inl:Nat→List ab→ar→az),gI P G M inl→∀N B,JD P G N B M (H.L N B inl)∧JE P G N B M (H.D N B inl)
theorem QD{t:TypeId}{l:List ab}{v:ab}{e:Env}(h:q5 P t l=some v):
 (∃n,l2 P t=some n∧n≤l.length∧0<n∧v.den G e= .agg ((ab.bP G e l).take n))∨(l2 P t=none∧scalar P t=true∧∃r,l=v::r):=by
 unfold q5 at h
 split at h
 ·rename_i n hn
  split at h
  ·rename_i ad
   simp only[Bool.and_eq_true]at ad;cases h;refine .inl ⟨n,hn,Nat.le_of_ble_eq_true ad.1,Nat.le_of_ble_eq_true ad.2,?_⟩
   simp only[ab.den,eD,List.map_take]
  ·cases h
 ·rename_i hn
  split at h
  ·rename_i ah
   cases h;exact .inr ⟨hn,ah,_,rfl⟩
  ·cases h
theorem C7{S:ar}{e:Env}(hf:S.cw e): ∀{l:List ResultVar} {vs:List ab},wZ P N S l=some vs→mQ P (S.den G N B e) l=some (ab.bP G e vs)
 |[],vs,h=>by cases h;rfl
 | .tmp t::r,vs,h=>by
  simp only[wZ]at h
  split at h
  ·rename_i l ao
   cases h
   have:=bI (G:=G) (N:=N) (B:=B) hf (.tmp t)
   simp only[mQ,C7 hf ao,ab.bP,←this];rfl
  ·cases h
 | .cell p t::r,vs,h=>by
  simp only[wZ]at h
  split at h
  ·rename_i l cs ao hc
   split at h
   ·rename_i v av
    cases h
    have aa:=bI (G:=G) (N:=N) (B:=B) hf (.tmp p)
    have ae:=za (G:=G) (N:=N) (B:=B) (e:=e) hc
    rw[←aa]at ae
    have ae:fc (S.den G N B e).heap ((S.den G N B e).cC.getD p .top)=some (ab.bP G e cs):=ae
    simp only[mQ,C7 hf ao,ae,ab.bP]
    rcases QD (G:=G) (e:=e) av with⟨n,g1,g2,g3,g4⟩|⟨g1,g2,er,g3⟩
    ·simp only[g1,g4]
     rw[if_pos ⟨by rw[ng];exact g2,g3⟩]
    ·subst g3
     simp only[g1,g2,if_true,ab.bP]
   ·cases h
  ·cases h
theorem zaw{fn:Func}{S:ar}{e:Env}{v:ab}(hf:S.cw e)(h:JF P fn N S=some v):yp P fn (S.den G N B e)=some (v.den G e):=by
 unfold JF at h
 unfold yp
 split at h
 ·rename_i x hx
  cases h;rw[C7 hf hx];rfl
 ·rename_i l cf ao
  cases h;rw[C7 hf ao]
  match l with
  |[]=>rfl
  |[x]=>exact absurd rfl (cf x)
  |x::y::l=>rfl
 ·cases h
theorem QE(t:az):t.ib zJ:=nc (t.lvl+1) (Nat.lt_succ_self _) (fun n _ x h=>by cases x<;>first|rfl|exact h) (fun n x h=>by cases x<;>first|rfl|exact h)
theorem JJ: ∀{l:List ab} {i j:Nat},(eX (zI i l)).get j=if j<i then none else l[j-i]?
 |[],i,j=>by simp only[zI,eX];split<;>simp[a1.get]
 |x::r,i,j=>by
  simp only[zI,eX,a1.jV,JJ (l:=r)]
  by_cases h:i=j
  ·subst h;simp
  ·rw[if_neg h]
   by_cases ae:j<i
   ·rw[if_pos ae,if_pos (by omega)]
   ·rw[if_neg ae,if_neg (by omega),show j-i=(j-(i+1))+1 by omega,List.getElem?_cons_succ]
theorem zax{as:List ab}{S:ar}{e:Env}{k:Nat}:(uP as S).den G (as.length+k) S.n e=⟨ab.bP G e as++List.replicate k .top,cK G e S.h,S.n,S.n⟩:=by
 simp only[ar.den,uP,aM.mk.injEq,and_true,true_and]
 apply List.ext_getElem?
 intro j
 rw[q3,Nat.zero_add,JJ,if_neg (Nat.not_lt_zero _),Nat.sub_zero,eD,List.getElem?_append,List.getElem?_replicate,List.length_map]
 by_cases h:j<as.length
 ·rw[if_pos (by omega),if_pos h,List.getElem?_map,List.getElem?_eq_getElem h]
  rfl
 ·rw[if_neg h]
  by_cases ae:j<as.length+k
  ·rw[if_pos ae,if_pos (by omega),List.getElem?_eq_none (by omega)]
  ·rw[if_neg ae,if_neg (by omega)]
theorem zay{as:List ab}{S:ar}(ad:S.cv)(ao:ab.cB S.k as=true):(uP as S).cv:=by
 refine⟨fun i x hx=>?_,ad.h,ad.g⟩
 simp only[uP,JJ,Nat.not_lt_zero,if_false,Nat.sub_zero]at hx
 have hm:=List.mem_of_getElem? hx
 clear hx
 induction as with
 |nil=>cases hm
 |cons y r aQ=>
  simp only[ab.cB,Bool.and_eq_true]at ao
  rcases List.mem_cons.1 hm with rfl|hm
  ·exact ao.1
  ·exact aQ ao.2 hm
theorem bW.zaz{c:Code}{Q:Exit→aM→Prop}{s:aM}(h:bW P G c (fun e st=>∃C8,cL st C8∧Q e C8) s):bW P G c Q s:=fun E a w af=>
 wp_mono (h E a w af) fun _ a6 w' ⟨st,⟨C8,ao,aJ⟩,ae⟩=>⟨C8,aJ,ao E G a6 w' ae⟩
theorem zaA(uQ:JI P G M H)(ch:gI P G M inl):gI P G M (JH P H T inl):=by
 intro f as S e ad ao hf ah
 unfold JH at ah⊢
 split at ah
 ·rename_i fn uE
  split at ah
  ·rename_i c hc
   generalize ha:as.length+(fn.ntmps-as.length)=N at ah;generalize aG:JG P H T inl c N as S=t at ah;unfold QC at ah⊢
   split at ah
   ·rename_i JK
    obtain⟨g1,g2,g3⟩:=jt (t.rel zJ) none ah
    have zK:t.safe M e:=(lK (QE t)).1 g1
    have QF:=uO (T:=T) (B:=S.n) (N:=N) ch (uQ inl ch N S.n).1 (uQ inl ch N S.n).2 c 0 (uP as S) e (zay ad ao) hf (by
     unfold JG at aG;rw[aG];exact zK)
    have cq:comp P N S.n T inl (H.L N S.n inl) (H.D N S.n inl) c 0 (uP as S)=t:=aG
    rw[cq,←ha,zax,ha]at QF;refine dI.Xh (k:=fn.ntmps-as.length) uE hc (by rw[ng]) (bW.zaz (bW.mono QF fun ex st ak=>?_))
    obtain⟨x,di,aw,aa,ae,aq,aT,bD,cA,dx⟩:=ak;refine⟨_,aq,?_⟩
    obtain⟨k8,dO,aV,dh,dv⟩:=js (M:=M) (e:=e) JK;rw[aa]at dh
    cases dh
    have af:run M (t.rel zJ) e=some (.b5,di,aw):=by
     rw[yZ (QE t),aa]
     cases x<;>first|rfl|cases dv
    obtain⟨zL,_⟩:=g3 di aw af;rw[af]at g2
    have g2:run M ((t.rel zJ).ez (C6 P fn N) none) e=run M (C6 P fn N di) aw:=g2
    unfold C6 at zL g2
    split at zL
    ·rename_i v av
     split at zL
     ·rename_i oP
      simp only[av,oP]at g2;refine⟨(by cases x<;>cases ex<;>first|exact .inl rfl|exact .inr rfl|exact ae.elim|cases dv),v.den G aw,cK G aw di.h,zaw bD av,fun _ _ h=>h,{di with l:=a1.put .emp 0 v},aw,g2,?_,rfl,⟨fun i x hx=>?_,aT.h,aT.g⟩,bD,cA,dx⟩
      ·simp only[ar.at,a1.jV,if_true]
      ·simp only[a1.jV]at hx
       split at hx
       ·cases hx;exact oP
       ·simp[a1.get]at hx
     ·exact zL.elim
    ·exact zL.elim
   ·exact ah.elim
  ·exact ah.elim
 ·exact ah.elim
end
end Go.aL
