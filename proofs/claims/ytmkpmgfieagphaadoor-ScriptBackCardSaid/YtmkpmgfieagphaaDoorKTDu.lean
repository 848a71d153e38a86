/- TD, part P: states are joined; what follows a part. Conditions: none. -/
import Derived.Test.YtmkpmgfieagphaaDoorKTDo
namespace Go.aG
open Go
def allEq(v:ab):List ab→Bool
 |[]=>true
 |x::r=>fi x v&&allEq v r
def typeOf:List ab→Option aU
 |[]=>none
 |x::r=>match x.rt with
  |some t=>some t
  |none=>typeOf r
def Ar(r:aU):List ab→Bool
 |[]=>true
 |x::l=>x.fl r&&Ar r l
def LC(n:Nat):List ab→Bool
 |[]=>true
 | .cm l::r=>Nat.beq l.length n&&LC n r
 |_::_=>false
def LD(n:Nat):List ab→Bool
 |[]=>true
 | .tp l::r=>Nat.beq l.length n&&LD n r
 |_::_=>false
def ab.parts:ab→List ab
 | .tp l=>l
 | .cm l=>l
 |x=>[x]
def FC:List (List ab)→List ab
 |[]=>[]
 |l::r=>en .top l 0::FC r
def FD:List (List ab)→List (List ab)
 |[]=>[]
 |l::r=>l.tail::FD r
def um(r:Option (Nat × Nat)):List ab→Option (Nat × Nat)
 |[]=>r
 | .de i o::l=>match r with
  |none=>um (some (i,o)) l
  |some (j,q)=>match Nat.beq i j&&Nat.beq o q with
   |true=>um r l
   |false=>none
 | .eH _ (some i) o::l=>match r with
  |none=>um (some (i,o)) l
  |some (j,q)=>match Nat.beq i j&&Nat.beq o q with
   |true=>um r l
   |false=>none
 | .cs (.pointer none)::l=>um r l
 |_::_=>none
mutual
def FE(aR:Nat)(p:dN)(rest:List ab)(k:Nat):ab→ab × fa
 | .cm l=>match LC l.length rest with
  |true=>match FF aR p 0 (rest.map ab.cells) k l with
   |(ws,ps)=>(.cm ws,ps)
  |false=>(.top,[])
 | .tp l=>match LD l.length rest with
  |true=>match FF aR p 0 (rest.map ab.parts) k l with
   |(ws,ps)=>(.tp ws,ps)
  |false=>(.top,[])
 |v=>match allEq v rest&&v.lt aR with
  |true=>(v,[])
  |false=>match typeOf (v::rest)with
   |some r=>match Ar r (v::rest)with
    |true=>(.bb r k,[(k,r,p)])
    |false=>(.top,[])
   |none=>match um none (v::rest)with
    |some (id,off)=>(.eH (.bb .bool k) (some id) off,[(k,.bool,.jP p)])
    |none=>(.top,[])
def FF(aR:Nat)(p:dN):Nat→List (List ab)→Nat→List ab→List ab × fa
 |_,_,_,[]=>([],[])
 |i,rs,k,v::l=>match FE aR (sq p i) (FC rs) k v with
  |(w,ps)=>match FF aR p (i+1) (FD rs) (k+ps.length) l with
   |(ws,qs)=>(w::ws,ps++qs)
end
def LF:ab→Bool
 | .top=>true
 |_=>false
def slotsOf(i:Nat):List aq→List ab
 |[]=>[]
 |S::r=>S.at i::slotsOf i r
def FG(aR:Nat)(s:aq)(dR:List aq):Nat→Nat→Nat→List (Nat × ab) × fa
 |0,_,_=>([],[])
 |n+1,i,k=>match LF (s.at i)with
  |true=>FG aR s dR n (i+1) k
  |false=>match FE aR (.slot i []) (slotsOf i dR) k (s.at i)with
   |(w,ps)=>match FG aR s dR n (i+1) (k+ps.length)with
    |(l,qs)=>match LF w with
     |true=>(l,ps++qs)
     |false=>((i,w)::l,ps++qs)
def cellsOf(id:Nat):List aq→Option (List (List ab))
 |[]=>some []
 |S::r=>match c2 S.h id,cellsOf id r with
  |some (.cT _ l),some m=>some (l::m)
  |_,_=>none
def rowsOf(id:Nat)(c:bC):List aq→Option (List ab)
 |[]=>some []
 |S::r=>match c2 S.h id,rowsOf id c r with
  |some (.rw _ d x),some m=>match decide (d=c)with
   |true=>some (x::m)
   |false=>none
  |_,_=>none
def LG(id:Nat)(x:ab):List aq→Option (List ab)
 |[]=>some []
 |S::r=>match c2 S.h id,LG id x r with
  |some (.it y p),some m=>match fi y x with
   |true=>some (p::m)
   |false=>none
  |_,_=>none
def LH(aR id:Nat):Nat→List (List ab)→Nat→List ab→List ab × fa
 |_,_,_,[]=>([],[])
 |j,rs,k,v::l=>match FE aR (.box id j []) (FC rs) k v with
  |(w,ps)=>match LH aR id (j+1) (FD rs) (k+ps.length) l with
   |(ws,qs)=>(w::ws,ps++qs)
def nH(aR:Nat)(dR:List aq):List (Nat × bq)→Nat→List (Nat × bq) × fa
 |[],_=>([],[])
 |(id,.cT t l)::r,k=>match cellsOf id dR with
  |some rs=>match LH aR id 0 rs k l with
   |(ws,ps)=>match nH aR dR r (k+ps.length)with
    |(h,qs)=>((id,.cT t ws)::h,ps++qs)
  |none=>nH aR dR r k
 |(id,.rw t c x)::r,k=>match rowsOf id c dR with
  |some xs=>match allEq x xs&&x.lt aR with
   |true=>match nH aR dR r k with
    |(h,qs)=>((id,.rw t c x)::h,qs)
   |false=>match Ar (.li c) (x::xs)with
    |true=>match nH aR dR r (k+1)with
     |(h,qs)=>((id,.rw t c (.bb (.li c) k))::h,(k,.li c,.row id)::qs)
    |false=>nH aR dR r k
  |none=>nH aR dR r k
 |(id,.it x p)::r,k=>match LG id x dR with
  |some xs=>match allEq p xs&&p.lt aR with
   |true=>match nH aR dR r k with
    |(h,qs)=>((id,.it x p)::h,qs)
   |false=>match Ar (.int .i64) (p::xs)with
    |true=>match nH aR dR r (k+1)with
     |(h,qs)=>((id,.it x (.bb (.int .i64) k))::h,(k,.int .i64,.row id)::qs)
    |false=>nH aR dR r k
  |none=>nH aR dR r k
def As(n:Nat):List aq→Nat
 |[]=>n
 |S::r=>Nat.max S.n (As n r)
def xa(N aR:Nat)(s:aq)(dR:List aq):fJ:=
 match FG aR s dR N 0 aR with
 |(l,ps)=>match nH aR dR s.h (aR+ps.length)with
  |(h,qs)=>⟨l,h,As s.n dR,ps++qs⟩
def sr(S0:aq)(t:ay)(J:fJ)(dR:List aq)(f:aq→ay):ay:=
 match hh S0.k J.ps&&((pA (S0.k+J.ps.length) J.l&&ei (S0.k+J.ps.length) J.h)&&Ap J S0.k dR)with
 |true=>.c3 (t.lvl+1) (t.rel (e8 (t.lvl+1))) J.ps (f (J.S S0.k S0.g))
 |false=>.bad 8
def LI:bJ→Bool
 | .dp (.cs (.bool true)) true=>true
 |_=>false
def LJ:List bJ→Bool
 |[]=>false
 |c::r=>LI c||LJ r
def ss:List bJ→List bJ
 |[]=>[]
 |c::r=>match LI c with
  |true=>ss r
  |false=>c::ss r
def aq.At(S:aq):aq:={S with g:=.dp (.cs (.bool true)) true::S.g}
def aq.xb(S:aq):aq:={S with g:=ss S.g}
def FH:List aq→Bool
 |[]=>true
 |S::r=>LJ S.g&&FH r
def jR(N:Nat)(S0:aq)(t:ay)(f:aq→ay):ay:=
 match t.gh with
 |[]=>t
 |[_]=>t.eb f none
 |s::dR=>match FH (s::dR)with
  |true=>t.eb (fun S=>f S.xb) none
  |false=>sr S0 t (xa N S0.k s dR) (s::dR) f
def jn:List (ab × Bool)→ab→ab
 |[],v=>v
 |(g,b)::r,v=>.e6 g b (jn r v)
def FI(d:Nat)(gs:List (ab × Bool)):List (Nat × ab)→List (Nat × ab)
 |[]=>[]
 |(i,x)::r=>match Nat.beq i d with
  |true=>(i,jn gs x)::FI d gs r
  |false=>(i,x)::FI d gs r
def FJ(d:Nat)(v:ab):List aq→List aq
 |[]=>[]
 |S::r=>match Aj (S.at d)with
  |true=>S.put (some d) v::FJ d v r
  |false=>S::FJ d v r
def LK(d:Nat):List aq→ab
 |[]=>.top
 |S::r=>match Aj (S.at d)with
  |true=>LK d r
  |false=>S.at d
def UD(N aR d:Nat)(gs:List (ab × Bool))(dR:List aq):fJ:=
 match FJ d (LK d dR) dR with
 |bd::UE=>match xa N aR bd UE with
  |J=>⟨FI d gs J.l,J.h,J.n,J.ps⟩
 |[]=>⟨[],[],0,[]⟩
def oz(N:Nat)(S0:aq)(dst:Option Nat)(gs:List (ab × Bool))(t:ay)(f:aq→ay):ay:=
 match dst,gs,t.gh with
 |some d,_::_,s::s2::dR=>sr S0 t (UD N S0.k d gs (s::s2::dR)) (s::s2::dR) f
 |_,_,_=>jR N S0 t f
section
variable {M:List bc} {G:aY} {N B:Nat}
def aq.cf(S:aq)(e:Env):Prop:=∀c∈S.g,c.ok e
theorem LL{J:fJ}{aR:Nat}: ∀{dR:List aq},Ap J aR dR=true→∀S∈dR,ik J aR S=true
 |_::r,h,S,hm=>by
  simp only[Ap,Bool.and_eq_true]at h
  rcases List.mem_cons.1 hm with rfl|q
  ·exact h.1
  ·exact LL h.2 S q
theorem qL{k:Nat}: ∀{l:List (Nat × ab)},pA k l=true→∀{i:Nat} {x:ab},(i,x)∈l→x.lt k=true
 |(j,y)::r,h,i,x,hm=>by
  simp only[pA,Bool.and_eq_true]at h
  rcases List.mem_cons.1 hm with q|q
  ·cases q;exact h.1
  ·exact qL h.2 q
theorem LM{S0:aq}{t:ay}{J:fJ}{dR:List aq}{f:aq→ay}{e:Env}(hn:t.gh=dR)(ad:S0.cd)(hf:S0.cf e)(ah:(sr S0 t J dR f).safe M e):
 t.safe M e∧(∀x aN aC,run M t e=some (x,aN,aC)→x≠ .bY→(∀n,x.bu n=false)→run M (sr S0 t J dR f) e=some (x,aN,aC))∧
 ∀aN aC,run M t e=some (.bY,aN,aC)→aN.cd→aN.cf aC→bM S0.k e aC→S0.k≤aN.k→
  ∃dt a6,cw (aN.den G N B aC) (dt.den G N B a6)∧dt.cd∧dt.cf a6∧bM S0.k e a6∧S0.k≤dt.k∧(f dt).safe M a6∧run M (sr S0 t J dR f) e=run M (f dt) a6:=by
 unfold sr at ah⊢
 split at ah
 ·rename_i hc
  simp only[Bool.and_eq_true]at hc;obtain⟨aF,⟨ea,fU⟩,kk⟩:=hc
  have iR:t.hC (e8 (t.lvl+1)):=Er (Nat.lt_succ_self _)
  have oA:=wM (M:=M) iR e
  refine⟨(kG iR).1 ah.1,fun x aN aC h hx ai=>?_,fun aN aC h aa af ar aQ=>?_⟩
  ·rw[h]at oA
   have oA:run M _ e=some (e8 (t.lvl+1) x,aN,aC):=oA
   have hm:e8 (t.lvl+1) x=x:=by
    cases x with
    |bY=>exact absurd rfl hx
    |_=>rfl
   rw[hm]at oA;unfold run;rw[lP oA (ai _)]
  ·rw[h]at oA
   have oA:run M _ e=some (.kg (t.lvl+1),aN,aC):=oA
   have ai:bH.bu (t.lvl+1) (.kg (t.lvl+1))=true:=Nat.beq_refl _
   have UF:=KO ah oA ai
   have hle:=Aq (G:=G) (N:=N) (B:=B) aF af (LL kk aN (by have:=lU h;rw[hn]at this;exact this)) (g:=S0.g) ar
   have bs:bM S0.k e (fg e (fun r p=>⟨r,(p.cH aN).get aC r⟩) J.ps):=fun i hi=>w9 aF i hi
   refine⟨J.S S0.k S0.g,_,hle,⟨fun i x hx=>qL ea (nF hx),fU,ny (Nat.le_add_right _ _) ad.g⟩,hE bs ad.g hf,bs,Nat.le_add_right _ _,UF,?_⟩
   show(ay.c3 _ _ _ _).fold M e _ none=_;rw[oq oA ai];rfl
 ·exact ah.elim
theorem FK: ∀{g:List bJ} {c:bJ},c∈ss g→c∈g
 |[],_,h=>h
 |d::r,c,h=>by
  unfold ss at h
  split at h
  ·exact List.mem_cons_of_mem _ (FK h)
  ·rcases List.mem_cons.1 h with rfl|h
   ·exact List.mem_cons_self ..
   ·exact List.mem_cons_of_mem _ (FK h)
theorem FL{k:Nat}: ∀{g:List bJ},eI k g=true→eI k (ss g)=true
 |[],_=>rfl
 |d::r,h=>by
  simp only[eI,Bool.and_eq_true]at h;unfold ss
  split
  ·exact FL h.2
  ·simp only[eI,Bool.and_eq_true];exact⟨h.1,FL h.2⟩
theorem UG{S:aq}(h:S.cd):S.xb.cd:=⟨h.l,h.h,FL h.g⟩
theorem UH{S:aq}{e:Env}(h:S.cf e):S.xb.cf e:=fun c hc=>h c (FK hc)
theorem LN{S:aq}(h:S.cd):S.At.cd:=⟨h.l,h.h,by show(true&&eI S.k S.g)=true;rw[Bool.true_and];exact h.g⟩
theorem LO{S:aq}{e:Env}(h:S.cf e):S.At.cf e:=fun c hc=>by
 rcases List.mem_cons.1 hc with rfl|hc
 ·rfl
 ·exact h c hc
theorem Au{S0:aq}{t:ay}{f:aq→ay}{e:Env}(ad:S0.cd)(hf:S0.cf e)(ah:(jR N S0 t f).safe M e):
 t.safe M e∧(∀x aN aC,run M t e=some (x,aN,aC)→x≠ .bY→(∀n,x.bu n=false)→run M (jR N S0 t f) e=some (x,aN,aC))∧
 ∀aN aC,run M t e=some (.bY,aN,aC)→aN.cd→aN.cf aC→bM S0.k e aC→S0.k≤aN.k→
  ∃dt a6,cw (aN.den G N B aC) (dt.den G N B a6)∧dt.cd∧dt.cf a6∧bM S0.k e a6∧S0.k≤dt.k∧(f dt).safe M a6∧run M (jR N S0 t f) e=run M (f dt) a6:=by
 have eP:=ah
 unfold jR at ah
 split at ah
 ·rename_i hn
  have gy:jR N S0 t f=t:=by unfold jR;rw[hn]
  rw[gy];refine⟨ah,fun x aN aC h _ _=>h,fun aN aC h=>?_⟩
  have:=lU h
  rw[hn]at this
  cases this
 ·rename_i hn
  have gy:jR N S0 t f=t.eb f none:=by unfold jR;rw[hn]
  rw[gy];obtain⟨g1,g2,g3⟩:=iJ t none ah;refine⟨g1,fun x aN aC h hx _=>by rw[g2,h,wN hx],fun aN aC h aa af ar aQ=>?_⟩
  exact⟨aN,aC,cw.refl _,aa,af,ar,aQ,(g3 aN aC h).1,by rw[g2,h];rfl⟩
 ·rename_i s dR bX LP
  have gy:jR N S0 t f=match FH (s::dR)with
   |true=>t.eb (fun S=>f S.xb) none
   |false=>sr S0 t (xa N S0.k s dR) (s::dR) f:=by
   unfold jR;rw[LP]
   cases dR with
   |nil=>exact absurd rfl bX
   |cons q r=>rfl
  rw[gy]
  split at ah
  ·obtain⟨g1,g2,g3⟩:=iJ t none ah
   refine⟨g1,fun x aN aC h hx _=>by rw[g2,h,wN hx],fun aN aC h aa af ar aQ=>?_⟩
   exact⟨aN.xb,aC,cw.refl _,UG aa,UH af,ar,aQ,(g3 aN aC h).1,by rw[g2,h];rfl⟩
  ·exact LM LP ad hf ah
theorem FM{S0:aq}{dst:Option Nat}{gs:List (ab × Bool)}{t:ay}{f:aq→ay}{e:Env}(ad:S0.cd)(hf:S0.cf e)(ah:(oz N S0 dst gs t f).safe M e):
 t.safe M e∧(∀x aN aC,run M t e=some (x,aN,aC)→x≠ .bY→(∀n,x.bu n=false)→run M (oz N S0 dst gs t f) e=some (x,aN,aC))∧
 ∀aN aC,run M t e=some (.bY,aN,aC)→aN.cd→aN.cf aC→bM S0.k e aC→S0.k≤aN.k→
  ∃dt a6,cw (aN.den G N B aC) (dt.den G N B a6)∧dt.cd∧dt.cf a6∧bM S0.k e a6∧S0.k≤dt.k∧(f dt).safe M a6∧run M (oz N S0 dst gs t f) e=run M (f dt) a6:=by
 unfold oz at ah⊢
 split at ah
 ·rename_i hn
  exact LM hn ad hf ah
 ·exact Au ad hf ah
end
end Go.aG
namespace Go.aG
open Go
def uo(k:Nat):bG→List bJ
 | .f1 .mm x=>[.d1 k .mm x]
 | .f1 (.hU c) x=>[.d1 k (.hU c) x]
 | .f1 .lN x=>[.d1 k .lN x]
 | .f2 (.ic .add .i64 .i64) x y=>[.d2 k (.ic .add .i64 .i64) x y]
 | .f2 (.nt .lss .i64) x y=>[.d2 k (.nt .lss .i64) x y]
 |_=>[]
def uq(k:Nat):List bG→List bJ→List bJ
 |[],g=>g
 |x::r,g=>uq (k+1) r (uo k x++g)
def aq.ej(S:aq)(k:Nat)(xs:List bG):aq:={S with k:=k+xs.length,g:=uq k xs S.g}
inductive Av where
 |yes
 |no
 |on (gs:List (ab × Bool))
 |bad
def su(l:List bJ)(b:Bool):ab→Av
 | .cs (.bool c)=>match decide (c=b)with
  |true=>.yes
  |false=>.no
 | .tp _=>.no
 | .e6 h c v=>match h.rt with
  |some .bool=>match su l b v with
   | .yes=>.on [(h,c)]
   | .no=>.no
   | .on gs=>.on ((h,c)::gs)
   | .bad=>.bad
  |_=>.bad
 |g=>match g.rt,kh g l with
  |some .bool,some c=>match decide (c=b)with
   |true=>.yes
   |false=>.no
  |some .bool,none=>.on [(g,b)]
  |_,_=>.bad
def guardOf(N:Nat)(ops:Array Oper)(S:aq)(o:Oper):Av:=
 match o.guard with
 |none=>.yes
 |some (j,b)=>match k3 ops j with
  |some d=>match Nat.blt d N with
   |true=>su S.g b ((S.at d).res S.g)
   |false=>.bad
  |none=>.bad
def gz:List (ab × Bool)→List bJ→List bJ
 |[],l=>l
 |(g,b)::r,l=>.dp g b::gz r l
def oB:List (ab × Bool)→fA→fA
 |[],n=>n
 |(g,b)::r,n=>.KM g b (oB r n)
def kK(k:Nat):List (ab × Bool)→Bool
 |[]=>true
 |(g,_)::r=>g.lt k&&kK k r
def fb(e:Env):List (ab × Bool)→Bool
 |[]=>true
 |(g,b)::r=>(g.aD e .bool==b)&&fb e r
def FN(P:Program)(B:Nat)(S:aq)(t:TypeId)(x:ab):Option da:=
 match x.rt,isStr P t&&Nat.ble B S.n with
 |some .str,true=>some ⟨[],[],none,(S.n,.it x (.cs (.int .i64 0)))::S.h,S.n+1,.ia S.n⟩
 |_,_=>none
def Aw(P:Program)(N B:Nat)(T:List (Nat × bC))(S:aq)(o:Oper):Option da:=
 match o.op with
 | .alloc t=>E6 P B S t
 | .box t x=>E7 B S t (S.aX N x)
 | .store t p x=>E8 P S t (S.aX N p) (S.aX N x)
 | .buildSlice t len ps=>match Fg P N B T S t len ps.toList with
  |some r=>some r
  |none=>match Ff P N T S t len ps.toList with
   |some r=>some r
   |none=>Fh P N B S t len ps.toList
 | .makeSlice t x y=>Fi P B T S t (S.aX N x) (S.aX N y)
 | .range t x=>FN P B S t (S.aX N x)
 | .call c=>match c.callee,c.args.toList,c.argTypes.toList with
  | .builtin .append,[x,y],[t,bn]=>match Nat.beq t bn with
   |true=>Fl P B S t (S.aX N x) (S.aX N y)
   |false=>Fm P B S t bn (S.aX N x) (S.aX N y)
  |_,_,_=>none
 |_=>none
structure oC where
 xs:List bG
 g:ab
 h:List (Nat × bq)
 v:ab
 bo:ab
def LQ(S:aq)(x:ab):Option oC:=
 match x with
 | .ia id=>match c2 S.h id with
  |some (.it s p)=>match s.rt,p.rt with
   |some .str,some (.int .i64)=>some ⟨[.f2 .ix s p,.f2 .jC s p,.f2 .iy s p,.f2 .hp s p],.bb .bool S.k,jO S.h id (.it s (.bb (.int .i64) (S.k+3))),
    .tp [.cs (.bool true),.bb (.int .i64) (S.k+1),.bb (.int .i32) (S.k+2)],.tp [.cs (.bool false)]⟩
   |_,_=>none
  |_=>none
 |_=>none
def FO(N:Nat)(S:aq)(o:Oper):Option oC:=
 match o.op with
 | .next x true=>LQ S (S.aX N x)
 |_=>none
def oC.ok(q:oC)(S:aq):Bool:=(gx S.k q.xs&&q.g.lt (S.k+q.xs.length))&&(ei (S.k+q.xs.length) q.h&&(q.v.lt (S.k+q.xs.length)&&q.bo.lt (S.k+q.xs.length)))
def oC.st(q:oC)(S:aq)(dst:Option Nat):aq:=(aq.put {S.ej S.k q.xs with h:=q.h,g:=.dp q.g true::(S.ej S.k q.xs).g} dst q.v).At
def oC.ur(q:oC)(S:aq)(dst:Option Nat):aq:=(aq.put {S.ej S.k q.xs with g:=.dp q.g false::(S.ej S.k q.xs).g} dst q.bo).At
def bq.kind:bq→bq→Bool
 | .cT _ _,.cT _ _=>true
 | .rw _ c _,.rw _ d _=>Nat.beq (cO c) (cO d)
 | .it _ _,.it _ _=>true
 |_,_=>false
def xc(n:Nat)(aP:List (Nat × bq)):List (Nat × bq)→Bool
 |[]=>true
 |(id,o)::r=>(match Nat.blt id n with
  |true=>match c2 aP id with
   |some b6=>bq.kind b6 o
   |none=>false
  |false=>true)&&xc n aP r
mutual
def ab.pB(n:Nat):ab→Bool
 | .cm l=>ab.qM n l
 | .tp l=>ab.qM n l
 | .de k _=>Nat.blt k n
 | .fY k _ _=>Nat.blt k n
 | .ga k _ _ _=>Nat.blt k n
 | .aL k=>Nat.blt k n
 | .cC k _=>Nat.blt k n
 | .eH _ (some k) _=>Nat.blt k n
 | .fn _ a b=>ab.qM n a&&ab.qM n b
 | .ia k=>Nat.blt k n
 | .e6 _ _ x=>ab.pB n x
 |_=>true
def ab.qM(n:Nat):List ab→Bool
 |[]=>true
 |x::r=>ab.pB n x&&ab.qM n r
end
def mw(n:Nat):List (Nat × bq)→Bool
 |[]=>true
 |(id,.cT _ l)::r=>Nat.blt id n&&(ab.qM n l&&mw n r)
 |(id,.rw _ _ _)::r=>Nat.blt id n&&mw n r
 |(id,.it _ _)::r=>Nat.blt id n&&mw n r
def aq.back(S:aq)(dst:Option Nat)(C:aq):aq:=(⟨S.l,C.h,C.n,C.k,C.g⟩:aq).put dst (C.at 0)
def Ax(S C:aq):Bool:=(ab.pB C.n (C.at 0)&&mw C.n C.h)&&(Nat.ble S.n C.n&&xc S.n S.h C.h)
def xd(S:aq)(dst:Option Nat)(C:aq):ay:=
 match Ax S C with
 |true=>.cc .bY (S.back dst C)
 |false=>.bad 34
def FP(C:aq):List ab→List ab→Nat→Option (Nat × Nat × Nat)
 | .aL k::r,.aL m::dW,off=>match Nat.beq k m,c2 C.h k,c2 C.h m with
  |false,none,some (.rw _ _ _)=>some (off,k,m)
  |_,_,_=>FP C r dW (off+1)
 |_::r,_::dW,off=>FP C r dW (off+1)
 |_,_,_=>none
def Ay(C:aq):List (Nat × bq)→Option (Nat × Nat × Nat × Nat)
 |[]=>none
 |(id,.cT _ UI)::r=>match c2 C.h id with
  |some (.cT _ l)=>match FP C UI l 0 with
   |some (off,k,m)=>some (id,off,k,m)
   |none=>Ay C r
  |_=>Ay C r
 |_::r=>Ay C r
def LR(m:Nat):Option ab→Bool
 |some (.aL j)=>Nat.beq j m
 |_=>false
def uu(B id off k m:Nat)(C:aq):aq:=
 match c2 C.h id,c2 C.h m with
 |some (.cT t l),some (.rw iM c x)=>match LR m (l[off]?)&&((Nat.ble B k&&Nat.blt k C.n)&& !(Nat.beq id k))with
  |true=>⟨(C.l.map (ab.kill m)).map (ab.kill k),jO ((k,.rw iM c x)::ih k (ih m C.h)) id (.cT t ((ab.dQ k (ab.dQ m l)).set off (.aL k))),C.n,C.k,C.g⟩
  |false=>C
 |_,_=>C
def sv(B:Nat)(S C:aq):aq:=
 match Ay C S.h with
 |some (id,off,k,m)=>uu B id off k m C
 |none=>C
def Az(N:Nat)(S:aq)(o:Oper):Option (Nat × List ab):=
 match o.op with
 | .call c=>match c.callee with
  | .value x=>match S.aX N x with
   | .fn (.func f) p q=>some (f,p++c.args.toList.map (S.aX N)++q)
   |_=>none
  |_=>none
 |_=>none
def xe(f:dc)(x:ab):List bJ→Option Nat
 |[]=>none
 | .d1 j g y::r=>match decide (g=f)&&fi y x with
  |true=>some j
  |false=>xe f x r
 |_::r=>xe f x r
def FQ(S:aq)(r:dq):Option (aU × Nat):=
 match r.xs,r.ns,r.v with
 |[.f1 f x],[],.bb t k=>match Nat.beq k S.k with
  |true=>match xe f x S.g with
   |some j=>match Nat.blt j S.k with
    |true=>some (t,j)
    |false=>none
   |none=>none
  |false=>none
 |_,_,_=>none
def LS(f:bW)(a b:Int):Option ab:=
 match f with
 | .ic .add .i64 .i64=>some (.cs (.int .i64 (bK .add .i64 a b)))
 | .ic .sub .i64 .i64=>some (.cs (.int .i64 (bK .sub .i64 a b)))
 | .ic .mul .i64 .i64=>some (.cs (.int .i64 (bK .mul .i64 a b)))
 | .nt op .i64=>some (.cs (.bool (wJ op a b)))
 |_=>none
def FR(S:aq)(r:dq):Option ab:=
 match r.xs,r.ns,r.v with
 |[.f2 f (.cs (.int .i64 a)) (.cs (.int .i64 b))],[],.bb t k=>match Nat.beq k S.k&&iH t f.c with
  |true=>LS f a b
  |false=>none
 |_,_,_=>none
def FT(o:Oper):Nat:=
 match o.op with
 | .pick _ _ _=>1
 | .alloc _=>2
 | .box _ _=>3
 | .build _ _=>4
 | .buildSlice _ _ _=>5
 | .insert _ _ _ _=>6
 | .load _ _=>7
 | .store _ _ _=>8
 | .nilCheck _=>9
 | .binOp _ _ _ _ _=>10
 | .unOp _ _ _=>11
 | .convert _ _ _=>12
 | .makeInterface _ _=>13
 | .makeFunc _ _ _=>14
 | .makeMap _ _=>15
 | .makeSlice _ _ _=>16
 | .slice _ _ _ _ _=>17
 | .fieldAddr _ _ _=>18
 | .field _ _ _=>19
 | .indexAddr _ _ _=>20
 | .index _ _ _=>21
 | .lookup _ _ _ _=>22
 | .mapUpdate _ _ _ _=>23
 | .call c=>match c.callee with
  | .builtin .append=>30
  | .builtin .len=>31
  | .builtin .copy=>32
  | .builtin _=>33
  | .value _=>34
  |_=>35
 | .range _ _=>40
 | .next _ _=>41
 | .extract _ _=>42
 |_=>50
def exec(P:Program)(N B:Nat)(T:List (Nat × bC))(inl:Nat→List ab→aq→ay)(o:Oper)(S:aq)(k:aq→ay):ay:=
 match ox P N S o with
 |some r=>match gx S.k r.xs&&r.v.lt (S.k+r.xs.length)with
  |true=>match FQ S r with
   |some (t,j)=>k (S.put o.dst (.bb t j))
   |none=>match FR S r with
    |some v=>k (S.put o.dst v)
    |none=>emit S.k r.xs r.ns (k ((S.ej S.k r.xs).put o.dst r.v))
  |false=>.bad 30
 |none=>match Aw P N B T S o with
  |some r=>match gx S.k r.xs&&(r.v.lt (S.k+r.xs.length)&&ei (S.k+r.xs.length) r.h)with
   |true=>emit S.k r.xs r.ns (k ((r.st S o.dst).ej S.k r.xs))
   |false=>.bad 31
  |none=>match FO N S o with
   |some q=>match q.ok S with
    |true=>emit S.k q.xs [] (.it q.g (k (q.st S o.dst)) (k (q.ur S o.dst)))
    |false=>.bad 33
   |none=>match Az N S o with
    |some (f,as)=>match lH P f with
     |true=>jR N S ((inl f as S).eb (xd S o.dst) none) fun C=>k (sv B S C)
     |false=>.bad 32
    |none=>.bad (100+FT o)
def AA(g:ab)(b:Bool)(x y:ay):ay:=
 match b with
 |true=>.it g x y
 |false=>.it g y x
def qN(y:List bJ→ay):List (ab × Bool)→ay→List bJ→ay
 |[],x,_=>x
 |(g,b)::r,x,l=>AA g b (qN y r x (.dp g b::l)) (y (.dp g (!b)::l))
def pC(S:aq)(dst:Option Nat)(l:List bJ):ay:=.cc .bY (aq.put {S with g:=l} dst (.tp []))
def il(P:Program)(N B:Nat)(T:List (Nat × bC))(inl:Nat→List ab→aq→ay)(ops:Array Oper):List Oper→aq→ay
 |[],S=>.cc .bY S
 |o::r,S=>match guardOf N ops S o with
  | .yes=>exec P N B T inl o S (il P N B T inl ops r)
  | .no=>il P N B T inl ops r (S.put o.dst (.tp []))
  | .on gs=>match kK S.k gs with
   |true=>match ox P N {S with g:=gz gs S.g} o with
    |some q=>match gx S.k q.xs&&q.v.lt (S.k+q.xs.length)with
     |true=>emit S.k q.xs (q.ns.map (oB gs)) (il P N B T inl ops r ((S.ej S.k q.xs).put o.dst (jn gs q.v)))
     |false=>.bad 35
    |none=>oz N S o.dst gs (qN (pC S o.dst) gs (exec P N B T inl o {S with g:=gz gs S.g} (.cc .bY)) S.g) (il P N B T inl ops r)
   |false=>.bad 36
  | .bad=>.bad 37
section
variable {P:Program} {G:aY} {N B:Nat} {M:List bc} {T:List (Nat × bC)} {inl:Nat→List ab→aq→ay}
theorem UJ{S:aq}{o:Oper}{t:TypeId}{x:Operand}{r:da}(ao:o.op= .range t x)(h:FN P B S t (S.aX N x)=some r):nD P G N B M o S r:=fun e hf hx hn=>by
 unfold FN at h
 split at h
 ·rename_i E0 hc
  cases h;simp only[Bool.and_eq_true]at hc
  have qO:aE G (S.den G N B e) x= .au (.v (.string ((S.aX N x).aD e .str))):=by rw[bw hf];exact gg E0
  have:=SB (P:=P) (G:=G) (s:=S.den G N B e) t x ao (rW hc.1) qO (Nat.le_of_ble_eq_true hc.2)
  unfold da.st;rw[fh];exact this
 ·cases h
theorem UK{S:aq}{o:Oper}{q:oC}{e:Env}(h:FO N S o=some q)(hf:S.cf e)(hx: ∀(j:Nat) (x:bG),q.xs[j]? =some x→Env.at e (S.k+j)=x.den M e):
 (q.g.aD e .bool=true→dO P G o (S.den G N B e) ((aq.put {S with h:=q.h} o.dst q.v).den G N B e))∧(q.g.aD e .bool=false→dO P G o (S.den G N B e) ((S.put o.dst q.bo).den G N B e)):=by
 unfold FO at h
 split at h
 ·rename_i x ao
  unfold LQ at h
  split at h
  ·rename_i id av
   split at h
   ·rename_i s p ag
    split at h
    ·rename_i aa af
     cases h
     have qO:aE G (S.den G N B e) x= .ref id:=by rw[bw hf,av];rfl
     have hid:aA (S.den G N B e).heap id=some (.bO (oc (s.aD e .str) (Int.toNat (p.aD e (.int .i64))))):=by
      show aA (cv G e S.h) id=_;rw[et,ag];rfl
     have x0:=hx 0 _ rfl
     have cI:=hx 1 _ rfl
     have n3:=hx 2 _ rfl
     have LU:=hx 3 _ rfl
     simp only[bG.den,bW.den,Nat.add_zero]at x0 cI n3 LU
     have qF:(ab.bb .bool S.k).aD e .bool=decide (Int.toNat (p.aD e (.int .i64))<ByteArray.size (s.aD e .str)):=by
      simp only[ab.aD,ab.fu,ab.dyn,x0,cA]
     refine⟨fun aB=>?_,fun aB=>?_⟩
     ·rw[qF]at aB
      have:=SD (P:=P) (G:=G) (s:=S.den G N B e) x ao qO hid (of_decide_eq_true aB) (c:=(Utf8.decode (s.aD e .str) (Int.toNat (p.aD e (.int .i64)))).1) (k:=(Utf8.decode (s.aD e .str) (Int.toNat (p.aD e (.int .i64)))).2) rfl
      rw[fh]
      have aV:(({S with h:=jO S.h id (.it s (.bb (.int .i64) (S.k+3)))}:aq).den G N B e)={S.den G N B e with heap:=eG (S.den G N B e).heap id (.bO (oc (s.aD e .str) (Int.toNat (p.aD e (.int .i64))+(Utf8.decode (s.aD e .str) (Int.toNat (p.aD e (.int .i64)))).2)))}:=by
       simp only[aq.den,sc,bq.den]
       congr 3
       simp only[ab.aD,ab.fu,ab.dyn,LU,cA];rfl
      rw[aV]
      have UL:(ab.tp [.cs (.bool true),.bb (.int .i64) (S.k+1),.bb (.int .i32) (S.k+2)]).den G e= .tuple [.au (.v (.bool true)),.au (.v (.int .i64 ((Int.toNat (p.aD e (.int .i64)):Nat):Int))),.au (.v (.int .i32 (((Utf8.decode (s.aD e .str) (Int.toNat (p.aD e (.int .i64)))).1:Nat):Int)))]:=by
       simp only[ab.den,ab.bF,cI,n3,cA,fz,kD]
      rw[UL];exact this
     ·rw[qF]at aB
      have:=SC (P:=P) (G:=G) (s:=S.den G N B e) x ao qO hid (Nat.le_of_not_lt (of_decide_eq_false aB))
      rw[fh];exact this.step
    ·cases h
   ·cases h
  ·cases h
 ·cases h
theorem LV{S:aq}{o:Oper}{r:da}(h:Aw P N B T S o=some r):nD P G N B M o S r:=by
 unfold Aw at h
 split at h
 ·exact T8 (by assumption) h
 ·exact T9 (by assumption) h
 ·exact Ub (by assumption) h
 ·split at h
  ·rename_i aH
   cases h;exact Uq (by assumption) aH
  ·split at h
   ·rename_i aH
    cases h;exact Uo (by assumption) aH
   ·exact Ur (by assumption) h
 ·exact Ut (by assumption) h
 ·exact UJ (by assumption) h
 ·rename_i c ao
  split at h
  ·rename_i x y t bn hc hx aB
   split at h
   ·rename_i ad
    have:=Nat.eq_of_beq_eq_true ad
    subst this;obtain⟨callee,args,ts⟩:=c;simp only at hc hx aB;rw[hc,wz hx,wz aB]at ao;exact Uw ao h
   ·obtain⟨callee,args,ts⟩:=c
    simp only at hc hx aB;rw[hc,wz hx,wz aB]at ao;exact Ux ao h
  ·cases h
 ·cases h
theorem qP{g:ab}{a b:ay}{e:Env}{v:Bool}(h:g.aD e .bool=v):run M (.it g a b) e=match v with|true=>run M a e|false=>run M b e:=by
 simp only[run,ay.fold,h]
 cases v<;>rfl
def xf:bH→Exit→Prop
 | .bY,.normal=>True
 | .ext n,.exit m=>n=m
 | .ret,.ret=>True
 |_,_=>False
def im(G:aY)(N B:Nat)(M:List bc)(t:ay)(e:Env)(aR:Nat):Exit→aJ→Prop:=fun ex st=>
 ∃x cZ aw,run M t e=some (x,cZ,aw)∧xf x ex∧cw st (cZ.den G N B aw)∧cZ.cd∧cZ.cf aw∧bM aR e aw∧aR≤cZ.k
theorem im.sub{t bn:ay}{e aw:Env}{k bj:Nat}{ex:Exit}{st:aJ}(h:im G N B M bn aw bj ex st)(ae:run M t e=run M bn aw)(aI:bM k e aw)(aj:k≤bj):im G N B M t e k ex st:=by
 obtain⟨x,cZ,a6,aa,af,ar,aQ,bx,ct,dw⟩:=h
 exact⟨x,cZ,a6,ae.trans aa,af,ar,aQ,bx,bM.trans aI ct aj,Nat.le_trans aj dw⟩
theorem LW{x:bH}{ex:Exit}(h:xf x ex)(n:Nat):x.bu n=false:=by
 cases x with
 |kg m=>cases ex<;>cases h
 |_=>rfl
def gC(P:Program)(G:aY)(M:List bc)(inl:Nat→List ab→aq→ay):Prop:=
 ∀f as (S:aq) e,S.cd→ab.cj S.k as=true→S.cf e→(inl f as S).safe M e→
  dn P G f (ab.bF G e as) (cv G e S.h) S.n fun r bE=>∃C aw,run M (inl f as S) e=some (.bY,C,aw)∧r=(C.at 0).den G aw∧bE=cv G aw C.h∧C.cd∧C.cf aw∧bM S.k e aw∧S.k≤C.k
theorem UM{e:Env}{k:Nat}{x:bG}(h:Env.at e k=x.den M e): ∀c∈uo k x,c.ok e:=fun c hc=>by
 unfold uo at hc
 split at hc
 ·rw[List.mem_singleton]at hc;subst hc;exact h
 ·rw[List.mem_singleton]at hc;subst hc;exact h
 ·rw[List.mem_singleton]at hc;subst hc;exact h
 ·rw[List.mem_singleton]at hc;subst hc;exact h
 ·rw[List.mem_singleton]at hc;subst hc;exact h
 ·cases hc
theorem UN{k:Nat}{x:bG}(h:x.lt k=true):eI (k+1) (uo k x)=true:=by
 have ad:Nat.blt k (k+1)=true:=iS (Nat.lt_succ_self k)
 unfold uo
 split
 ·simp only[eI,bJ.lt,ad,fT (Nat.le_succ k) (x:=_) h,Bool.and_self]
 ·simp only[eI,bJ.lt,ad,fT (Nat.le_succ k) (x:=_) h,Bool.and_self]
 ·simp only[eI,bJ.lt,ad,fT (Nat.le_succ k) (x:=_) h,Bool.and_self]
 ·simp only[bG.lt,Bool.and_eq_true]at h
  simp only[eI,bJ.lt,ad,fT (Nat.le_succ k) h.1,fT (Nat.le_succ k) h.2,Bool.and_self]
 ·simp only[bG.lt,Bool.and_eq_true]at h
  simp only[eI,bJ.lt,ad,fT (Nat.le_succ k) h.1,fT (Nat.le_succ k) h.2,Bool.and_self]
 ·rfl
theorem LX{k:Nat}: ∀{a b:List bJ},eI k a=true→eI k b=true→eI k (a++b)=true
 |[],_,_,h=>h
 |c::a,b,h,h'=>by
  simp only[eI,Bool.and_eq_true]at h;simp only[List.cons_append,eI,h.1,LX h.2 h',Bool.and_self]
theorem LY{e:Env}: ∀{xs:List bG} {k:Nat} {g:List bJ},(∀c∈g,c.ok e)→(∀(j:Nat) (x:bG),xs[j]? =some x→Env.at e (k+j)=x.den M e)→∀c∈uq k xs g,c.ok e
 |[],_,_,h,_=>h
 |x::r,k,g,h,hx=>by
  refine LY (xs:=r) (k:=k+1) (fun c hc=>?_) fun j y ax=>?_
  ·rcases List.mem_append.1 hc with hc|hc
   ·exact UM (hx 0 x (by simp)) c hc
   ·exact h c hc
  ·have:=hx (j+1) y (by simpa using ax)
   rw[show k+1+j=k+(j+1)by omega];exact this
theorem LZ: ∀{xs:List bG} {k:Nat} {g:List bJ},gx k xs=true→eI k g=true→eI (k+xs.length) (uq k xs g)=true
 |[],_,_,_,h=>h
 |x::r,k,g,an,h=>by
  simp only[gx,Bool.and_eq_true]at an
  have:=LZ (xs:=r) (k:=k+1) (g:=uo k x++g) an.2 (LX (UN an.1) (ny (Nat.le_succ k) h))
  rw[List.length_cons,show k+(r.length+1)=k+1+r.length by omega]
  exact this
theorem pD{S:aq}{e:Env}{xs:List bG}(ad:S.cd)(hf:S.cf e)(an:gx S.k xs=true):
 (S.ej S.k xs).cd∧(S.ej S.k xs).cf (cK M e S.k xs)∧(S.ej S.k xs).den G N B (cK M e S.k xs)=S.den G N B e:=by
 have aI:bM S.k e (cK M e S.k xs):=iN (Nat.le_refl _)
 refine⟨⟨fun i x hx=>fT (Nat.le_add_right _ _) (ad.l i x hx),sd (Nat.le_add_right _ _) ad.h,LZ an ad.g⟩,LY (hE aI ad.g hf) (ij an),?_⟩
 exact(ki aI ad:S.den G N B (cK M e S.k xs)=S.den G N B e)
theorem jo{S:aq}{dst:Option Nat}{v:ab}(ad:S.cd)(av:v.lt S.k=true):(S.put dst v).cd:=by
 cases dst with
 |none=>exact ad
 |some d=>
  refine⟨fun i x hx=>?_,ad.h,ad.g⟩
  simp only[aq.put,aZ.jf]at hx
  split at hx
  ·cases hx;exact av
  ·exact ad.l i x hx
theorem xg{e:Env}{f:dc}{x:ab}{j:Nat}: ∀{l:List bJ},xe f x l=some j→(∀c∈l,c.ok e)→Env.at e j=⟨f.c,f.den (x.aD e f.a)⟩
 | .d1 i g y::r,h,hc=>by
  simp only[xe]at h
  split at h
  ·rename_i ad
   cases h;simp only[Bool.and_eq_true,decide_eq_true_eq]at ad
   have:=hc (.d1 j g y) (by simp)
   simp only[bJ.ok]at this;rw[this,ad.1,fC ad.2]
  ·exact xg h fun c hm=>hc c (by simp[hm])
 | .d2 _ _ _ _::r,h,hc=>xg (l:=r) h fun c hm=>hc c (by simp[hm])
 | .rg _ _::r,h,hc=>xg (l:=r) h fun c hm=>hc c (by simp[hm])
 | .dp _ _::r,h,hc=>xg (l:=r) h fun c hm=>hc c (by simp[hm])
theorem UO{S:aq}{r:dq}{t:aU}{j:Nat}{e:Env}(h:FQ S r=some (t,j))(hf:S.cf e)(an:gx S.k r.xs=true):(ab.bb t j).den G e=r.v.den G (cK M e S.k r.xs)∧Nat.blt j S.k=true∧r.ns=[]:=by
 unfold FQ at h
 split at h
 ·rename_i f x bn k hx hn av
  split at h
  ·rename_i aj
   split at h
   ·rename_i YC ai
    split at h
    ·rename_i bz
     cases h;refine⟨?_,bz,hn⟩
     have aa:=xg ai hf
     have af:=ij (M:=M) (e:=e) an 0 (.f1 f x) (by rw[hx];rfl)
     rw[Nat.add_zero]at af;rw[av,Nat.eq_of_beq_eq_true aj];simp only[ab.den];rw[aa,af]
     have UP:x.lt S.k=true:=by
      rw[hx]at an;simp only[gx,bG.lt,Bool.and_eq_true]at an;exact an.1
     simp only[bG.den];rw[e7 (iN (Nat.le_refl _)) UP]
    ·cases h
   ·cases h
  ·cases h
 ·cases h
theorem UQ{S:aq}{r:dq}{v:ab}{e:Env}(h:FR S r=some v)(an:gx S.k r.xs=true):v.den G e=r.v.den G (cK M e S.k r.xs)∧v.lt S.k=true∧r.ns=[]:=by
 unfold FR at h
 split at h
 ·rename_i f a b t k hx hn av
  split at h
  ·rename_i aj
   simp only[Bool.and_eq_true]at aj
   have af:=ij (M:=M) (e:=e) an 0 _ (by rw[hx];rfl)
   rw[Nat.add_zero]at af;rw[av,Nat.eq_of_beq_eq_true aj.1,hT aj.2];unfold LS at h
   split at h<;>first|cases h|skip
   all_goals
    refine⟨?_,rfl,hn⟩
    simp only[ab.den,af,bG.den,cA,ab.aD,ab.fu,ab.dyn,bW.den];rfl
  ·cases h
 ·cases h
theorem jq{S:aq}{dst:Option Nat}{v:ab}{e:Env}(hf:S.cf e):(S.put dst v).cf e:=by
 cases dst<;>exact hf
theorem jr{S:aq}{dst:Option Nat}{v:ab}:(S.put dst v).k=S.k:=by cases dst<;>rfl
end
end Go.aG
namespace Go.aG
open Go
section
variable {P:Program} {G:aY} {N B:Nat} {M:List bc} {T:List (Nat × bC)} {inl:Nat→List ab→aq→ay}
theorem b7.UR{ops:Array Oper}{o:Oper}{rest:List Oper}{s:aJ}{Q:Exit→aJ→Prop}{A:aJ→Prop}(ag:dD ops s o=some true)
 (h: ∀(E:Entry) (a:Act) (w:World),Rel E G s a w→∀(K:Act→World→Prop) (Q:Exit→Act→World→Prop),(∀t,A t→∀aW w',Rel E G t aW w'→K aW w')→o.wp P a w K Q)(k: ∀t,A t→b7 P G ops Q rest t):b7 P G ops Q (o::rest) s:=
 fun E a w ae=>wpList_step fun _ hK=>by
  have ax:=mj ae ag
  simp only[ax,if_true];exact h E a w ae _ _ fun t aB aW w' dC=>hK aW w' (k t aB E aW w' dC)
mutual
theorem AB{n:Nat}{e:Env}: ∀{x:ab},ab.pB n x=true→fQ n (x.den G e)=true:=fun {x} h=>by
 cases x with
 |cm l=>simp only[ab.den,fQ];exact uv (l:=l) h
 |tp l=>simp only[ab.den,fQ];exact uv (l:=l) h
 |fn f a b=>
  simp only[ab.pB,Bool.and_eq_true]at h;simp only[ab.den,fQ,uv h.1,uv h.2,Bool.and_self]
 |de k o=>simp only[ab.den,fQ];exact decide_eq_true (eF h)
 |fY k x o=>simp only[ab.den,fQ];exact decide_eq_true (eF (i:=k) h)
 |ga k o x n=>simp only[ab.den,fQ];exact decide_eq_true (eF (i:=k) h)
 |cC k n=>simp only[ab.den,fQ];exact decide_eq_true (eF (i:=k) h)
 |eH g i o=>
  cases i with
  |none=>simp only[ab.den];cases g.aD e .bool<;>rfl
  |some k=>
   have aa:decide (k<n)=true:=decide_eq_true (eF (i:=k) h)
   simp only[ab.den];cases g.aD e .bool
   ·rfl
   ·exact aa
 |aL k=>simp only[ab.den,fQ];exact decide_eq_true (eF h)
 |ia k=>simp only[ab.den,fQ];exact decide_eq_true (eF h)
 |e6 g b x=>
  have:fQ n (x.den G e)=true:=AB h
  simp only[ab.den]
  cases g.aD e .bool<;>cases b<;>first|exact this|rfl
 |kF g o=>simp only[ab.den];cases G g<;>rfl
 |_=>rfl
theorem uv{n:Nat}{e:Env}: ∀{l:List ab},ab.qM n l=true→j7 n (ab.bF G e l)=true:=fun {l} h=>by
 match l with
 |[]=>rfl
 |x::r=>
  simp only[ab.qM,Bool.and_eq_true]at h;simp only[ab.bF,j7,AB h.1,uv h.2,Bool.and_self]
end
theorem uw{n:Nat}{e:Env}: ∀{h:List (Nat × bq)},mw n h=true→j8 n (cv G e h)=true
 |[],_=>rfl
 |(id,.cT t l)::r,h=>by
  simp only[mw,Bool.and_eq_true]at h;simp only[cv,bq.den,j8,uw h.2.2,uv h.2.1,decide_eq_true (eF h.1),Bool.and_self]
 |(id,.rw t c x)::r,h=>by
  simp only[mw,Bool.and_eq_true]at h;simp only[cv,bq.den,j8,uw h.2,decide_eq_true (eF h.1),Bool.and_self]
 |(id,.it x p)::r,h=>by
  simp only[mw,Bool.and_eq_true]at h;simp only[cv,bq.den,j8,uw h.2,decide_eq_true (eF h.1),Bool.and_self]
theorem L0: ∀{h:List (Nat × bq)} {id:Nat} {o:bq},c2 h id=some o→(id,o)∈h
 |(i,p)::r,id,o,h=>by
  simp only[c2]at h
  split at h
  ·rename_i ad
   cases h;rw[Nat.eq_of_beq_eq_true ad];simp
  ·exact List.mem_cons_of_mem _ (L0 h)
theorem US{n:Nat}{aP:List (Nat × bq)}{e aw:Env}: ∀{h:List (Nat × bq)},xc n aP h=true→∀id o,id<n→aA (cv G aw h) id=some o→∃b6,aA (cv G e aP) id=some b6∧z8 b6 o:=by
 have key: ∀{h:List (Nat × bq)},xc n aP h=true→∀id nG,(id,nG)∈h→id<n→∃b6,c2 aP id=some b6∧bq.kind b6 nG=true:=by
  intro h
  induction h with
  |nil=>intro _ _ _ hm;cases hm
  |cons p r aO=>
   obtain⟨j,q⟩:=p;intro aj id nG hm bz;simp only[xc,Bool.and_eq_true]at aj
   rcases List.mem_cons.1 hm with he|he
   ·cases he
    have aa:=aj.1
    rw[iS bz]at aa;simp only at aa
    split at aa
    ·rename_i b6 ao;exact⟨b6,ao,aa⟩
    ·cases aa
   ·exact aO aj.2 id nG he bz
 intro h aj id o bz ag
 rw[et]at ag
 cases ah:c2 h id with
 |none=>rw[ah]at ag;cases ag
 |some nG=>
  rw[ah]at ag;cases ag;obtain⟨b6,aa,af⟩:=key aj id nG (L0 ah) bz;refine⟨b6.den G e,by rw[et,aa];rfl,?_⟩
  cases b6<;>cases nG<;>first|trivial|(cases af;done)|exact Nat.eq_of_beq_eq_true af
mutual
theorem xh(id:Nat){k:Nat}: ∀{x:ab},x.lt k=true→(x.kill id).lt k=true:=fun {x} h=>by
 cases x with
 |cm l=>exact qQ id (l:=l) h
 |tp l=>exact qQ id (l:=l) h
 |fn f a b=>
  simp only[ab.lt,Bool.and_eq_true]at h;simp only[ab.kill,ab.lt,Bool.and_eq_true];exact⟨qQ id h.1,qQ id h.2⟩
 |e6 g b x=>
  simp only[ab.lt,Bool.and_eq_true]at h;simp only[ab.kill,ab.lt,Bool.and_eq_true];exact⟨h.1,xh id h.2⟩
 |de j o=>simp only[ab.kill];split<;>first|rfl|exact h
 |fY j x o=>simp only[ab.kill];split<;>first|rfl|exact h
 |ga j o x n=>simp only[ab.kill];split<;>first|rfl|exact h
 |cC j n=>simp only[ab.kill];split<;>rfl
 |eH g i o=>
  cases i with
  |none=>exact h
  |some j=>simp only[ab.kill];split<;>exact h
 |aL j=>simp only[ab.kill];split<;>first|rfl|exact h
 |ia j=>simp only[ab.kill];split<;>first|rfl|exact h
 |_=>exact h
theorem qQ(id:Nat){k:Nat}: ∀{l:List ab},ab.cj k l=true→ab.cj k (ab.dQ id l)=true:=fun {l} h=>by
 match l with
 |[]=>rfl
 |x::r=>
  simp only[ab.cj,Bool.and_eq_true]at h;simp only[ab.dQ,ab.cj,Bool.and_eq_true];exact⟨xh id h.1,qQ id h.2⟩
end
theorem L1{S:aq}{o:Oper}{r:da}{e:Env}(ad:S.cd)(hf:S.cf e)(an:gx S.k r.xs=true)(av:r.v.lt (S.k+r.xs.length)=true)(aV:ei (S.k+r.xs.length) r.h=true):
 ((r.st S o.dst).ej S.k r.xs).cd∧((r.st S o.dst).ej S.k r.xs).cf (cK M e S.k r.xs):=by
 obtain⟨bN,a2,_⟩:=pD (M:=M) (G:=fun _=>none) (N:=0) (B:=0) ad hf an
 have ag:(r.st S o.dst).g=S.g:=by unfold da.st;cases o.dst<;>rfl
 refine⟨⟨fun i x hx=>?_,?_,?_⟩,?_⟩
 ·have hx:(r.st S o.dst).l.get i=some x:=hx
  show x.lt (S.k+r.xs.length)=true
  have base: ∀x,(r.l S.l).get i=some x→x.lt (S.k+r.xs.length)=true:=fun x hx=>by
   unfold da.l at hx
   split at hx
   ·exact fT (Nat.le_add_right _ _) (ad.l i x hx)
   ·rw[aZ.get_map]at hx
    cases aH:S.l.get i with
    |none=>rw[aH]at hx;cases hx
    |some y=>
     rw[aH]at hx;cases hx;exact xh _ (fT (Nat.le_add_right _ _) (ad.l i y aH))
  unfold da.st at hx
  cases hd:o.dst with
  |none=>rw[hd]at hx;exact base x hx
  |some d=>
   rw[hd]at hx;simp only[aq.put,aZ.jf]at hx
   split at hx
   ·cases hx;exact av
   ·exact base x hx
 ·have:((r.st S o.dst).ej S.k r.xs).h=r.h:=by unfold da.st aq.ej;cases o.dst<;>rfl
  rw[this];exact aV
 ·show eI (S.k+r.xs.length) (uq S.k r.xs (r.st S o.dst).g)=true
  rw[ag];exact bN.g
 ·show ∀c∈uq S.k r.xs (r.st S o.dst).g,_
  rw[ag];exact a2
theorem xi{k:Nat}: ∀{a b:List ab},ab.cj k a=true→ab.cj k b=true→ab.cj k (a++b)=true
 |[],_,_,h=>h
 |x::a,b,h,h'=>by
  simp only[ab.cj,Bool.and_eq_true]at h;simp only[List.cons_append,ab.cj,h.1,xi h.2 h',Bool.and_self]
theorem FU{k:Nat}{x:ab}(hx:x.lt k=true): ∀{l:List ab} {i:Nat},ab.cj k l=true→ab.cj k (l.set i x)=true
 |[],_,h=>h
 |y::l,0,h=>by simp only[ab.cj,Bool.and_eq_true,List.set]at h⊢;exact⟨hx,h.2⟩
 |y::l,i+1,h=>by simp only[ab.cj,Bool.and_eq_true,List.set]at h⊢;exact⟨h.1,FU hx h.2⟩
theorem AD{k:Nat}{o:bq}(ao:o.lt k=true): ∀{l:List (Nat × bq)} {i:Nat},ei k l=true→ei k (jO l i o)=true
 |[],_,_=>by simp only[jO,ei,ao,Bool.and_self]
 |(j,x)::l,i,h=>by
  simp only[ei,Bool.and_eq_true]at h;simp only[jO]
  split
  ·simp only[ei,Bool.and_eq_true];exact⟨ao,h.2⟩
  ·simp only[ei,Bool.and_eq_true];exact⟨h.1,AD ao h.2⟩
theorem AE{k id:Nat}{o:bq}: ∀{l:List (Nat × bq)},ei k l=true→c2 l id=some o→o.lt k=true
 |[],_,h=>by cases h
 |(j,x)::l,an,h=>by
  simp only[ei,Bool.and_eq_true]at an;simp only[c2]at h
  split at h
  ·cases h;exact an.1
  ·exact AE an.2 h
theorem FV{e:Env}{x:ab}: ∀{l:List ab} {i:Nat},ab.bF G e (l.set i x)=(ab.bF G e l).set i (x.den G e)
 |[],_=>rfl
 |y::l,0=>rfl
 |y::l,i+1=>by simp only[List.set,ab.bF,FV (l:=l)]
theorem qR(id:Nat){k:Nat}: ∀{h:List (Nat × bq)},ei k h=true→ei k (ih id h)=true
 |[],h=>h
 |(j,.cT t l)::r,h=>by
  simp only[ei,Bool.and_eq_true]at h;unfold ih
  split
  ·exact qR id h.2
  ·simp only[ei,Bool.and_eq_true]
   exact⟨qQ id h.1,qR id h.2⟩
 |(j,.rw t c x)::r,h=>by
  simp only[ei,Bool.and_eq_true]at h;unfold ih
  split
  ·exact qR id h.2
  ·simp only[ei,Bool.and_eq_true]
   exact⟨h.1,qR id h.2⟩
 |(j,.it x p)::r,h=>by
  simp only[ei,Bool.and_eq_true]at h;unfold ih
  split
  ·exact qR id h.2
  ·simp only[ei,Bool.and_eq_true]
   exact⟨h.1,qR id h.2⟩
theorem UT{id off k m:Nat}{C:aq}{e:Env}(ad:C.cd)(hf:C.cf e):(uu B id off k m C).cd∧(uu B id off k m C).cf e∧(uu B id off k m C).k=C.k∧cw (C.den G N B e) ((uu B id off k m C).den G N B e):=by
 unfold uu
 split
 ·rename_i t l iM c x ag hm
  split
  ·rename_i hc
   simp only[Bool.and_eq_true,Bool.not_eq_true']at hc;obtain⟨aF,⟨ea,fU⟩,kk⟩:=hc;refine⟨⟨fun i y ax=>?_,AD (o:=.cT t _) (FU (x:=.aL k) rfl (qQ _ (qQ _ (AE (o:=.cT t l) ad.h ag)))) ?_,ad.g⟩,hf,rfl,?_⟩
   ·simp only[aZ.get_map]at ax
    cases aH:C.l.get i with
    |none=>rw[aH]at ax;cases ax
    |some z=>
     rw[aH]at ax;simp only[Option.map_some,Option.some.injEq]at ax;subst ax;exact xh _ (xh _ (ad.l i z aH))
   ·have aa:=AE (o:=.rw iM c x) ad.h hm
    have af:=qR k (qR m ad.h)
    simp only[ei,Bool.and_eq_true];exact⟨aa,af⟩
   ·refine cw.Uj id off m k iM (cO c) (t:=t) (cs:=ab.bF G e l) (es:=List.map (cF c) (x.aD e (.li c))) (by simp only[aq.den,et,ag,Option.map_some,bq.den]) (by simp only[aq.den,et,hm,Option.map_some,bq.den]) ?_ (Nat.le_of_ble_eq_true ea) (eF fU) (Nat.ne_of_beq_eq_false kk) ?_
    ·rw[eg,List.getElem?_map]
     unfold LR at aF
     split at aF
     ·rename_i an
      rw[an]
      have:=Nat.eq_of_beq_eq_true aF
      subst this;rfl
     ·cases aF
    ·simp only[aq.den,w6,sc,cv,bq.den,qI,FV,so,ab.den]
  ·exact⟨ad,hf,rfl,cw.refl _⟩
 ·exact⟨ad,hf,rfl,cw.refl _⟩
theorem UU{S C:aq}{e:Env}(ad:C.cd)(hf:C.cf e):(sv B S C).cd∧(sv B S C).cf e∧(sv B S C).k=C.k∧cw (C.den G N B e) ((sv B S C).den G N B e):=by
 unfold sv
 split
 ·exact UT ad hf
 ·exact⟨ad,hf,rfl,cw.refl _⟩
theorem L2(b5:gC P G M inl){ops:Array Oper}{o:Oper}{r:List Oper}{S:aq}{k:aq→ay}{e:Env}{Q:Exit→aJ→Prop}(ad:S.cd)(hf:S.cf e)(hw:dD ops (S.den G N B e) o=some true)(ah:(exec P N B T inl o S k).safe M e)
 (aj: ∀cZ aw,cZ.cd→cZ.cf aw→bM S.k e aw→S.k≤cZ.k→(k cZ).safe M aw→run M (exec P N B T inl o S k) e=run M (k cZ) aw→b7 P G ops Q r (cZ.den G N B aw)):b7 P G ops Q (o::r) (S.den G N B e):=by
 have hG:=ah
 unfold exec at hG
 split at hG
 ·rename_i q av
  split at hG
  ·rename_i hc
   split at hG
   ·rename_i t j xj
    have gy:exec P N B T inl o S k=k (S.put o.dst (.bb t j)):=by unfold exec;rw[av];simp only[hc,xj]
    simp only[Bool.and_eq_true]at hc;obtain⟨cY,c0,jE⟩:=UO (M:=M) (G:=G) xj hf hc.1
    have bs:bM S.k e (cK M e S.k q.xs):=iN (Nat.le_refl _)
    have di:=sl (G:=G) (B:=B) (M:=M) av (cK M e S.k q.xs) (hE bs ad.g hf) (ij hc.1) (by rw[jE];intro n hn;cases hn)
    rw[ki bs ad,←cY]at di
    have nI:(S.den G N B e).put o.dst ((ab.bb t j).den G e)=(S.put o.dst (.bb t j)).den G N B e:=by rw[fh]
    refine b7.step hw (nI ▸ di.step) ?_
    exact aj _ e (jo ad c0) (jq hf) (bM.refl _ _) (by rw[jr];exact Nat.le_refl _) hG (by rw[gy])
   rename_i xj
   split at hG
   ·rename_i v uc
    have gy:exec P N B T inl o S k=k (S.put o.dst v):=by unfold exec;rw[av];simp only[hc,xj,uc]
    simp only[Bool.and_eq_true]at hc;obtain⟨cY,c0,jE⟩:=UQ (M:=M) (G:=G) (e:=e) uc hc.1
    have bs:bM S.k e (cK M e S.k q.xs):=iN (Nat.le_refl _)
    have di:=sl (G:=G) (B:=B) (M:=M) av (cK M e S.k q.xs) (hE bs ad.g hf) (ij hc.1) (by rw[jE];intro n hn;cases hn)
    rw[ki bs ad,←cY]at di
    have nI:(S.den G N B e).put o.dst (v.den G e)=(S.put o.dst v).den G N B e:=by rw[fh]
    refine b7.step hw (nI ▸ di.step) ?_
    exact aj _ e (jo ad c0) (jq hf) (bM.refl _ _) (by rw[jr];exact Nat.le_refl _) hG (by rw[gy])
   rename_i uc
   have gy:exec P N B T inl o S k=emit S.k q.xs q.ns (k ((S.ej S.k q.xs).put o.dst q.v)):=by unfold exec;rw[av];simp only[hc,xj,uc]
   simp only[Bool.and_eq_true]at hc;obtain⟨fc,ey⟩:=ll hG;obtain⟨bN,a2,a3⟩:=pD (M:=M) (G:=G) (N:=N) (B:=B) ad hf hc.1
   have bs:bM S.k e (cK M e S.k q.xs):=iN (Nat.le_refl _)
   have di:=sl (G:=G) (B:=B) (M:=M) av (cK M e S.k q.xs) (hE bs ad.g hf) (ij hc.1) fc
   rw[ki bs ad]at di
   have nI:(S.den G N B e).put o.dst (q.v.den G (cK M e S.k q.xs))=((S.ej S.k q.xs).put o.dst q.v).den G N B (cK M e S.k q.xs):=by rw[fh,a3]
   refine b7.step hw (nI ▸ di.step) ?_
   exact aj _ _ (jo bN hc.2) (jq a2) bs (by rw[jr];exact Nat.le_add_right _ _) ey (by rw[gy,kJ])
  ·exact hG.elim
 ·rename_i av
  split at hG
  ·rename_i q aH
   split at hG
   ·rename_i hc
    have gy:exec P N B T inl o S k=emit S.k q.xs q.ns (k ((q.st S o.dst).ej S.k q.xs)):=by unfold exec;rw[av,aH];simp only[hc]
    simp only[Bool.and_eq_true]at hc;obtain⟨fc,ey⟩:=ll hG
    have bs:bM S.k e (cK M e S.k q.xs):=iN (Nat.le_refl _)
    have di:=LV (G:=G) (M:=M) aH (cK M e S.k q.xs) (hE bs ad.g hf) (ij hc.1) fc
    rw[ki bs ad]at di;obtain⟨cY,c0⟩:=L1 (M:=M) (o:=o) ad hf hc.1 hc.2.1 hc.2.2;refine b7.step hw di ?_
    have AF:S.k≤((q.st S o.dst).ej S.k q.xs).k:=Nat.le_add_right _ _
    exact aj ((q.st S o.dst).ej S.k q.xs) _ cY c0 bs AF ey (by rw[gy,kJ])
   ·exact hG.elim
  ·rename_i aH
   split at hG
   ·rename_i q n6
    split at hG
    ·rename_i hc
     have gy:exec P N B T inl o S k=emit S.k q.xs [] (.it q.g (k (q.st S o.dst)) (k (q.ur S o.dst))):=by unfold exec;rw[av,aH,n6];simp only[hc]
     simp only[oC.ok,Bool.and_eq_true]at hc;obtain⟨_,ey⟩:=ll hG
     have bs:bM S.k e (cK M e S.k q.xs):=iN (Nat.le_refl _)
     obtain⟨bN,a2,a3⟩:=pD (M:=M) (G:=G) (N:=N) (B:=B) ad hf hc.1.1;obtain⟨cY,c0⟩:=UK (P:=P) (G:=G) (B:=B) n6 (hE bs ad.g hf) (ij hc.1.1);rw[ki bs ad]at cY c0
     have AF: ∀b,Nat.ble S.k (S.k+b)=true:=fun b=>Nat.ble_eq_true_of_le (Nat.le_add_right _ _)
     have cD:run M (exec P N B T inl o S k) e=run M (.it q.g (k (q.st S o.dst)) (k (q.ur S o.dst))) (cK M e S.k q.xs):=by rw[gy,kJ]
     have dp: ∀b,q.g.aD (cK M e S.k q.xs) .bool=b→∀c∈(bJ.dp q.g b::(S.ej S.k q.xs).g),c.ok (cK M e S.k q.xs):=fun b ag c hm=>by
      rcases List.mem_cons.1 hm with rfl|hm
      ·exact ag
      ·exact a2 c hm
     cases ag:q.g.aD (cK M e S.k q.xs) .bool with
     |true=>
      refine b7.step hw (cY ag) ?_
      have oD:(q.st S o.dst).cd:=LN (jo (S:={S.ej S.k q.xs with h:=q.h,g:=.dp q.g true::(S.ej S.k q.xs).g}) ⟨bN.l,hc.2.1,by simp only[eI,bJ.lt,Bool.and_eq_true];exact⟨hc.1.2,bN.g⟩⟩ hc.2.2.1)
      have eu:(q.st S o.dst).cf (cK M e S.k q.xs):=LO (jq (S:={S.ej S.k q.xs with h:=q.h,g:=.dp q.g true::(S.ej S.k q.xs).g}) (dp true ag))
      have hd:(aq.put {S with h:=q.h} o.dst q.v).den G N B (cK M e S.k q.xs)=(q.st S o.dst).den G N B (cK M e S.k q.xs):=by cases o.dst<;>rfl
      rw[hd];exact aj _ _ oD eu bs (by show S.k≤(aq.put _ _ _).k;rw[jr];exact Nat.le_add_right _ _) (ey.1 ag) (by rw[cD,qP ag])
     |false=>
      refine b7.step hw (c0 ag) ?_
      have oD:(q.ur S o.dst).cd:=LN (jo (S:={S.ej S.k q.xs with g:=.dp q.g false::(S.ej S.k q.xs).g}) ⟨bN.l,bN.h,by simp only[eI,bJ.lt,Bool.and_eq_true];exact⟨hc.1.2,bN.g⟩⟩ hc.2.2.2)
      have eu:(q.ur S o.dst).cf (cK M e S.k q.xs):=LO (jq (S:={S.ej S.k q.xs with g:=.dp q.g false::(S.ej S.k q.xs).g}) (dp false ag))
      have hd:(S.put o.dst q.bo).den G N B (cK M e S.k q.xs)=(q.ur S o.dst).den G N B (cK M e S.k q.xs):=by cases o.dst<;>rfl
      rw[hd];exact aj _ _ oD eu bs (by show S.k≤(aq.put _ _ _).k;rw[jr];exact Nat.le_add_right _ _) (ey.2 ag) (by rw[cD,qP ag])
    ·exact hG.elim
   rename_i n6
   split at hG
   ·rename_i f as hR
    split at hG
    ·rename_i fR
     have gy:exec P N B T inl o S k=jR N S ((inl f as S).eb (xd S o.dst) none) fun C=>k (sv B S C):=by unfold exec;rw[av,aH,n6,hR];simp only[fR]
     obtain⟨t1,_,t3⟩:=Au (G:=G) (B:=B) ad hf hG;obtain⟨g1,g2,g3⟩:=iJ (inl f as S) none t1;unfold Az at hR
     split at hR
     ·rename_i c tV
      split at hR
      ·rename_i x hx
       split at hR
       ·rename_i UW p gu si
        cases hR;obtain⟨callee,args,ts⟩:=c;simp only at hx;subst hx
        have bz:ab.cj S.k (p++args.toList.map (S.aX N)++gu)=true:=by
         have gf:=wQ (N:=N) ad x
         rw[si]at gf;simp only[ab.lt,Bool.and_eq_true]at gf;refine xi (xi gf.1 ?_) gf.2
         generalize args.toList=l
         induction l with
         |nil=>rfl
         |cons y r aO=>simp only[List.map_cons,ab.cj,wQ ad y,aO,Bool.and_self]
        have gv:=b5 f _ S e ad bz hf g1
        have nI:ab.bF G e (p++args.toList.map (S.aX N)++gu)=ab.bF G e p++args.toList.map (aE G (S.den G N B e))++ab.bF G e gu:=by
         rw[eg,eg,eg,List.map_append,List.map_append,List.map_map]
         congr 2
         exact List.map_congr_left fun y _=>(bw hf y).symm
        rw[nI]at gv
        refine b7.UR (A:=fun t=>∃C aw,run M (inl f (p++args.toList.map (S.aX N)++gu) S) e=some (.bY,C,aw)∧C.cd∧C.cf aw∧bM S.k e aw∧S.k≤C.k∧Ax S C=true∧t=(S.back o.dst C).den G N B aw) hw
         (T4 tV (by rw[bw hf,si];rfl) fR gv fun r bE ⟨C,aw,aF,ea,fU,kk,pE,oE,my⟩=>?_) fun t ⟨C,aw,aF,kk,pE,oE,my,a1,aB⟩=>?_
        ·have ag:=(g3 C aw aF).1
         have a1:Ax S C=true:=by
          unfold xd at ag
          split at ag
          ·assumption
          ·exact ag.elim
         have dL:=a1
         simp only[Ax,Bool.and_eq_true]at dL;refine⟨C.n,Nat.le_of_ble_eq_true dL.2.1,?_,?_,?_,C,aw,aF,kk,pE,oE,my,a1,?_⟩
         ·rw[ea];exact AB dL.1.1
         ·rw[fU];exact uw dL.1.2
         ·rw[fU];exact US dL.2.2
         ·rw[ea,fU,aq.back,fh]
          have:=ki (G:=G) (N:=N) (B:=B) oE ad
          have td:ji G aw S.l 0 N=ji G e S.l 0 N:=congrArg aJ.cl this
          simp only[aq.den,td]
        ·subst aB
         have ag:=(g3 C aw aF)
         have cD:run M ((inl f (p++args.toList.map (S.aX N)++gu) S).eb (xd S o.dst) none) e=some (.bY,S.back o.dst C,aw):=by
          rw[g2,aF];simp only[hD,xd,a1];rfl
         have oD:(S.back o.dst C).cd:=by
          unfold aq.back;refine jo ⟨fun i x hx=>fT my (ad.l i x hx),kk.h,kk.g⟩ ?_
          show(C.at 0).lt C.k=true;unfold aq.at
          cases hr:C.l.get 0 with
          |none=>rfl
          |some y=>exact kk.l 0 y hr
         obtain⟨dt,a6,s1,s2,lV,nJ,nK,nL,nM⟩:=t3 _ _ cD oD (jq pE) oE (by unfold aq.back;rw[jr];exact my)
         obtain⟨fc,ey,qS,FW⟩:=UU (G:=G) (N:=N) (B:=B) (S:=S) s2 lV;exact b7.le (cw.trans s1 FW) (aj _ a6 fc ey nJ (by rw[qS];exact nK) nL (by rw[gy,nM]))
       ·cases hR
      ·cases hR
     ·cases hR
    ·exact hG.elim
   ·exact hG.elim
def L3(G:aY)(N B:Nat)(ops:Array Oper)(o:Oper)(S:aq)(e:Env):Av→Prop
 | .yes=>dD ops (S.den G N B e) o=some true
 | .no=>dD ops (S.den G N B e) o=some false
 | .on gs=>(fb e gs=true→dD ops (S.den G N B e) o=some true)∧(fb e gs=false→dD ops (S.den G N B e) o=some false)
 | .bad=>True
def oF(b:Bool):az→Option Bool
 | .au (.v (.bool c))=>some (c==b)
 | .tuple _=>some false
 |_=>none
def AG(G:aY)(b:Bool)(e:Env)(v:ab):Av→Prop
 | .yes=>oF b (v.den G e)=some true
 | .no=>oF b (v.den G e)=some false
 | .on gs=>(fb e gs=true→oF b (v.den G e)=some true)∧(fb e gs=false→oF b (v.den G e)=some false)
 | .bad=>True
theorem L4{a b:Bool}(h:a=b):(a==b)=true:=by cases a<;>cases b<;>first|rfl|cases h
theorem L5{a b:Bool}(h: ¬a=b):(a==b)=false:=by cases a<;>cases b<;>first|rfl|exact absurd rfl h
theorem kL{l:List bJ}{b:Bool}{e:Env}(hf: ∀c∈l,c.ok e)(g:ab):AG G b e g (match g.rt,kh g l with
 |some .bool,some c=>match decide (c=b)with
  |true=>.yes
  |false=>.no
 |some .bool,none=>.on [(g,b)]
 |_,_=>.bad):=by
 split
 ·rename_i c aa af
  have aj:=ot af hf
  have hd:=gg (G:=G) (e:=e) aa
  rw[aj]at hd
  cases fR:decide (c=b)with
  |true=>show oF b (g.den G e)=some true;rw[hd];exact congrArg some (L4 (of_decide_eq_true fR))
  |false=>show oF b (g.den G e)=some false;rw[hd];exact congrArg some (L5 (of_decide_eq_false fR))
 ·rename_i aa af
  have hd:=gg (G:=G) (e:=e) aa
  simp only[AG,fb,Bool.and_true];rw[hd];exact⟨fun h=>congrArg some h,fun h=>congrArg some h⟩
 ·trivial
theorem ux{h:ab}{c:Bool}{v:ab}{e:Env}(hc:h.aD e .bool=c):(ab.e6 h c v).den G e=v.den G e:=by
 simp only[ab.den,hc];cases c<;>rfl
theorem L6{h:ab}{c:Bool}{v:ab}{e:Env}(hc:h.aD e .bool= !c):(ab.e6 h c v).den G e= .tuple []:=by
 simp only[ab.den,hc];cases c<;>rfl
theorem L7{l:List bJ}{b:Bool}{e:Env}(hf: ∀c∈l,c.ok e): ∀v:ab,AG G b e v (su l b v)
 | .e6 h c v=>by
  have aO:=L7 (b:=b) hf v
  have FX:h.aD e .bool≠c→oF b ((ab.e6 h c v).den G e)=some false:=fun hn=>by
   rw[L6 (by cases aV:h.aD e .bool<;>cases c<;>first|rfl|exact absurd aV hn)]
   rfl
  simp only[su]
  split
  ·cases ag:su l b v with
   |yes=>
    rw[ag]at aO;refine⟨fun aI=>?_,fun aI=>?_⟩
    ·simp only[fb,Bool.and_true,beq_iff_eq]at aI
     rw[ux aI];exact aO
    ·simp only[fb,Bool.and_true,beq_eq_false_iff_ne]at aI
     exact FX aI
   |no=>
    rw[ag]at aO;show oF b _=some false
    by_cases aV:h.aD e .bool=c
    ·rw[ux aV];exact aO
    ·exact FX aV
   |on gs=>
    rw[ag]at aO;refine⟨fun aI=>?_,fun aI=>?_⟩
    ·simp only[fb,Bool.and_eq_true,beq_iff_eq]at aI
     rw[ux aI.1];exact aO.1 aI.2
    ·by_cases aV:h.aD e .bool=c
     ·rw[ux aV]
      refine aO.2 ?_
      simp only[fb,aV,beq_self_eq_true,Bool.true_and]at aI;exact aI
     ·exact FX aV
   |bad=>trivial
  ·trivial
 | .cs x=>by
  unfold su
  split
  ·rename_i c heq
   cases heq
   cases fR:decide (c=b)with
   |true=>exact congrArg some (L4 (of_decide_eq_true fR))
   |false=>exact congrArg some (L5 (of_decide_eq_false fR))
  ·rename_i heq;cases heq
  ·rename_i heq;cases heq
  ·exact kL hf _
 | .tp l=>rfl
 | .bb r i=>kL hf (.bb r i)
 | .fd c i k r=>kL hf (.fd c i k r)
 | .ip c i k=>kL hf (.ip c i k)
 | .cm l=>kL hf (.cm l)
 | .de i o=>kL hf (.de i o)
 | .fY i x o=>kL hf (.fY i x o)
 | .aL i=>kL hf (.aL i)
 | .fn f a b=>kL hf (.fn f a b)
 | .ia i=>kL hf (.ia i)
 | .kF g o=>kL hf (.kF g o)
 | .ga i o x n=>kL hf (.ga i o x n)
 | .cC i n=>kL hf (.cC i n)
 | .eH g i o=>kL hf (.eH g i o)
 | .top=>kL hf .top
theorem FY{ops:Array Oper}{o:Oper}{S:aq}{e:Env}(hf:S.cf e):L3 G N B ops o S e (guardOf N ops S o):=by
 unfold guardOf
 cases ag:o.guard with
 |none=>simp only[L3,dD,ag]
 |some D2=>
  obtain⟨j,b⟩:=D2;simp only
  cases hd:k3 ops j with
  |none=>trivial
  |some d=>
   simp only
   cases jB:Nat.blt d N with
   |false=>trivial
   |true=>
    have bz:d<N:=eF jB
    have ae:=Ew (G:=G) hf (x:=S.at d)
    have hc:=L7 (G:=G) (b:=b) hf ((S.at d).res S.g)
    rw[AG.eq_def]at hc
    have key: ∀q,oF b (((S.at d).res S.g).den G e)=some q→dD ops (S.den G N B e) o=some q:=fun q h=>by
     rw[ae]at h;simp only[dD,ag,hd,sb,if_pos bz];generalize (S.at d).den G e=v at h;unfold oF at h
     split at h
     ·rename_i c
      cases h
      cases b<;>cases c<;>rfl
     ·cases h;rfl
     ·cases h
    simp only;generalize su S.g b ((S.at d).res S.g)=e6 at hc
    cases e6 with
    |yes=>exact key _ hc
    |no=>exact key _ hc
    |on gs=>exact⟨fun h=>key _ (hc.1 h),fun h=>key _ (hc.2 h)⟩
    |bad=>trivial
end
end Go.aG
namespace Go.aG
open Go
section
variable {P:Program} {G:aY} {N B:Nat} {M:List bc} {T:List (Nat × bC)} {inl:Nat→List ab→aq→ay}
theorem xk{S:aq}{g:ab}{b:Bool}(ad:S.cd)(ag:g.lt S.k=true):({S with g:=.dp g b::S.g}:aq).cd:=
 ⟨ad.l,ad.h,by
  show(bJ.lt S.k (.dp g b)&&eI S.k S.g)=true;rw[ad.g,Bool.and_true]
  exact ag⟩
theorem xl{S:aq}{g:ab}{b:Bool}{e:Env}(hf:S.cf e)(ag:g.aD e .bool=b):({S with g:=.dp g b::S.g}:aq).cf e:=fun c hc=>by
 rcases List.mem_cons.1 hc with rfl|hc
 ·exact ag
 ·exact hf c hc
theorem s5{a b:Bool}(h: ¬a=b):a= !b:=by cases a<;>cases b<;>first|rfl|exact absurd rfl h
theorem L8{g:ab}{b:Bool}{x y:ay}{e:Env}(h:g.aD e .bool=b):run M (AA g b x y) e=run M x e:=by
 cases b<;>exact qP h
theorem UX{g:ab}{b:Bool}{x y:ay}{e:Env}(h:g.aD e .bool= !b):run M (AA g b x y) e=run M y e:=by
 cases b<;>exact qP h
theorem UY{g:ab}{b:Bool}{x y:ay}{e:Env}(ah:(AA g b x y).safe M e)(h:g.aD e .bool=b):x.safe M e:=by
 cases b with
 |true=>exact ah.1 h
 |false=>exact ah.2 h
theorem uy{S:aq}: ∀{gs:List (ab × Bool)},S.cd→kK S.k gs=true→({S with g:=gz gs S.g}:aq).cd
 |[],ad,_=>ad
 |(g,b)::r,ad,h=>by
  simp only[kK,Bool.and_eq_true]at h;exact xk (S:={S with g:=gz r S.g}) (b:=b) (uy ad h.2) h.1
theorem uz{S:aq}{e:Env}: ∀{gs:List (ab × Bool)},S.cf e→fb e gs=true→({S with g:=gz gs S.g}:aq).cf e
 |[],hf,_=>hf
 |(g,b)::r,hf,h=>by
  simp only[fb,Bool.and_eq_true,beq_iff_eq]at h;exact xl (S:={S with g:=gz r S.g}) (b:=b) (uz hf h.2) h.1
theorem AH{k:Nat}{v:ab}: ∀{gs:List (ab × Bool)},kK k gs=true→v.lt k=true→(jn gs v).lt k=true
 |[],_,h=>h
 |(g,b)::r,ag,h=>by
  simp only[kK,Bool.and_eq_true]at ag;simp only[jn,ab.lt,ag.1,AH ag.2 h,Bool.and_self]
theorem AI{k m:Nat}(h:k≤m): ∀{gs:List (ab × Bool)},kK k gs=true→kK m gs=true
 |[],_=>rfl
 |(g,b)::r,ag=>by
  simp only[kK,Bool.and_eq_true]at ag⊢;exact⟨fT h ag.1,AI h ag.2⟩
theorem AJ{k:Nat}{e aw:Env}(h:bM k e aw): ∀{gs:List (ab × Bool)},kK k gs=true→fb aw gs=fb e gs
 |[],_=>rfl
 |(g,b)::r,ag=>by
  simp only[kK,Bool.and_eq_true]at ag;simp only[fb,e7 h ag.1,AJ h ag.2]
theorem AK{v:ab}{e:Env}: ∀{gs:List (ab × Bool)},fb e gs=true→(jn gs v).den G e=v.den G e
 |[],_=>rfl
 |(g,b)::r,h=>by
  simp only[fb,Bool.and_eq_true,beq_iff_eq]at h;exact(ux h.1).trans (AK h.2)
theorem AL{v:ab}{e:Env}: ∀{gs:List (ab × Bool)},fb e gs=false→(jn gs v).den G e= .tuple []
 |[],h=>by cases h
 |(g,b)::r,h=>by
  by_cases ag:g.aD e .bool=b
  ·simp only[fb,ag,beq_self_eq_true,Bool.true_and]at h
   exact(ux ag).trans (AL h)
  ·exact L6 (s5 ag)
theorem AM{n:fA}{e:Env}: ∀{gs:List (ab × Bool)},(oB gs n).ok M e→fb e gs=true→n.ok M e
 |[],h,_=>h
 |(g,b)::r,h,aI=>by
  simp only[fb,Bool.and_eq_true,beq_iff_eq]at aI;exact AM (gs:=r) (h aI.1) aI.2
theorem FZ{x:ay}{y:List bJ→ay}{e:Env}: ∀{gs:List (ab × Bool)} {l:List bJ},fb e gs=true→run M (qN y gs x l) e=run M x e∧((qN y gs x l).safe M e→x.safe M e)
 |[],_,_=>⟨rfl,fun h=>h⟩
 |(g,b)::r,l,h=>by
  simp only[fb,Bool.and_eq_true,beq_iff_eq]at h;obtain⟨aa,af⟩:=FZ (x:=x) (y:=y) (l:=.dp g b::l) h.2;exact⟨(L8 h.1).trans aa,fun ah=>af (UY ah h.1)⟩
theorem F0{x:ay}{y:List bJ→ay}{e:Env}{k:Nat}: ∀{gs:List (ab × Bool)} {l:List bJ},fb e gs=false→kK k gs=true→eI k l=true→(∀c∈l,c.ok e)→∃eB,run M (qN y gs x l) e=run M (y eB) e∧eI k eB=true∧∀c∈eB,c.ok e
 |[],_,h,_,_,_=>by cases h
 |(g,b)::r,l,h,ag,an,hc=>by
  simp only[kK,Bool.and_eq_true]at ag
  have qj: ∀b,eI k (.dp g b::l)=true:=fun b=>by
   show(bJ.lt k (.dp g b)&&eI k l)=true;rw[an,Bool.and_true];exact ag.1
  by_cases eS:g.aD e .bool=b
  ·simp only[fb,eS,beq_self_eq_true,Bool.true_and]at h
   obtain⟨eB,aa,af,ar⟩:=F0 (x:=x) (y:=y) (k:=k) (gs:=r) (l:=.dp g b::l) h ag.2 (qj b) fun c hm=>by
    rcases List.mem_cons.1 hm with rfl|hm
    ·exact eS
    ·exact hc c hm
   exact⟨eB,(L8 eS).trans aa,af,ar⟩
  ·refine⟨.dp g (!b)::l,UX (s5 eS),qj _,fun c hm=>?_⟩
   rcases List.mem_cons.1 hm with rfl|hm
   ·exact s5 eS
   ·exact hc c hm
theorem L9{S:aq}{dst:Option Nat}{l:List bJ}{e:Env}(ad:S.cd)(an:eI S.k l=true)(hc: ∀c∈l,c.ok e):
 ∃aN:aq,pC S dst l= .cc .bY aN∧aN.cd∧aN.cf e∧S.k≤aN.k∧aN.den G N B e=(S.den G N B e).put dst (.tuple []):=
 ⟨_,rfl,jo ⟨ad.l,ad.h,an⟩ rfl,jq hc,by rw[jr];exact Nat.le_refl _,by rw[fh];rfl⟩
theorem xm(b5:gC P G M inl){ops:Array Oper}: ∀(l:List Oper) {S:aq} {e:Env} {Q:Exit→aJ→Prop},S.cd→S.cf e→(il P N B T inl ops l S).safe M e→(∀ex st,im G N B M (il P N B T inl ops l S) e S.k ex st→Q ex st)→b7 P G ops Q l (S.den G N B e)
 |[],S,e,Q,ad,hf,_,dP=>b7.nil (dP _ _ ⟨.bY,S,e,rfl,trivial,cw.refl _,ad,hf,bM.refl _ _,Nat.le_refl _⟩)
 |o::r,S,e,Q,ad,hf,ah,dP=>by
  have ag:=FY (G:=G) (N:=N) (B:=B) (ops:=ops) (o:=o) hf
  have eP:=ah
  unfold il at eP
  cases iq:guardOf N ops S o with
  |yes=>
   rw[iq]at ag eP
   have gy:il P N B T inl ops (o::r) S=exec P N B T inl o S (il P N B T inl ops r):=by rw[il,iq]
   refine L2 b5 ad hf ag eP fun cZ aw aa af ar aQ bx ct=>xm b5 r aa af bx fun ex st ak=>dP ex st (ak.sub ?_ ar aQ)
   rw[gy,ct]
  |no=>
   rw[iq]at ag eP
   have gy:il P N B T inl ops (o::r) S=il P N B T inl ops r (S.put o.dst (.tp [])):=by rw[il,iq]
   refine b7.pass ag ?_
   have hd:(S.den G N B e).put o.dst (.tuple [])=(S.put o.dst (.tp [])).den G N B e:=by rw[fh];rfl
   rw[hd];refine xm b5 r (jo ad rfl) (jq hf) eP fun ex st ak=>dP ex st (ak.sub (by rw[gy]) (bM.refl _ _) (by rw[jr];exact Nat.le_refl _))
  |on gs=>
   rw[iq]at ag eP;simp only at eP;obtain⟨g1,g2⟩:=ag
   split at eP
   ·rename_i jS
    split at eP
    ·rename_i q av
     split at eP
     ·rename_i hc
      have gy:il P N B T inl ops (o::r) S=emit S.k q.xs (q.ns.map (oB gs)) (il P N B T inl ops r ((S.ej S.k q.xs).put o.dst (jn gs q.v))):=by rw[il,iq];simp only[jS,av,hc]
      simp only[Bool.and_eq_true]at hc;obtain⟨fc,ey⟩:=ll eP;obtain⟨bN,a2,a3⟩:=pD (M:=M) (G:=G) (N:=N) (B:=B) ad hf hc.1
      have bs:bM S.k e (cK M e S.k q.xs):=iN (Nat.le_refl _)
      have hO:fb (cK M e S.k q.xs) gs=fb e gs:=AJ bs jS
      have aj:S.k≤S.k+q.xs.length:=Nat.le_add_right _ _
      have nE:(jn gs q.v).lt (S.k+q.xs.length)=true:=AH (AI aj jS) hc.2
      have F1:((S.ej S.k q.xs).put o.dst (jn gs q.v)).cd:=jo bN nE
      have xn:=xm b5 (ops:=ops) r (Q:=Q) F1 (jq a2) ey fun ex st ak=>dP ex st (ak.sub (by rw[gy,kJ]) bs (by rw[jr];exact aj))
      rw[fh,a3]at xn
      cases eS:fb e gs with
      |true=>
       have jb:=uz hf eS
       have hQ:=uy ad jS
       have di:=sl (G:=G) (B:=B) (M:=M) av (cK M e S.k q.xs) (hE bs hQ.g jb) (ij hc.1) fun n hn=>AM (fc (oB gs n) (List.mem_map.2 ⟨n,hn,rfl⟩)) (hO.trans eS)
       have uA:({S with g:=gz gs S.g}:aq).den G N B (cK M e S.k q.xs)=S.den G N B e:=ki (S:={S with g:=gz gs S.g}) bs hQ
       rw[uA]at di;refine b7.step (g1 eS) di.step ?_
       rw[AK (hO.trans eS)]at xn;exact xn
      |false=>
       refine b7.pass (g2 eS) ?_
       rw[AL (hO.trans eS)]at xn;exact xn
     ·exact eP.elim
    ·rename_i av
     have gy:il P N B T inl ops (o::r) S=oz N S o.dst gs (qN (pC S o.dst) gs (exec P N B T inl o {S with g:=gz gs S.g} (.cc .bY)) S.g) (il P N B T inl ops r):=by rw[il,iq];simp only[av,jS]
     obtain⟨t1,_,t3⟩:=FM (G:=G) (B:=B) ad hf eP
     have fin: ∀(aN:aq) (aC:Env),run M (qN (pC S o.dst) gs (exec P N B T inl o {S with g:=gz gs S.g} (.cc .bY)) S.g) e=some (.bY,aN,aC)→aN.cd→aN.cf aC→bM S.k e aC→S.k≤aN.k→b7 P G ops Q r (aN.den G N B aC):=fun aN aC ae aa af ar aQ=>by
      obtain⟨dt,a6,s1,s2,lV,nJ,nK,nL,nM⟩:=t3 aN aC ae aa af ar aQ;exact b7.le s1 (xm b5 r s2 lV nL fun ex st ak=>dP ex st (ak.sub (by rw[gy,nM]) nJ nK))
     cases eS:fb e gs with
     |false=>
      refine b7.pass (g2 eS) ?_
      obtain⟨eB,dx,dG,lM⟩:=F0 (M:=M) (x:=exec P N B T inl o {S with g:=gz gs S.g} (.cc .bY)) (y:=pC S o.dst) (l:=S.g) eS jS ad.g hf
      obtain⟨aN,lz,kV,sN,n1,nZ⟩:=L9 (G:=G) (N:=N) (B:=B) (dst:=o.dst) ad dG lM;rw[←nZ];exact fin aN e (by rw[dx,lz];rfl) kV sN (bM.refl _ _) n1
     |true=>
      have jb:=uz hf eS
      have hQ:=uy ad jS
      obtain⟨f1,f2⟩:=FZ (M:=M) (x:=exec P N B T inl o {S with g:=gz gs S.g} (.cc .bY)) (y:=pC S o.dst) (l:=S.g) eS
      refine L2 b5 (S:={S with g:=gz gs S.g}) hQ jb (g1 eS) (f2 t1) fun cZ aw aa af ar aQ _ ct=>fin cZ aw ?_ aa af ar aQ
      exact f1.trans ct
   ·exact eP.elim
  |bad=>rw[iq]at eP;exact eP.elim
end
end Go.aG
namespace Go.aG
open Go
def xo(i:Nat)(y:ab):List bJ→Bool
 |[]=>false
 | .rg j b::r=>(Nat.beq j i&&fi b y)||xo i y r
 |_::r=>xo i y r
def uB(j:Nat)(all:List bJ):List bJ→Option Bool
 |[]=>none
 | .d2 i (.nt .lss .i64) x y::r=>match Nat.beq i j with
  |true=>match fi x y with
   |true=>some false
   |false=>match x with
    | .bb (.int .i64) m=>match xo m y all&&(match y.rt with|some (.int .i64)=>true|_=>false)with
     |true=>some true
     |false=>none
    |_=>none
  |false=>uB j all r
 |_::r=>uB j all r
def F2(g:ab)(l:List bJ):Option Bool:=
 match kh g l with
 |some b=>some b
 |none=>match g with
  | .bb .bool j=>uB j l l
  |_=>none
def xp(i:Nat):List bJ→Option ab
 |[]=>none
 | .d1 j .lN x::r=>match Nat.beq j i with
  |true=>match x.rt with
   |some .bool=>some x
   |_=>none
  |false=>xp i r
 |_::r=>xp i r
def aq.dp(S:aq)(v:ab)(b:Bool):aq:=
 match v with
 | .bb .bool i=>match xp i S.g with
  |some x=>{S with g:=.dp x (!b):: .dp (.bb .bool i) b::S.g}
  |none=>{S with g:=.dp (.bb .bool i) b::S.g}
 |v=>{S with g:=.dp v b::S.g}
def F3(N:Nat)(S:aq)(x:Operand)(f g:aq→ay):ay:=
 match S.aX N x with
 | .cs (.bool true)=>f S
 | .cs (.bool false)=>g S
 |v=>match v.rt with
  |some .bool=>match F2 v S.g with
   |some true=>f S
   |some false=>g S
   |none=>.it v (f (S.dp v true)) (g (S.dp v false))
  |_=>.bad 38
def comp(P:Program)(N B:Nat)(T:List (Nat × bC))(inl:Nat→List ab→aq→ay)(L:(aq→ay)→Nat→aq→ay)(D:Array Oper→aq→ay):Code→Nat→aq→ay
 | .skip,_,S=>.cc .bY S
 | .ret,_,S=>.cc .ret S
 | .exit id,_,S=>.cc (.ext id) S
 | .region _ ops draw,_,S=>match draw with
  |true=>D ops S
  |false=>il P N B T inl ops ops.toList S
 | .cond x a b,cur,S=>F3 N S x (comp P N B T inl L D a cur) (comp P N B T inl L D b cur)
 | .block id c,_,S=>(comp P N B T inl L D c id S).rel (nv id)
 | .seq a b,cur,S=>jR N S (comp P N B T inl L D a cur S) (comp P N B T inl L D b cur)
 | .loop c,cur,S=>L (comp P N B T inl L D c cur) cur S
 |_,_,_=>.bad 6
section
variable {P:Program} {G:aY} {N B:Nat} {M:List bc} {T:List (Nat × bC)} {inl:Nat→List ab→aq→ay} {L:(aq→ay)→Nat→aq→ay} {D:Array Oper→aq→ay}
theorem xq{i:Nat}{y:ab}{e:Env}: ∀{l:List bJ},xo i y l=true→(∀c∈l,c.ok e)→0≤b1 (Env.at e i)∧b1 (Env.at e i)<b1 (y.dyn e)
 | .rg j b::r,h,hc=>by
  simp only[xo,Bool.or_eq_true,Bool.and_eq_true]at h
  rcases h with⟨aa,af⟩|h
  ·rw[←Nat.eq_of_beq_eq_true aa,←fC af]
   exact hc (.rg j b) (by simp)
  ·exact xq h fun c hm=>hc c (by simp[hm])
 | .d1 _ _ _::r,h,hc=>xq (l:=r) h fun c hm=>hc c (by simp[hm])
 | .d2 _ _ _ _::r,h,hc=>xq (l:=r) h fun c hm=>hc c (by simp[hm])
 | .dp _ _::r,h,hc=>xq (l:=r) h fun c hm=>hc c (by simp[hm])
theorem UZ(d:aS):(d.as (.int .i64):Int)=b1 d∨(d.as (.int .i64):Int)=0:=by
 obtain⟨r,v⟩:=d
 by_cases h:r= .int .i64
 ·subst h
  exact .inl (cA _ _)
 ·refine .inr ?_
  unfold aS.as
  split
  ·rename_i h' _;exact absurd h' h
  ·rfl
theorem xr{j:Nat}{e:Env}{b:Bool}{all:List bJ}(aI: ∀c∈all,c.ok e): ∀{l:List bJ},uB j all l=some b→(∀c∈l,c.ok e)→(ab.bb .bool j).aD e .bool=b
 | .d2 i f x y::r,h,hc=>by
  have aP:=hc (.d2 i f x y) (by simp)
  have ae: ∀{b},uB j all r=some b→(ab.bb .bool j).aD e .bool=b:=fun h=>xr aI h fun c hm=>hc c (by simp[hm])
  unfold uB at h
  split at h
  ·cases h
  ·rename_i vZ kc qn dW heq
   cases heq
   split at h
   ·rename_i rR
    have rR:=Nat.eq_of_beq_eq_true rR
    subst rR;simp only[bJ.ok]at aP
    have av:(ab.bb .bool i).aD e .bool=wJ .lss (x.aD e (.int .i64)) (y.aD e (.int .i64)):=by
     simp only[ab.aD,ab.fu,ab.dyn,cA,aP];rfl
    rw[av]
    split at h
    ·rename_i he
     cases h;rw[fC he];exact decide_eq_false (Int.lt_irrefl _)
    ·split at h
     ·rename_i m _
      split at h
      ·rename_i aj
       cases h;simp only[Bool.and_eq_true]at aj
       have aa:=xq aj.1 aI
       have ax:y.rt=some (.int .i64):=by
        have:=aj.2
        split at this
        ·assumption
        ·cases this
       rw[lh ax]at aa
       have hx:(ab.bb (.int .i64) m).aD e (.int .i64)=(Env.at e m).as (.int .i64):=by simp only[ab.aD,ab.fu,ab.dyn,cA]
       rw[hx];refine decide_eq_true ?_
       have af:=aa.2
       rcases UZ (Env.at e m)with q|q
       ·rw[q];exact af
       ·rw[q];exact Int.lt_of_le_of_lt aa.1 af
      ·cases h
     ·cases h
   ·exact ae h
  ·rename_i heq
   cases heq;exact ae h
 | .d1 _ _ _::r,h,hc=>xr aI (l:=r) h fun c hm=>hc c (by simp[hm])
 | .rg _ _::r,h,hc=>xr aI (l:=r) h fun c hm=>hc c (by simp[hm])
 | .dp _ _::r,h,hc=>xr aI (l:=r) h fun c hm=>hc c (by simp[hm])
theorem Ma{e:Env}{g:ab}{b:Bool}{l:List bJ}(h:F2 g l=some b)(hc: ∀c∈l,c.ok e):g.aD e .bool=b:=by
 unfold F2 at h
 split at h
 ·rename_i aj;cases h;exact ot aj hc
 ·split at h
  ·exact xr hc h hc
  ·cases h
def jT(P:Program)(G:aY)(N B:Nat)(M:List bc)(c:Code)(f:aq→ay):Prop:=
 ∀(S:aq) (e:Env),S.cd→S.cf e→(f S).safe M e→bL P G c (im G N B M (f S) e S.k) (S.den G N B e)
theorem F4{i:Nat}{x:ab}{e:Env}{k:Nat}: ∀{l:List bJ},xp i l=some x→(∀c∈l,c.ok e)→eI k l=true→(ab.bb .bool i).aD e .bool= !(x.aD e .bool)∧x.lt k=true
 |[],h,_,_=>by cases h
 |c::r,h,hc,an=>by
  have vK: ∀c∈r,c.ok e:=fun c hm=>hc c (List.mem_cons_of_mem _ hm)
  have qj:c.lt k=true∧eI k r=true:=by simpa only[eI,Bool.and_eq_true]using an
  unfold xp at h
  split at h
  ·rename_i heq;cases heq
  ·rename_i j y dW heq
   cases heq
   split at h
   ·rename_i ai
    have ai:=Nat.eq_of_beq_eq_true ai
    subst ai
    split at h
    ·cases h
     have aP:Env.at e j=⟨dc.lN.c,dc.lN.den (x.aD e dc.lN.a)⟩:=hc _ (List.mem_cons_self ..)
     have aa:=qj.1
     simp only[bJ.lt,Bool.and_eq_true]at aa;refine⟨?_,aa.2⟩
     simp only[ab.aD,ab.fu,ab.dyn,aP,cA];rfl
    ·cases h
   ·exact F4 h vK qj.2
  ·rename_i heq
   cases heq;exact F4 h vK qj.2
theorem Mb{S:aq}{v:ab}{b:Bool}{e:Env}(ad:S.cd)(hf:S.cf e)(an:v.lt S.k=true)(av:v.aD e .bool=b):(S.dp v b).cd∧(S.dp v b).cf e∧(S.dp v b).k=S.k∧(S.dp v b).den G N B e=S.den G N B e:=by
 unfold aq.dp
 split
 ·rename_i i
  split
  ·rename_i x hx
   obtain⟨aa,af⟩:=F4 hx hf ad.g;rw[av]at aa
   have ar:x.aD e .bool= !b:=by rw[aa];cases x.aD e .bool<;>rfl
   have bN:=xk (b:=b) ad an
   have a2:=xl hf av
   exact⟨xk (S:={S with g:=.dp (.bb .bool i) b::S.g}) (b:=!b) bN af,xl (S:={S with g:=.dp (.bb .bool i) b::S.g}) a2 ar,rfl,rfl⟩
  ·exact⟨xk ad an,xl hf av,rfl,rfl⟩
 ·exact⟨xk ad an,xl hf av,rfl,rfl⟩
theorem U0{x:Operand}{a b:Code}{f g:aq→ay}(hf:jT P G N B M a f)(ag:jT P G N B M b g):jT P G N B M (.cond x a b) (fun S=>F3 N S x f g):=by
 intro S e ad eu ah
 have hx:=bw (G:=G) (N:=N) (B:=B) eu x
 have bz:=wQ (N:=N) ad x
 simp only at ah⊢
 unfold F3 at ah⊢
 generalize S.aX N x=v at ah hx bz⊢
 split at ah
 ·exact bL.JI hx (hf S e ad eu ah)
 ·exact bL.JJ hx (ag S e ad eu ah)
 ·rename_i aa af
  split at ah
  ·rename_i ae
   have hd:=gg (G:=G) (e:=e) ae
   rw[←hx]at hd
   have hd:=hd.trans (show _=az.au (.v (.bool _))from rfl)
   split at ah
   ·rename_i aj
    rw[Ma aj eu]at hd;exact bL.JI hd (hf S e ad eu ah)
   ·rename_i aj
    rw[Ma aj eu]at hd;exact bL.JJ hd (ag S e ad eu ah)
   ·refine bL.cond hd (fun aB=>?_) (fun aB=>?_)
    ·obtain⟨dx,dG,lM,sw⟩:=Mb (G:=G) (N:=N) (B:=B) ad eu bz aB
     have:=hf _ e dx dG (ah.1 aB)
     rw[sw]at this;refine bL.mono this fun ex st ak=>ak.sub ?_ (bM.refl _ _) (Nat.le_of_eq lM.symm)
     rw[qP aB]
    ·obtain⟨dx,dG,lM,sw⟩:=Mb (G:=G) (N:=N) (B:=B) ad eu bz aB
     have:=ag _ e dx dG (ah.2 aB)
     rw[sw]at this;refine bL.mono this fun ex st ak=>ak.sub ?_ (bM.refl _ _) (Nat.le_of_eq lM.symm)
     rw[qP aB]
  ·exact ah.elim
theorem U1{id:Nat}{c:Code}{f:aq→ay}(hf:jT P G N B M c f):jT P G N B M (.block id c) (fun S=>(f S).rel (nv id)):=by
 intro S e ad eu ah
 have ao:=Ts (f S) id
 refine bL.block (bL.mono (hf S e ad eu ((kG ao).1 ah)) fun ex st ak=>?_)
 obtain⟨x,cZ,aw,aa,af,ar,aQ,bx,ct,dw⟩:=ak
 have ae:run M ((f S).rel (nv id)) e=some (nv id x,cZ,aw):=by rw[wM ao,aa];rfl
 cases x with
 |bY=>cases ex<;>first|exact⟨_,cZ,aw,ae,trivial,ar,aQ,bx,ct,dw⟩|exact af.elim
 |ret=>cases ex<;>first|exact⟨_,cZ,aw,ae,trivial,ar,aQ,bx,ct,dw⟩|exact af.elim
 |kg n=>exact(by cases ex<;>exact af.elim)
 |ext n=>
  cases ex with
  |exit m=>
   have af:n=m:=af
   subst af;show(bif Nat.beq n id then _ else _)
   cases ad:Nat.beq n id with
   |true=>exact⟨.bY,cZ,aw,by rw[ae];simp only[nv,ad],trivial,ar,aQ,bx,ct,dw⟩
   |false=>exact⟨.ext n,cZ,aw,by rw[ae];simp only[nv,ad],rfl,ar,aQ,bx,ct,dw⟩
  |_=>exact af.elim
theorem U2{a b:Code}{f g:aq→ay}(hf:jT P G N B M a f)(ag:jT P G N B M b g):jT P G N B M (.seq a b) (fun S=>jR N S (f S) g):=by
 intro S e ad eu ah
 obtain⟨t1,t2,t3⟩:=Au (G:=G) (B:=B) ad eu ah
 refine bL.seq (bL.mono (hf S e ad eu t1) fun ex st ak=>?_)
 obtain⟨x,cZ,aw,aa,af,ar,aQ,bx,ct,dw⟩:=ak
 have other:x≠ .bY→ex≠ .normal→im G N B M (jR N S (f S) g) e S.k ex st:=fun bX _=>⟨x,cZ,aw,t2 x cZ aw aa bX (LW af),af,ar,aQ,bx,ct,dw⟩
 cases x with
 |bY=>
  cases ex with
  |normal=>
   obtain⟨dt,a6,s1,s2,lV,nJ,nK,nL,nM⟩:=t3 cZ aw aa aQ bx ct dw;exact bL.le ar (bL.le s1 (bL.mono (ag dt a6 s2 lV nL) fun ex st ak=>ak.sub nM nJ nK))
  |_=>exact af.elim
 |ret=>cases ex<;>first|exact other (by simp) (by simp)|exact af.elim
 |ext n=>cases ex<;>first|exact other (by simp) (by simp)|exact af.elim
 |kg n=>cases ex<;>exact af.elim
theorem F5{c:Code}{x:bH}{ex:Exit}(h:xf x ex)(k: ∀{Q:Exit→aJ→Prop} {s:aJ},Q ex s→bL P G c Q s):jT P G N B M c (fun S=>.cc x S):=
 fun S e ad hf _=>k ⟨x,S,e,rfl,h,cw.refl _,ad,hf,bM.refl _ _,Nat.le_refl _⟩
def F6(P:Program)(G:aY)(N B:Nat)(M:List bc)(L:(aq→ay)→Nat→aq→ay):Prop:=∀c f id,jT P G N B M c f→jT P G N B M (.loop c) (L f id)
def F7(P:Program)(G:aY)(N B:Nat)(M:List bc)(D:Array Oper→aq→ay):Prop:=∀id ops,jT P G N B M (.region id ops true) (D ops)
theorem sx(b5:gC P G M inl)(fm:F6 P G N B M L)(k1:F7 P G N B M D): ∀(c:Code) (cur:Nat),jT P G N B M c (comp P N B T inl L D c cur)
 | .skip,_=>F5 (ex:=.normal) trivial bL.skip
 | .ret,_=>F5 (ex:=.ret) trivial bL.ret
 | .exit id,_=>F5 (ex:=.exit id) rfl bL.exit
 | .region id ops draw,_=>by
  cases draw with
  |true=>exact k1 id ops
  |false=>
   intro S e ad hf ah
   have ug:ops=ops.toList.toArray:=by simp
   rw[ug];refine bL.region ?_
   rw[←ug];exact xm b5 ops.toList ad hf ah fun _ _ h=>h
 | .cond x a b,cur=>U0 (sx b5 fm k1 a cur) (sx b5 fm k1 b cur)
 | .block id c,_=>U1 (sx b5 fm k1 c id)
 | .seq a b,cur=>U2 (sx b5 fm k1 a cur) (sx b5 fm k1 b cur)
 | .loop c,cur=>fm c _ cur (sx b5 fm k1 c cur)
 | .rangeFunc _ _ _ _,_=>fun _ _ _ _ h=>h.elim
 | .scope _,_=>fun _ _ _ _ h=>h.elim
 | .label _,_=>fun _ _ _ _ h=>h.elim
 | .goto _,_=>fun _ _ _ _ h=>h.elim
 | .refuse _,_=>fun _ _ _ _ h=>h.elim
end
end Go.aG
namespace Go.aG
open Go
def xt:Nat→List ab→List (Nat × ab)
 |_,[]=>[]
 |i,x::r=>(i,x)::xt (i+1) r
def uC(P:Program)(N:Nat)(S:aq):List ResultVar→Option (List ab)
 |[]=>some []
 | .tmp t::r=>match uC P N S r with
  |some l=>some (S.aX N (.tmp t)::l)
  |none=>none
 | .cell p t::r=>match uC P N S r,se S (S.aX N (.tmp p))with
  |some l,some cs=>match pv P t cs with
   |some v=>some (v::l)
   |none=>none
  |_,_=>none
def F8(P:Program)(fn:Func)(N:Nat)(S:aq):Option ab:=
 match uC P N S fn.results.toList with
 |some [x]=>some x
 |some l=>some (.tp l)
 |none=>none
def xu:bH→bH
 | .ret=>.bY
 |x=>x
def U3:bH→Bool
 | .bY=>true
 | .ret=>true
 |_=>false
def AN(P:Program)(fn:Func)(N:Nat)(S:aq):ay:=
 match F8 P fn N S with
 |some v=>match v.lt S.k with
  |true=>.cc .bY {S with l:=aZ.put .emp 0 v}
  |false=>.bad 44
 |none=>.bad 43
structure n4 where
 L:Nat→Nat→(Nat→List ab→aq→ay)→(aq→ay)→Nat→aq→ay
 D:Nat→Nat→(Nat→List ab→aq→ay)→Array Oper→aq→ay
def sy(as:List ab)(S:aq):aq:={S with l:=eJ (xt 0 as)}
def F9(P:Program)(H:n4)(T:List (Nat × bC))(inl:Nat→List ab→aq→ay)(c:Code)(N:Nat)(as:List ab)(S:aq):ay:=
 comp P N S.n T inl (H.L N S.n inl) (H.D N S.n inl) c 0 (sy as S)
def uD(n:Nat)(m:Nat):Nat:=
 match n with
 |0=>m
 |k+1=>k+1
def ay.lW:ay→Nat
 | .cc _ _=>0
 | .lt _ _ t=>t.lW
 | .eW _ t=>t.lW
 | .it _ a b=>uD a.lW b.lW
 | .c3 _ a _ k=>uD a.lW k.lW
 | .dJ _ _ _ _ _ a k=>uD a.lW k.lW
 | .eh _ _ _ a k=>uD a.lW k.lW
 | .bad n=>n
def U4(f n:Nat):Nat:=
 match Nat.ble 1000 n with
 |true=>n
 |false=>f*1000+n
def Mc(P:Program)(f:Nat)(fn:Func)(N:Nat)(t:ay):ay:=
 match t.eR U3 with
 |true=>(t.rel xu).eb (AN P fn N) none
 |false=>.bad (U4 f t.lW)
def Ga(P:Program)(H:n4)(T:List (Nat × bC))(inl:Nat→List ab→aq→ay)(f:Nat)(as:List ab)(S:aq):ay:=
 match P.funcs[f]? with
 |some fn=>match fn.body with
  |some c=>Mc P f fn (as.length+(fn.ntmps-as.length)) (F9 P H T inl c (as.length+(fn.ntmps-as.length)) as S)
  |none=>.bad 41
 |none=>.bad 42
section
variable {P:Program} {G:aY} {N B:Nat} {M:List bc} {T:List (Nat × bC)} {inl:Nat→List ab→aq→ay} {H:n4}
def Gb(P:Program)(G:aY)(M:List bc)(H:n4):Prop:=∀(inl:Nat→List ab→aq→ay),gC P G M inl→∀N B,F6 P G N B M (H.L N B inl)∧F7 P G N B M (H.D N B inl)
theorem Md{t:TypeId}{l:List ab}{v:ab}{e:Env}(h:pv P t l=some v):
 (∃n,kZ P t=some n∧n≤l.length∧0<n∧v.den G e= .agg ((ab.bF G e l).take n))∨(kZ P t=none∧scalar P t=true∧∃r,l=v::r):=by
 unfold pv at h
 split at h
 ·rename_i n hn
  split at h
  ·rename_i ad
   simp only[Bool.and_eq_true]at ad;cases h;refine .inl ⟨n,hn,Nat.le_of_ble_eq_true ad.1,Nat.le_of_ble_eq_true ad.2,?_⟩
   simp only[ab.den,eg,List.map_take]
  ·cases h
 ·rename_i hn
  split at h
  ·rename_i ah
   cases h;exact .inr ⟨hn,ah,_,rfl⟩
  ·cases h
theorem AO{S:aq}{e:Env}(hf:S.cf e): ∀{l:List ResultVar} {vs:List ab},uC P N S l=some vs→lE P (S.den G N B e) l=some (ab.bF G e vs)
 |[],vs,h=>by cases h;rfl
 | .tmp t::r,vs,h=>by
  simp only[uC]at h
  split at h
  ·rename_i l an
   cases h
   have:=bw (G:=G) (N:=N) (B:=B) hf (.tmp t)
   simp only[lE,AO hf an,ab.bF,←this];rfl
  ·cases h
 | .cell p t::r,vs,h=>by
  simp only[uC]at h
  split at h
  ·rename_i l cs an hc
   split at h
   ·rename_i v av
    cases h
    have aa:=bw (G:=G) (N:=N) (B:=B) hf (.tmp p)
    have af:=wW (G:=G) (N:=N) (B:=B) (e:=e) hc
    rw[←aa]at af
    have af:eZ (S.den G N B e).heap ((S.den G N B e).cl.getD p .top)=some (ab.bF G e cs):=af
    simp only[lE,AO hf an,af,ab.bF]
    rcases Md (G:=G) (e:=e) av with⟨n,g1,g2,g3,g4⟩|⟨g1,g2,dW,g3⟩
    ·simp only[g1,g4]
     rw[if_pos ⟨by rw[lT];exact g2,g3⟩]
    ·subst g3
     simp only[g1,g2,if_true,ab.bF]
   ·cases h
  ·cases h
theorem U5{fn:Func}{S:aq}{e:Env}{v:ab}(hf:S.cf e)(h:F8 P fn N S=some v):vU P fn (S.den G N B e)=some (v.den G e):=by
 unfold F8 at h
 unfold vU
 split at h
 ·rename_i x hx
  cases h;rw[AO hf hx];rfl
 ·rename_i l bX an
  cases h;rw[AO hf an]
  match l with
  |[]=>rfl
  |[x]=>exact absurd rfl (bX x)
  |x::y::l=>rfl
 ·cases h
theorem Me(t:ay):t.hC xu:=lQ (t.lvl+1) (Nat.lt_succ_self _) (fun n _ x h=>by cases x<;>first|rfl|exact h) (fun n x h=>by cases x<;>first|rfl|exact h)
theorem Gc: ∀{l:List ab} {i j:Nat},(eJ (xt i l)).get j=if j<i then none else l[j-i]?
 |[],i,j=>by simp only[xt,eJ];split<;>simp[aZ.get]
 |x::r,i,j=>by
  simp only[xt,eJ,aZ.jf,Gc (l:=r)]
  by_cases h:i=j
  ·subst h;simp
  ·rw[if_neg h]
   by_cases af:j<i
   ·rw[if_pos af,if_pos (by omega)]
   ·rw[if_neg af,if_neg (by omega),show j-i=(j-(i+1))+1 by omega,List.getElem?_cons_succ]
theorem U6{as:List ab}{S:aq}{e:Env}{k:Nat}:(sy as S).den G (as.length+k) S.n e=⟨ab.bF G e as++List.replicate k .top,cv G e S.h,S.n,S.n⟩:=by
 simp only[aq.den,sy,aJ.mk.injEq,and_true,true_and]
 apply List.ext_getElem?
 intro j
 rw[pr,Nat.zero_add,Gc,if_neg (Nat.not_lt_zero _),Nat.sub_zero,eg,List.getElem?_append,List.getElem?_replicate,List.length_map]
 by_cases h:j<as.length
 ·rw[if_pos (by omega),if_pos h,List.getElem?_map,List.getElem?_eq_getElem h]
  rfl
 ·rw[if_neg h]
  by_cases af:j<as.length+k
  ·rw[if_pos af,if_pos (by omega),List.getElem?_eq_none (by omega)]
  ·rw[if_neg af,if_neg (by omega)]
theorem U7{as:List ab}{S:aq}(ad:S.cd)(an:ab.cj S.k as=true):(sy as S).cd:=by
 refine⟨fun i x hx=>?_,ad.h,ad.g⟩
 simp only[sy,Gc,Nat.not_lt_zero,if_false,Nat.sub_zero]at hx
 have hm:=List.mem_of_getElem? hx
 clear hx
 induction as with
 |nil=>cases hm
 |cons y r aO=>
  simp only[ab.cj,Bool.and_eq_true]at an
  rcases List.mem_cons.1 hm with rfl|hm
  ·exact an.1
  ·exact aO an.2 hm
theorem bL.U8{c:Code}{Q:Exit→aJ→Prop}{s:aJ}(h:bL P G c (fun e st=>∃AP,cw st AP∧Q e AP) s):bL P G c Q s:=fun E a w ae=>
 wp_mono (h E a w ae) fun _ aW w' ⟨st,⟨AP,an,aH⟩,af⟩=>⟨AP,aH,an E G aW w' af⟩
theorem U9(sz:Gb P G M H)(b5:gC P G M inl):gC P G M (Ga P H T inl):=by
 intro f as S e ad an hf ah
 unfold Ga at ah⊢
 split at ah
 ·rename_i fn sj
  split at ah
  ·rename_i c hc
   generalize jB:as.length+(fn.ntmps-as.length)=N at ah;generalize aB:F9 P H T inl c N as S=t at ah;unfold Mc at ah⊢
   split at ah
   ·rename_i Gd
    obtain⟨g1,g2,g3⟩:=iJ (t.rel xu) none ah
    have xv:t.safe M e:=(kG (Me t)).1 g1
    have Mf:=sx (T:=T) (B:=S.n) (N:=N) b5 (sz inl b5 N S.n).1 (sz inl b5 N S.n).2 c 0 (sy as S) e (U7 ad an) hf (by
     unfold F9 at aB;rw[aB];exact xv)
    have cb:comp P N S.n T inl (H.L N S.n inl) (H.D N S.n inl) c 0 (sy as S)=t:=aB
    rw[cb,←jB,U6,jB]at Mf;refine dn.Sc (k:=fn.ntmps-as.length) sj hc (by rw[lT]) (bL.U8 (bL.mono Mf fun ex st ak=>?_))
    obtain⟨x,cZ,aw,aa,af,ar,aQ,bx,ct,dw⟩:=ak;refine⟨_,ar,?_⟩
    obtain⟨kc,dt,a6,dx,dG⟩:=iI (M:=M) (e:=e) Gd;rw[aa]at dx
    cases dx
    have ae:run M (t.rel xu) e=some (.bY,cZ,aw):=by
     rw[wM (Me t),aa]
     cases x<;>first|rfl|cases dG
    obtain⟨xw,_⟩:=g3 cZ aw ae;rw[ae]at g2
    have g2:run M ((t.rel xu).eb (AN P fn N) none) e=run M (AN P fn N cZ) aw:=g2
    unfold AN at xw g2
    split at xw
    ·rename_i v av
     split at xw
     ·rename_i nE
      simp only[av,nE]at g2;refine⟨(by cases x<;>cases ex<;>first|exact .inl rfl|exact .inr rfl|exact af.elim|cases dG),v.den G aw,cv G aw cZ.h,U5 bx av,fun _ _ h=>h,{cZ with l:=aZ.put .emp 0 v},aw,g2,?_,rfl,⟨fun i x hx=>?_,aQ.h,aQ.g⟩,bx,ct,dw⟩
      ·simp only[aq.at,aZ.jf,if_true]
      ·simp only[aZ.jf]at hx
       split at hx
       ·cases hx;exact nE
       ·simp[aZ.get]at hx
     ·exact xw.elim
    ·exact xw.elim
   ·exact ah.elim
  ·exact ah.elim
 ·exact ah.elim
end
end Go.aG
