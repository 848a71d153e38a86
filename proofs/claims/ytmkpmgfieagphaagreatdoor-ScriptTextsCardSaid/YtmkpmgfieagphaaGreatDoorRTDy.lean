/- TD, part V: loops that count: how they are made, their parts. Conditions: none. -/
import Derived.Test.YtmkpmgfieagphaaGreatDoorRTDu
import Derived.Test.YtmkpmgfieagphaaGreatDoorRTDb
namespace Go.aM
open Go
def aB.ends:aB→List (bT × ar)
 | .cu x S=>[(x,S)]
 | .lt _ _ t=>t.ends
 | .eL _ t=>t.ends
 | .it _ a b=>a.ends++b.ends
 | .dr _ a _ k=>a.ends++k.ends
 | .ec _ _ _ _ _ a k=>a.ends++k.ends
 | .eH _ _ _ a k=>a.ends++k.ends
 | .bad _=>[]
def cj(S:ar):fw→List hb
 |[]=>[]
 |(i,r,p)::l=>⟨i,r,p.c1 S,p⟩::cj S l
def w7(kx j:Nat):List bX→Bool
 |[]=>false
 | .d2 i (.iZ .add .i64 .i64) x y::r=>match Nat.beq i j&&(fD x (.bl (.int .i64) kx)&&fD y (.cs (.int .i64 1)))with
  |true=>true
  |false=>w7 kx j r
 |_::r=>w7 kx j r
def Dw(kx bU:Nat)(aQ:ar):Bool:=
 match aQ.at bU with
 | .bl (.int .i64) j=>w7 kx j aQ.g
 |_=>false
def mv(J:fY)(n:Nat):fY:=⟨J.l,J.h,n,J.ps⟩
def u0(n:Nat):List (Nat × ab)→Bool
 |[]=>true
 |(_,x)::r=>ab.rj n x&&u0 n r
def Dx(J:fY)(aV kx bU:Nat)(aQ:ar):Bool:=je (mv J (Nat.max aQ.n J.n)) aV aQ&&Dw kx bU aQ
def sL(J b5:fY)(aV kx bU cur:Nat):List (bT × ar)→Bool
 |[]=>true
 |(.b9,aQ)::r=>Dx J aV kx bU aQ&&sL J b5 aV kx bU cur r
 |(.ext m,aQ)::r=>(match Nat.beq m cur with
  |true=>je b5 aV aQ
  |false=>true)&&sL J b5 aV kx bU cur r
 |_::r=>sL J b5 aV kx bU cur r
def Dy(dS:ar):fw→Bool
 |[]=>true
 |(i,r,p)::l=>fD (p.c1 dS) (.bl r i)&&Dy dS l
def aB.w8(cur:Nat):aB→Option ar
 | .lt _ _ t=>t.w8 cur
 | .cu (.ext m) S=>match Nat.beq m cur with
  |true=>some S
  |false=>none
 |_=>none
structure o1 where
 J:fY
 b5:fY
 bU:Nat
 y:ab
def o1.kx(I:o1)(S:ar):Nat:=S.k+I.J.ps.length
def o1.H(I:o1)(S:ar):ar:=ar.put ⟨e6 I.J.l,I.J.h,I.J.n,I.kx S+1,.rg (I.kx S) I.y::S.g⟩ (some I.bU) (.bl (.int .i64) (I.kx S))
def o1.E(I:o1)(S:ar):ar:=ar.put ⟨e6 I.J.l,I.J.h,I.J.n,I.kx S,S.g⟩ (some I.bU) I.y
def Dz(S:ar)(x:ab):Nat→Bool
 |0=>false
 |n+1=>fD (S.at n) x||Dz S x n
def lenOf(j:Nat):List bX→Option (bO × ab)
 |[]=>none
 | .d1 i (.iC c) x::r=>match Nat.beq i j with
  |true=>some (c,x)
  |false=>lenOf j r
 |_::r=>lenOf j r
def y5(c:bO)(x:ab):Bool:=
 match x.rt with
 |some (.li d)=>decide (d=c)
 |_=>false
def zX(N:Nat)(S:ar)(y:ab):List fK:=
 match y with
 | .cs (.int .i64 n)=>match decide (0≤n∧n<9223372036854775808)with
  |true=>[]
  |false=>[.nth 9223372036854775808 y]
 | .bl (.int .i64) j=>match lenOf j S.g with
  |some (c,x)=>match Dz S x N&&y5 c x with
   |true=>[]
   |false=>[.nth 9223372036854775808 y]
  |none=>[.nth 9223372036854775808 y]
 |y=>[.nth 9223372036854775808 y]
def isInt(y:ab):Bool:=
 match y.rt with
 |some (.int .i64)=>true
 |_=>false
def Ri(N B cur:Nat)(S:ar)(I:o1)(t1 t2:aB):Bool:=
 (hX S.k I.J.ps&&(ri (I.kx S) I.J.l&&eI (I.kx S) I.J.h))&&((fD (S.at I.bU) (.cs (.int .i64 0))&&(isInt I.y&&I.y.lt S.k))&&
 ((je (mv I.J (Nat.max S.n I.J.n)) S.k S&&(u0 I.J.n I.J.l&&n1 I.J.n I.J.h))&&((Nat.blt I.bU N&&Nat.ble B I.J.n)&&
 (sL I.J ⟨I.b5.l,I.b5.h,I.b5.n,I.J.ps⟩ S.k (I.kx S) I.bU cur t1.ends&&((ri (I.kx S) I.b5.l&&eI (I.kx S) I.b5.h)&&(match t2.w8 cur with
  |some dS=>je ⟨I.b5.l,I.b5.h,I.b5.n,I.J.ps⟩ S.k dS&&Dy dS I.J.ps
  |none=>false))))))
def Rj(N B cur:Nat)(S:ar)(I:o1)(t1 t2:aB):aB:=
 match Ri N B cur S I t1 t2 with
 |true=>emit S.k [] (zX N S I.y) (.ec (t1.lvl+1) cur (.q4 (.int .i64) I.y) (I.kx S) (cj S I.J.ps) (t1.rel (fu (t1.lvl+1))) (.cu (.ext cur) ⟨e6 I.b5.l,I.b5.h,I.b5.n,I.kx S,S.g⟩))
 |false=>.bad (w6 t1.nt 60)
def w9(N B:Nat)(f:ar→aB)(cur:Nat)(S:ar)(I:o1):aB:=Rj N B cur S I (f (I.H S)) (f (I.E S))
section
variable {P:Program} {G:a7} {N B:Nat} {M:List a1}
theorem n3: ∀{t:aB} {x:bT} {e ax:Env} {S:ar},run M t e=some (x,S,ax)→(x,S)∈t.ends
 | .cu x S0,_,e,ax,S,h=>by
  simp only[run,aB.fold]at h;cases h;simp[aB.ends]
 | .lt _ _ t,_,_,_,_,h=>n3 (t:=t) h
 | .eL _ t,_,_,_,_,h=>n3 (t:=t) h
 | .it c a b,_,e,ax,S,h=>by
  simp only[run,aB.fold]at h;simp only[aB.ends,List.mem_append]
  cases hc:c.aH e .bool with
  |true=>rw[hc]at h;exact .inl (n3 (t:=a) h)
  |false=>rw[hc]at h;exact .inr (n3 (t:=b) h)
 | .dr n a ps k,y,e,ax,S,h=>by
  simp only[aB.ends,List.mem_append]
  cases af:run M a e with
  |none=>unfold run at h;rw[su af]at h;cases h
  |some l=>
   obtain⟨x,aQ,aA⟩:=l
   cases hx:x.bH n with
   |true=>
    unfold run at h;rw[pM af hx]at h;exact .inr (n3 (t:=k) h)
   |false=>
    unfold run at h;rw[nj af hx]at h;cases h;exact .inl (n3 (t:=a) af)
 | .ec m xid da bU ca a k,y,e,ax,S,h=>by
  rw[CX]at h;simp only[aB.ends,List.mem_append]
  cases ao:bL (fun i (v:bM ca)=>cP M m xid ca a (bd (bb.put e bU ⟨.int .i64,(i:Int)⟩) ca v) v) 0 (cg (da.den M e)).toNat (b3 _ (dw e ca))with
  |inl r=>
   rw[ao]at h
   have h:r=some (y,S,ax):=h
   subst h;obtain⟨i,v,ae⟩:=Jw ao;exact .inl (n3 (t:=a) (CW ae))
  |inr v=>rw[ao]at h;exact .inr (n3 (t:=k) h)
 | .eH m xid ca a k,y,e,ax,S,h=>by
  rw[CY]at h;simp only[aB.ends,List.mem_append]
  cases ao:b4 (fun(v:bM ca)=>cP M m xid ca a (bd e ca v) v) cn (b3 _ (dw e ca))with
  |inl r=>
   rw[ao]at h
   have h:r=some (y,S,ax):=h
   subst h;obtain⟨v,ae⟩:=Jx ao;exact .inl (n3 (t:=a) (CW ae))
  |inr v=>rw[ao]at h;exact .inr (n3 (t:=k) h)
 | .bad _,_,_,_,_,h=>by cases h
theorem Rk(S:ar)(e:Env): ∀ca:List hb,dn (q6 ca) (b3 (q6 ca) (fh S e ca))=fh S e ca
 |[]=>rfl
 |[a]=>by simp only[q6,fh,b3,dn,cT]
 |a::b::l=>by
  have:=Rk S e (b::l)
  simp only[q6,fh]at this;simp only[q6,fh,b3,dn,cT,this]
theorem Kc{S:ar}{e:Env}: ∀{ps:fw},dw e (cj S ps)=fh S e (cj S ps)
 |[]=>rfl
 |(_,_,_)::l=>by simp only[cj,dw,fh,Kc (ps:=l)]
theorem zY{S0 aQ:ar}{e aA:Env}{ps:fw}:bd e (cj S0 ps) (b3 _ (fh aQ aA (cj S0 ps)))=fB e (fun r p=>⟨r,(p.c1 aQ).get aA r⟩) ps:=by
 unfold bd
 rw[Rk]
 induction ps generalizing e with
 |nil=>rfl
 |cons q l aR=>
  obtain⟨i,r,p⟩:=q;simp only[cj,fh,q7,fB];exact aR
theorem Rl{i:Nat}: ∀{ca:List hb} {e:Env} {ds:List aD},(∀a∈ca,a.i≠i)→Env.at (q7 e ca ds) i=Env.at e i
 |[],_,[],_=>rfl
 |[],_,_::_,_=>rfl
 |_::_,_,[],_=>rfl
 |a::l,e,d::ds,h=>by
  simp only[q7];rw[Rl (ca:=l) fun b ae=>h b (by simp[ae]),Env.j2,if_neg (h a (by simp))]
theorem Rm{S:ar}: ∀{ps:fw} {k:Nat},hX k ps=true→∀a∈cj S ps,k≤a.i∧a.i<k+ps.length
 |(j,r,p)::l,k,h,a,aI=>by
  simp only[hX,Bool.and_eq_true]at h
  have ai:=Nat.eq_of_beq_eq_true h.1
  simp only[cj]at aI
  rcases List.mem_cons.1 aI with rfl|aI
  ·simp only[List.length_cons];omega
  ·have:=Rm (k:=k+1) h.2.2 a aI
   simp only[List.length_cons];omega
 |[],_,_,a,aI=>by cases aI
theorem xa{S:ar}{e:Env}{ps:fw}{k i:Nat}{v:bM (cj S ps)}(h:hX k ps=true)(hi:i<k∨k+ps.length≤i):Env.at (bd e (cj S ps) v) i=Env.at e i:=
 Rl fun a aI=>by have:=Rm h a aI;omega
theorem Rn{S:ar}: ∀{ps:fw} {k:Nat} {e:Env} {v:bM (cj S ps)},hX k ps=true→∀{i:Nat} {r:aZ} {p:eg},iE ps i=some (r,p)→(Env.at (bd e (cj S ps) v) i).r=r
 |[],_,_,_,_,_,_,_,ak=>by cases ak
 |[(j,ew,fL)],k,e,v,h,i,r,p,ak=>by
  simp only[iE]at ak
  split at ak
  ·rename_i ae
   cases ak;rw[←Nat.eq_of_beq_eq_true ae];simp only[bd,cj,q6,dn,q7];rw[Env.j2,if_pos rfl]
  ·cases ak
 |(j,ew,fL)::q::l,k,e,v,h,i,r,p,ak=>by
  simp only[hX,Bool.and_eq_true]at h
  have ai:=Nat.eq_of_beq_eq_true h.1
  obtain⟨bV,lA,dE⟩:=q
  have ag:bd e (cj S ((j,ew,fL)::(bV,lA,dE)::l)) v=bd (bb.put e j ⟨ew,v.1⟩) (cj S ((bV,lA,dE)::l)) v.2:=rfl
  have ad:hX (k+1) ((bV,lA,dE)::l)=true:=by
   simp only[hX,Bool.and_eq_true];exact h.2.2
  simp only[iE]at ak
  split at ak
  ·rename_i ae
   cases ak
   have:=Nat.eq_of_beq_eq_true ae
   rw[ag];refine(congrArg aD.r (xa (S:=S) (e:=bb.put e j ⟨ew,v.1⟩) (ps:=(bV,lA,dE)::l) (k:=k+1) (i:=i) (v:=v.2) ad (.inl (by omega)))).trans ?_
   rw[Env.j2,if_pos this]
  ·rw[ag]
   exact Rn (S:=S) (e:=bb.put e j ⟨ew,v.1⟩) (ps:=(bV,lA,dE)::l) (k:=k+1) (v:=v.2) ad ak
theorem Ro{f:aZ→eg→aD}{i:Nat}: ∀{ps:fw} {e ax:Env},Env.at e i=Env.at ax i→Env.at (fB e f ps) i=Env.at (fB ax f ps) i
 |[],_,_,h=>h
 |(j,r,p)::l,e,ax,h=>by
  simp only[fB];refine Ro (ps:=l) ?_
  rw[Env.j2,Env.j2,h]
theorem zbt{c:Code}{R A:Type}{n:Nat}{b:Nat→A→Step R A}{a0:A}{hd:Nat→A→aN}{Q:Exit→aN→Prop}{df:aN}{I:Nat→A→Prop}
    (aU:cO df (hd 0 a0))(hi:I 0 a0)
    (af: ∀k a,k<n→I k a→bL b 0 n a0=bL b k (n-k) a→bY P G c (fun e st=>match e with
      | .normal=>∃aY,b k a= .bn aY∧I (k+1) aY∧cO st (hd (k+1) aY)
      |e=>Q e st) (hd k a))
    (he: ∀a,I n a→bL b 0 n a0= .inr a→bY P G c (fun e st=>match e with
      | .normal=>False
      |e=>Q e st) (hd n a)):bY P G (.loop c) Q df:=by
  refine bY.loop (ι:=Nat × A) (fun x=>hd x.1 x.2) (fun x=>x.1≤n∧bL b 0 n a0=bL b x.1 (n-x.1) x.2∧I x.1 x.2) (fun x=>n-x.1) (0,a0) aU ⟨Nat.zero_le _,rfl,hi⟩ ?_
  rintro⟨k,a⟩ ⟨aj,fG,cd⟩
  simp only at aj fG cd⊢
  by_cases oF:k<n
  · refine bY.mono (af k a oF cd fG) fun e st ag=>?_
    cases e with
    |normal=>
      obtain⟨aY,aa,aq,ad⟩:=ag;exact⟨(k+1,aY),⟨oF,Zj fG oF aa,aq⟩,by show n-(k+1)<n-k;omega,ad⟩
    |_=>exact ag
  · have:k=n:=by omega
    subst this;refine bY.mono (he a cd (Zm fG (Nat.le_refl _))) fun e st ag=>?_
    cases e with
    |normal=>exact ag.elim
    |_=>exact ag
theorem cO.low{aP:List aE}{h:bA}{m n b:Nat}(aa:k7 n aP=true)(ad:k8 n h=true)(aq:b≤n):cO ⟨aP,h,m,b⟩ ⟨aP,h,n,b⟩:=by
 intro E G a w ⟨β,ro,af⟩
 refine⟨β,ro,af.defers,af.size,fun i x hx=>?_,⟨fun id o ah=>?_,af.heap.inj,af.heap.fz,af.heap.lt⟩,af.hV,?_,af.base⟩
 ·exact(af.slot i x hx).lower (qR aa hx)
 ·have an:=af.heap.c7 id o ah
  obtain⟨_,yE⟩:=qS ad ah
  cases an with
  |box t cs b arr aA aW cr eD=>exact .box t cs b arr aA aW cr fun j x ai=>(eD j x ai).lower (qR (yE t cs rfl) ai)
  |row t n es xs aA aW cr=>exact .row t n es xs aA aW cr
  |fV t n es aA=>exact .fV t n es aA
  |b1 bF b o aA aW cr=>exact .b1 bF b o aA aW cr
 ·have t:=af.trans
  exact⟨t.os,t.tape,t.output,t.size,t.frame,t.iR,t.jR,t.gN,t.dK,fun id o ah=>(qS ad ah).1,Nat.le_trans af.base aq⟩
theorem Kd{n:Nat}{e:Env}{l:bb ab}(h: ∀i x,l.get i=some x→ab.rj n x=true): ∀(k i:Nat),k7 n (j4 G e l i k)=true
 |0,_=>rfl
 |k+1,i=>by
  simp only[j4,k7,Kd h k (i+1),Bool.and_true]
  cases ah:l.get i with
  |none=>rfl
  |some x=>exact Dh (h i x ah)
theorem Ke{n:Nat}: ∀{l:List (Nat × ab)},u0 n l=true→∀{i:Nat} {x:ab},(i,x)∈l→ab.rj n x=true
 |(_,_)::r,h,i,x,hm=>by
  simp only[u0,Bool.and_eq_true]at h
  rcases List.mem_cons.1 hm with q|q
  ·cases q;exact h.1
  ·exact Ke h.2 q
theorem Rp{J:fY}{aV kx bU j:Nat}{S0 aQ:ar}{e aA:Env}{k:Nat}{g g':List bX}(ak:hX aV J.ps=true)(rp:kx=aV+J.ps.length)(ao:ri kx J.l=true)(aX:eI kx J.h=true)
 (ow: ∀c∈aQ.g,c.ok aA)(h:je (mv J (Nat.max aQ.n J.n)) aV aQ=true)(iz:u0 J.n J.l=true)(pE:n1 J.n J.h=true)(gb:B≤J.n)(DA:bU<N)(bG:bZ aV e aA)(av:(aQ.at bU).den G aA= .au (.v (.int .i64 (j:Int)))):
 cO (aQ.den G N B aA) ((ar.put ⟨e6 J.l,J.h,J.n,k,g⟩ (some bU) (.bl (.int .i64) kx)).den G N B (bd (bb.put e kx ⟨.int .i64,(j:Int)⟩) (cj S0 J.ps) (b3 _ (fh aQ aA (cj S0 J.ps))))):=by
 have aa:=Jz (G:=G) (N:=N) (B:=B) (J:=mv J (Nat.max aQ.n J.n)) ak ow h (g:=g') bG
 have ad:=aa.put (i:=bU) (x:=.v (.int .i64 (j:Int))) (by rw[uF,if_pos DA,av])
 refine ad.le.trans ?_
 rw[zY,fC]
 have zbu:Env.at (fB (bb.put e kx ⟨.int .i64,(j:Int)⟩) (fun r p=>⟨r,(p.c1 aQ).get aA r⟩) J.ps) kx=⟨.int .i64,(j:Int)⟩:=by
  rw[←zY (S0:=S0),xa ak (.inr (by omega)),Env.j2,if_pos rfl]
 have Rq:(ab.bl (.int .i64) kx).den G (fB (bb.put e kx ⟨.int .i64,(j:Int)⟩) (fun r p=>⟨r,(p.c1 aQ).get aA r⟩) J.ps)= .au (.v (.int .i64 (j:Int))):=by
  simp only[ab.den,zbu,cT,fQ,lK]
 rw[Rq]
 have cX:bZ kx (fB e (fun r p=>⟨r,(p.c1 aQ).get aA r⟩) J.ps) (fB (bb.put e kx ⟨.int .i64,(j:Int)⟩) (fun r p=>⟨r,(p.c1 aQ).get aA r⟩) J.ps):=fun i hi=>
  Ro (by rw[Env.j2,if_neg (by omega)])
 have pX:(⟨e6 J.l,J.h,J.n,kx,[]⟩:ar).cw:=⟨fun i x hx=>sE ao (oX hx),aX,rfl⟩
 have aj:=ll (G:=G) (N:=N) (B:=B) (S:=⟨e6 J.l,J.h,J.n,kx,[]⟩) cX pX
 have aq:(ar.mk (e6 J.l) J.h J.n k g).den G N B (fB (bb.put e kx ⟨.int .i64,(j:Int)⟩) (fun r p=>⟨r,(p.c1 aQ).get aA r⟩) J.ps)=(ar.mk (e6 J.l) J.h J.n kx []).den G N B (fB e (fun r p=>⟨r,(p.c1 aQ).get aA r⟩) J.ps):=aj
 rw[aq]
 refine cO.low (m:=Nat.max aQ.n J.n) ?_ ?_ gb
 ·have:=Kd (G:=G) (e:=fB (bb.put e kx ⟨.int .i64,(j:Int)⟩) (fun r p=>⟨r,(p.c1 aQ).get aA r⟩) J.ps) (n:=J.n) (l:=(e6 J.l).put bU (.bl (.int .i64) kx)) (fun i x hx=>by
   rw[bb.j1]at hx
   split at hx
   ·cases hx;rfl
   ·exact Ke iz (oX hx)) N 0
  rw[Iy,Rq]at this
  have vM:j4 G (fB (bb.put e kx ⟨.int .i64,(j:Int)⟩) (fun r p=>⟨r,(p.c1 aQ).get aA r⟩) J.ps) (e6 J.l) 0 N=j4 G (fB e (fun r p=>⟨r,(p.c1 aQ).get aA r⟩) J.ps) (e6 J.l) 0 N:=congrArg aN.cE aj
  rw[vM]at this;exact this
 ·exact wZ pE
end
end Go.aM
namespace Go.aM
open Go
section
variable {P:Program} {G:a7} {N B:Nat} {M:List a1}
theorem Rr{S:ar}{x:ab}: ∀{n:Nat},Dz S x n=true→∃i,i<n∧S.at i=x
 |n+1,h=>by
  simp only[Dz,Bool.or_eq_true]at h
  rcases h with h|h
  ·exact⟨n,Nat.lt_succ_self n,fR h⟩
  ·obtain⟨i,aa,ad⟩:=Rr h
   exact⟨i,by omega,ad⟩
theorem zZ{j:Nat}{c:bO}{x:ab}{e:Env}: ∀{l:List bX},lenOf j l=some (c,x)→(∀c∈l,c.ok e)→Env.at e j=⟨.int .i64,(List.length (x.aH e (.li c)):Int)⟩
 | .d1 i f y::r,h,hc=>by
  have af: ∀{c x},lenOf j r=some (c,x)→Env.at e j=⟨.int .i64,(List.length (x.aH e (.li c)):Int)⟩:=fun h=>zZ h fun c hm=>hc c (by simp[hm])
  have aU:=hc (.d1 i f y) (by simp)
  cases f with
  |iC d=>
   simp only[lenOf]at h
   split at h
   ·rename_i ae
    cases h;rw[←Nat.eq_of_beq_eq_true ae];exact aU
   ·exact af h
  |_=>exact af h
 | .d2 _ _ _ _::r,h,hc=>zZ (l:=r) h fun c hm=>hc c (by simp[hm])
 | .rg _ _::r,h,hc=>zZ (l:=r) h fun c hm=>hc c (by simp[hm])
 | .dP _ _::r,h,hc=>zZ (l:=r) h fun c hm=>hc c (by simp[hm])
theorem zbv{S:ar}{y:ab}{e:Env}{Rs:Entry}{a:Act}{w:World}(hf:S.cx e)(h: ∀n∈zX N S y,n.ok M e)(af:Rel Rs G (S.den G N B e) a w):0≤cg (y.dyn e)∧cg (y.dyn e)<9223372036854775808:=by
 have key:(fK.nth 9223372036854775808 y).ok M e→0≤cg (y.dyn e)∧cg (y.dyn e)<9223372036854775808:=fun h=>h
 unfold zX at h
 split at h
 ·rename_i n
  split at h
  ·rename_i hd
   exact of_decide_eq_true hd
  ·exact key (h _ (by simp))
 ·rename_i j
  split at h
  ·rename_i c x ao
   split at h
   ·rename_i ae
    simp only[Bool.and_eq_true]at ae;obtain⟨i,hi,hx⟩:=Rr ae.1
    have aa:=zZ ao hf
    have zbw:x.rt=some (.li c):=by
     have:=ae.2
     unfold y5 at this
     split at this
     ·rename_i d hd
      rw[hd,of_decide_eq_true this]
     ·cases this
    have ad:=gJ (G:=G) (e:=e) zbw
    have u1:aJ G (S.den G N B e) (.tmp i)= .au (.li c (x.aH e (.li c))):=by
     simp only[aJ,List.getD_eq_getElem?_getD,uF,if_pos hi,hx,ad]
     rfl
    have:=ZC af u1
    have hd:cg ((ab.bl (.int .i64) j).dyn e)=(List.length (x.aH e (.li c)):Int):=by
     simp only[ab.dyn,aa,cT,cg]
    rw[hd];omega
   ·exact key (h _ (by simp))
  ·exact key (h _ (by simp))
 ·exact key (h _ (by simp))
theorem z1{kx j:Nat}{e:Env}: ∀{l:List bX},w7 kx j l=true→(∀c∈l,c.ok e)→Env.at e j=⟨.int .i64,IntKind.i64.wrap (((Env.at e kx).as (.int .i64):Int)+1)⟩
 | .d2 i f x y::r,h,hc=>by
  have af:w7 kx j r=true→Env.at e j=⟨.int .i64,IntKind.i64.wrap (((Env.at e kx).as (.int .i64):Int)+1)⟩:=fun h=>z1 h fun c hm=>hc c (by simp[hm])
  have aU:=hc (.d2 i f x y) (by simp)
  unfold w7 at h
  split at h
  ·cases h
  ·rename_i heq
   cases heq
   split at h
   ·rename_i ae
    simp only[Bool.and_eq_true]at ae;rw[←Nat.eq_of_beq_eq_true ae.1]
    have aU:Env.at e i=_:=aU
    rw[aU,fR ae.2.1,fR ae.2.2];simp only[b6.den,ab.aH,ab.fM,ab.dyn,cT,ba]
   ·exact af h
  ·rename_i heq
   cases heq;exact af h
 | .d1 _ _ _::r,h,hc=>z1 (l:=r) h fun c hm=>hc c (by simp[hm])
 | .rg _ _::r,h,hc=>z1 (l:=r) h fun c hm=>hc c (by simp[hm])
 | .dP _ _::r,h,hc=>z1 (l:=r) h fun c hm=>hc c (by simp[hm])
theorem zbx{kx bU:Nat}{aQ:ar}{e:Env}{i:Nat}(h:Dw kx bU aQ=true)(hf:aQ.cx e)(aj:Env.at e kx=⟨.int .i64,(i:Int)⟩)(hi:(i:Int)<9223372036854775807):(aQ.at bU).den G e= .au (.v (.int .i64 ((i+1:Nat):Int))):=by
 unfold Dw at h
 split at h
 ·rename_i j hx
  have:=z1 h hf
  rw[hx];simp only[ab.den,this,cT,aj,fQ,lK];rw[YI (by omega)]
 ·cases h
theorem Rt{cur:Nat}: ∀{t:aB} {e:Env} {S:ar},t.w8 cur=some S→t.safe M e∧∃ax,run M t e=some (.ext cur,S,ax)
 | .lt _ _ t,e,S,h=>Rt (t:=t) h
 | .cu x S0,e,S,h=>by
  refine⟨trivial,?_⟩
  unfold aB.w8 at h
  split at h
  ·rename_i heq;cases heq
  ·rename_i m dm heq
   cases heq
   split at h
   ·rename_i ae
    cases h;rw[←Nat.eq_of_beq_eq_true ae];exact⟨e,rfl⟩
   ·cases h
  ·cases h
 | .eL _ _,_,_,h=>by cases h
 | .it _ _ _,_,_,h=>by cases h
 | .dr _ _ _ _,_,_,h=>by cases h
 | .ec _ _ _ _ _ _ _,_,_,h=>by cases h
 | .eH _ _ _ _ _,_,_,h=>by cases h
 | .bad _,_,_,h=>by cases h
theorem Ru{dS:ar}: ∀{ps:fw},Dy dS ps=true→∀{i:Nat} {r:aZ} {p:eg},iE ps i=some (r,p)→p.c1 dS= .bl r i
 |(j,ew,fL)::l,h,i,r,p,ak=>by
  simp only[Dy,Bool.and_eq_true]at h;simp only[iE]at ak
  split at ak
  ·rename_i ae
   cases ak;rw[fR h.1,Nat.eq_of_beq_eq_true ae]
  ·exact Ru h.2 ak
theorem Rv{J b5:fY}{aV kx bU cur:Nat}: ∀{l:List (bT × ar)},sL J b5 aV kx bU cur l=true→∀{x:bT} {aQ:ar},(x,aQ)∈l→(x= .b9→Dx J aV kx bU aQ=true)∧(x= .ext cur→je b5 aV aQ=true)
 |(y,dS)::r,h,x,aQ,hm=>by
  have aX:sL J b5 aV kx bU cur r=true∧(y= .b9→Dx J aV kx bU dS=true)∧(y= .ext cur→je b5 aV dS=true):=by
   cases y with
   |b9=>
    simp only[sL,Bool.and_eq_true]at h;exact⟨h.2,fun _=>h.1,fun e=>(by cases e)⟩
   |ext m=>
    simp only[sL,Bool.and_eq_true]at h;refine⟨h.2,fun e=>(by cases e),fun e=>?_⟩
    cases e
    have aa:=h.1
    rw[Nat.beq_refl]at aa;exact aa
   |ret=>exact⟨h,fun e=>(by cases e),fun e=>(by cases e)⟩
   |lh m=>exact⟨h,fun e=>(by cases e),fun e=>(by cases e)⟩
  rcases List.mem_cons.1 hm with q|q
  ·cases q;exact aX.2
  ·exact Rv aX.1 q
theorem bY.rel{c:Code}{Q:Exit→aN→Prop}{s:aN}(h:(∃E a w,Rel E G s a w)→bY P G c Q s):bY P G c Q s:=fun E a w af=>h ⟨E,a,w,af⟩ E a w af
theorem zby{ps:fw}: ∀{k i:Nat},hX k ps=true→k≤i→i<k+ps.length→∃r p,iE ps i=some (r,p):=by
 induction ps with
 |nil=>intro k i _ aa ad;simp at ad;omega
 |cons q l aR=>
  obtain⟨j,r,p⟩:=q;intro k i h aa ad;simp only[hX,Bool.and_eq_true]at h
  have ai:=Nat.eq_of_beq_eq_true h.1
  simp only[iE]
  split
  ·exact⟨r,p,rfl⟩
  ·rename_i ae
   refine aR h.2.2 ?_ (by simp only[List.length_cons]at ad;omega)
   have:j≠i:=fun e=>by rw[e,Nat.beq_refl]at ae;cases ae
   omega
theorem Rw{i:Nat}: ∀{ca:List hb} {e ax:Env} {ds:List aD},Env.at e i=Env.at ax i→Env.at (q7 e ca ds) i=Env.at (q7 ax ca ds) i
 |[],_,_,[],h=>h
 |[],_,_,_::_,h=>h
 |_::_,_,_,[],h=>h
 |a::l,e,ax,d::ds,h=>by
  simp only[q7];refine Rw (ca:=l) ?_
  rw[Env.j2,Env.j2,h]
theorem Kf{c:Code}{f:ar→aB}(hf:kN P G N B M c f){cur:Nat}{S:ar}{I:o1}{e:Env}(ae:S.cw)(eS:S.cx e)(ag:(w9 N B f cur S I).safe M e):bY P G (.loop c) (jg G N B M (w9 N B f cur S I) e S.k) (S.den G N B e):=by
 unfold w9 Rj at ag⊢
 split at ag
 rotate_left
 ·exact ag.elim
 rename_i sM
 generalize z6:f (I.H S)=t1 at ag sM⊢
 generalize Rx:f (I.E S)=t2 at sM
 simp only[Ri,Bool.and_eq_true]at sM
 obtain⟨⟨aw,ey,gT⟩,⟨lp,rn,pY⟩,⟨n2,z7,z8⟩,⟨DB,rq⟩,Kg,⟨Kh,Ki⟩,Aa⟩:=sM
 have DB:=e2 DB
 have rq:=Nat.le_of_ble_eq_true rq
 obtain⟨fE,e0⟩:=mr ag
 have e0:(aB.ec (t1.lvl+1) cur (.q4 (.int .i64) I.y) (I.kx S) (cj S I.J.ps) (t1.rel (fu (t1.lvl+1))) (.cu (.ext cur) ⟨e6 I.b5.l,I.b5.h,I.b5.n,I.kx S,S.g⟩)).safe M e:=e0
 refine bY.rel fun⟨Rs,ac,w,dp⟩=>?_
 obtain⟨zbz,z2⟩:=zbv (M:=M) (e:=e) eS fE dp
 have Kj:I.y.rt=some (.int .i64):=by
  unfold isInt at rn
  split at rn
  ·assumption
  ·cases rn
 generalize gV:aB.ec (t1.lvl+1) cur (.q4 (.int .i64) I.y) (I.kx S) (cj S I.J.ps) (t1.rel (fu (t1.lvl+1))) (.cu (.ext cur) ⟨e6 I.b5.l,I.b5.h,I.b5.n,I.kx S,S.g⟩)=p0 at e0
 have zbA:run M (emit S.k [] (zX N S I.y) p0) e=run M p0 e:=lQ
 refine bY.mono (Q':=jg G N B M (emit S.k [] (zX N S I.y) p0) e S.k) ?_ fun ex st h=>h
 refine bY.mono (Q:=jg G N B M p0 e S.k) ?_ fun ex st h=>h.sub zbA (bZ.refl _ _) (Nat.le_refl _)
 have rp:I.kx S=S.k+I.J.ps.length:=rfl
 have xb:I.H S=ar.put ⟨e6 I.J.l,I.J.h,I.J.n,I.kx S+1,.rg (I.kx S) I.y::S.g⟩ (some I.bU) (.bl (.int .i64) (I.kx S)):=rfl
 have DC:I.E S=ar.put ⟨e6 I.J.l,I.J.h,I.J.n,I.kx S,S.g⟩ (some I.bU) I.y:=rfl
 generalize jb:I.kx S=kx at*
 have pX:cg ((bS.q4 (.int .i64) I.y).den M e)=cg (I.y.dyn e):=by
  rw[mo Kj];rfl
 generalize DD:cg (I.y.dyn e)=Z at*
 have Kk:t1.lvl<t1.lvl+1:=Nat.lt_succ_self _
 have kX:=Ir Kk
 subst gV
 obtain⟨⟨Inv,Kl,DE⟩,aj⟩:=e0
 rw[pX]at DE
 have cU: ∀L,bL (fun i (v:bM (cj S I.J.ps))=>cP M (t1.lvl+1) cur (cj S I.J.ps) (t1.rel (fu (t1.lvl+1))) (bd (bb.put e kx ⟨.int .i64,(i:Int)⟩) (cj S I.J.ps) v) v) 0 Z.toNat (b3 _ (dw e (cj S I.J.ps)))=L→
  run M (aB.ec (t1.lvl+1) cur (.q4 (.int .i64) I.y) kx (cj S I.J.ps) (t1.rel (fu (t1.lvl+1))) (.cu (.ext cur) ⟨e6 I.b5.l,I.b5.h,I.b5.n,kx,S.g⟩)) e=Sum.elim (fun r=>r) (fun v=>some (.ext cur,⟨e6 I.b5.l,I.b5.h,I.b5.n,kx,S.g⟩,bd e (cj S I.J.ps) v)) L:=fun L fG=>by
  rw[CX,pX,fG];rfl
 generalize zbB:aB.ec (t1.lvl+1) cur (.q4 (.int .i64) I.y) kx (cj S I.J.ps) (t1.rel (fu (t1.lvl+1))) (.cu (.ext cur) ⟨e6 I.b5.l,I.b5.h,I.b5.n,kx,S.g⟩)=p0 at cU

 have xc: ∀(i:Nat) (v:bM (cj S I.J.ps)),bZ S.k e (bd (bb.put e kx ⟨.int .i64,(i:Int)⟩) (cj S I.J.ps) v):=fun i v j ai=>by
  rw[xa aw (.inl ai),Env.j2,if_neg (by omega)]
 have Km: ∀(i:Nat) (v:bM (cj S I.J.ps)),Env.at (bd (bb.put e kx ⟨.int .i64,(i:Int)⟩) (cj S I.J.ps) v) kx=⟨.int .i64,(i:Int)⟩:=fun i v=>by
  rw[xa aw (.inr (by omega)),Env.j2,if_pos rfl]
 have zbC: ∀(i:Nat) (v:bM (cj S I.J.ps)),bZ kx (bd (bb.put e kx ⟨.int .i64,(i:Int)⟩) (cj S I.J.ps) v) (bd e (cj S I.J.ps) v):=fun i v j ai=>by
  refine Rw ?_
  rw[Env.j2,if_neg (by omega)]
 have sN: ∀(v:bM (cj S I.J.ps)),bZ S.k e (bd e (cj S I.J.ps) v):=fun v j ai=>xa aw (.inl ai)
 have zbD:(I.H S).k=kx+1:=by rw[xb,kc]
 have zbE:(I.E S).k=kx:=by rw[DC,kc]
 have Ry:I.y.lt kx=true:=gp (by omega) pY
 have Kn:(I.H S).cw:=by
  rw[xb];refine ka ⟨fun i x hx=>gp (Nat.le_succ kx) (sE ey (oX hx)),uH (Nat.le_succ kx) gT,?_⟩ (jM (Nat.lt_succ_self kx))
  show(bX.lt (kx+1) (.rg kx I.y)&&e5 (kx+1) S.g)=true;simp only[bX.lt,gp (Nat.le_succ kx) Ry,jM (Nat.lt_succ_self kx),oQ (show S.k≤kx+1 by omega) ae.g,Bool.and_self]
 have zbF:(I.E S).cw:=by
  rw[DC];exact ka ⟨fun i x hx=>sE ey (oX hx),gT,oQ (show S.k≤kx by omega) ae.g⟩ Ry
 have Rz: ∀ax,bZ S.k e ax→cg (I.y.dyn ax)=Z:=fun ax h=>by rw[sn h pY,DD]
 have Ko: ∀(i:Nat) (v:bM (cj S I.J.ps)),i<Z.toNat→(I.H S).cx (bd (bb.put e kx ⟨.int .i64,(i:Int)⟩) (cj S I.J.ps) v):=fun i v hi=>by
  rw[xb];refine kb fun d hd=>?_
  rcases List.mem_cons.1 hd with rfl|hd
  ·show 0≤cg (Env.at _ kx)∧cg (Env.at _ kx)<cg (I.y.dyn _)
   rw[Km,Rz _ (xc i v)];show 0≤(i:Int)∧(i:Int)<Z;omega
  ·exact ig (xc i v) ae.g eS d hd
 have zbG: ∀(i:Nat) (v:bM (cj S I.J.ps)),(I.E S).cx (bd (bb.put e kx ⟨.int .i64,(i:Int)⟩) (cj S I.J.ps) v):=fun i v=>by
  rw[DC];exact kb (ig (xc i v) ae.g eS)
 have DF: ∀dm:ar,dm=⟨e6 I.b5.l,I.b5.h,I.b5.n,kx,S.g⟩→dm.cw:=fun dm h=>by
  subst h;exact⟨fun i x hx=>sE Kh (oX hx),Ki,oQ (show S.k≤kx by omega) ae.g⟩

 have p1: ∀(v:bM (cj S I.J.ps)) (st:aN),run M p0 e=some (.ext cur,⟨e6 I.b5.l,I.b5.h,I.b5.n,kx,S.g⟩,bd e (cj S I.J.ps) v)→cO st ((ar.mk (e6 I.b5.l) I.b5.h I.b5.n kx S.g).den G N B (bd e (cj S I.J.ps) v))→jg G N B M p0 e S.k (.exit cur) st:=fun v st aa ad=>
  ⟨.ext cur,_,_,aa,rfl,ad,DF _ rfl,ig (sN v) ae.g eS,sN v,(show S.k≤kx by omega)⟩
 refine zbt (n:=Z.toNat) (b:=fun i (v:bM (cj S I.J.ps))=>cP M (t1.lvl+1) cur (cj S I.J.ps) (t1.rel (fu (t1.lvl+1))) (bd (bb.put e kx ⟨.int .i64,(i:Int)⟩) (cj S I.J.ps) v) v) (a0:=b3 _ (dw e (cj S I.J.ps)))
  (hd:=fun i v=>(I.H S).den G N B (bd (bb.put e kx ⟨.int .i64,(i:Int)⟩) (cj S I.J.ps) v)) (I:=Inv) ?_ Kl (fun k v oF cd fG=>?_) (fun v cd fG=>?_)
 ·rw[Kc,xb]
  exact Rp (g':=S.g) aw rp ey gT eS n2 z7 z8 rq DB (bZ.refl _ _) (by rw[fR lp];rfl)
 ·obtain⟨dk,dy⟩:=DE k v oF cd
  have xd:=hf (I.H S) (bd (bb.put e kx ⟨.int .i64,(k:Int)⟩) (cj S I.J.ps) v) Kn (Ko k v oF) (by rw[z6];exact(lN kX).1 dk)
  refine bY.mono xd fun ex st ⟨x,aQ,aA,aa,ad,aq,aS,bC,cC,dB⟩=>?_
  rw[z6]at aa;rw[zbD]at cC dB;obtain⟨m1,m2⟩:=Rv Kg (n3 aa)
  have oP:run M (t1.rel (fu (t1.lvl+1))) (bd (bb.put e kx ⟨.int .i64,(k:Int)⟩) (cj S I.J.ps) v)=some (fu (t1.lvl+1) x,aQ,aA):=by rw[zb kX,aa];rfl
  have lT:cP M (t1.lvl+1) cur (cj S I.J.ps) (t1.rel (fu (t1.lvl+1))) (bd (bb.put e kx ⟨.int .i64,(k:Int)⟩) (cj S I.J.ps) v) v=dY (t1.lvl+1) cur (cj S I.J.ps) (fun x S e=>some (x,S,e)) (fu (t1.lvl+1) x) aQ aA:=by
   unfold cP;rw[oP]
  have u2:bZ S.k e aA:=bZ.trans (xc k v) cC (by omega)
  have out: ∀ex,zG x ex→fu (t1.lvl+1) x=x→x.bH (t1.lvl+1)=false→x.cI cur=false→jg G N B M p0 e S.k ex st:=fun ex ad hm ai hx=>by
   rw[hm,j5 ai hx]at lT
   have:=cU _ (Zk fG oF lT)
   exact⟨x,aQ,aA,this,ad,aq,aS,bC,u2,by omega⟩
  cases x with
  |lh m=>cases ex<;>exact ad.elim
  |ret=>cases ex<;>first|exact ad.elim|exact out _ ad rfl rfl rfl
  |b9=>
   cases ex with
   |normal=>
    have hx:=m1 rfl
    simp only[Dx,Bool.and_eq_true]at hx;rw[nX (x:=fu (t1.lvl+1) .b9) (show bT.bH (t1.lvl+1) (.lh (t1.lvl+1))=true from Nat.beq_refl _)]at lT
    refine⟨_,lT,dy _ (by rw[iD,lT];rfl),aq.trans ?_⟩
    simp only[xb];refine Rp (g':=S.g) aw rp ey gT bC hx.1 z7 z8 rq DB u2 (zbx hx.2 bC ?_ (by omega))
    rw[cC kx (Nat.lt_succ_self kx),Km]
   |_=>exact ad.elim
  |ext m=>
   cases ex with
   |exit Kp=>
    have ad:m=Kp:=ad
    subst ad
    cases hm:Nat.beq m cur with
    |false=>exact out _ rfl rfl rfl hm
    |true=>
     have:=Nat.eq_of_beq_eq_true hm
     subst this;rw[nY (x:=fu (t1.lvl+1) (.ext m)) (show bT.bH (t1.lvl+1) (.ext m)=false from rfl) (show bT.cI m (.ext m)=true from hm)]at lT
     have tQ:=cU _ (Zl fG oF lT)
     refine p1 _ st tQ (aq.trans ?_)
     rw[zY];exact C6 (J:=⟨I.b5.l,I.b5.h,I.b5.n,I.J.ps⟩) aw bC (m2 rfl) (g:=S.g) u2
   |_=>exact ad.elim
 ·cases Kq:t2.w8 cur with
  |none=>rw[Kq]at Aa;cases Aa
  |some dS=>
   rw[Kq]at Aa;simp only[Bool.and_eq_true]at Aa;obtain⟨cQ,dE⟩:=Aa;obtain⟨s1,aW,s2⟩:=Rt (M:=M) (e:=bd (bb.put e kx ⟨.int .i64,(Z.toNat:Int)⟩) (cj S I.J.ps) v) Kq
   have xd:=hf (I.E S) (bd (bb.put e kx ⟨.int .i64,(Z.toNat:Int)⟩) (cj S I.J.ps) v) zbF (zbG _ v) (by rw[Rx];exact s1)
   have o0:(I.E S).den G N B (bd (bb.put e kx ⟨.int .i64,(Z.toNat:Int)⟩) (cj S I.J.ps) v)=(I.H S).den G N B (bd (bb.put e kx ⟨.int .i64,(Z.toNat:Int)⟩) (cj S I.J.ps) v):=by
    rw[DC,xb,fC,fC]
    have aa:I.y.den G (bd (bb.put e kx ⟨.int .i64,(Z.toNat:Int)⟩) (cj S I.J.ps) v)= .au (.v (.int .i64 Z)):=by
     rw[jB Kj,←mo Kj,Rz _ (xc _ v)]
    have ad:(ab.bl (.int .i64) kx).den G (bd (bb.put e kx ⟨.int .i64,(Z.toNat:Int)⟩) (cj S I.J.ps) v)= .au (.v (.int .i64 Z)):=by
     simp only[ab.den,Km,cT,fQ,lK];rw[Int.toNat_of_nonneg zbz]
    rw[aa,ad];rfl
   rw[o0]at xd;refine bY.mono xd fun ex st ⟨x,aQ,aA,aa,ad,aq,aS,bC,cC,dB⟩=>?_
   rw[Rx,s2]at aa;cases aa;rw[zbE]at cC
   cases ex with
   |exit m=>
    have ad:cur=m:=ad
    subst ad;refine p1 v st (cU _ fG) (aq.trans ?_)
    have hle:=C6 (G:=G) (N:=N) (B:=B) (J:=⟨I.b5.l,I.b5.h,I.b5.n,I.J.ps⟩) aw bC cQ (g:=S.g) (bZ.trans (xc _ v) cC (by omega):bZ S.k e aW)
    refine hle.trans ?_
    have cX:bZ kx (fB e (fun r p=>⟨r,(p.c1 dS).get aW r⟩) I.J.ps) (bd e (cj S I.J.ps) v):=fun i hi=>by
     rcases Nat.lt_or_ge i S.k with bB|hY
     ·rw[zA aw i bB,sN v i bB]
     ·obtain⟨r,p,ak⟩:=zby aw hY (by omega)
      rw[Jy aw ak,Ru dE ak]
      have qK:=(QA aw ak).2.2
      have ah:(ab.bl r i).get aW r=(Env.at aW i).as r:=by
       cases r<;>first|(simp only[ab.get,ab.aH,ab.fM,ab.dyn,cT];done)|cases qK
      rw[ah,cC i hi,←zbC Z.toNat v i hi]
      have u3:=Rn (S:=S) (e:=e) (v:=v) aw ak
      generalize Env.at (bd e (cj S I.J.ps) v) i=d at u3⊢;obtain⟨ew,lb⟩:=d;simp only at u3;subst u3;rw[cT]
    have JX:=DF ⟨e6 I.b5.l,I.b5.h,I.b5.n,kx,S.g⟩ rfl
    have zbH:=ll (G:=G) (N:=N) (B:=B) (S:=⟨e6 I.b5.l,I.b5.h,I.b5.n,kx,S.g⟩) cX JX
    rw[zbH];exact cO.refl _
   |_=>exact ad.elim
end
end Go.aM
namespace Go.aM
open Go
def sO(J b5:fY)(aV cur:Nat):List (bT × ar)→Bool
 |[]=>true
 |(.b9,aQ)::r=>je (mv J (Nat.max aQ.n J.n)) aV aQ&&sO J b5 aV cur r
 |(.ext m,aQ)::r=>(match Nat.beq m cur with
  |true=>je b5 aV aQ
  |false=>true)&&sO J b5 aV cur r
 |_::r=>sO J b5 aV cur r
def RA(B cur:Nat)(S:ar)(J b5:fY)(t1:aB):Bool:=
 (hX S.k J.ps&&(ri (S.k+J.ps.length) J.l&&eI (S.k+J.ps.length) J.h))&&((je (mv J (Nat.max S.n J.n)) S.k S&&(u0 J.n J.l&&n1 J.n J.h))&&(Nat.ble B J.n&&(sO J ⟨b5.l,b5.h,b5.n,J.ps⟩ S.k cur t1.ends&&(ri (S.k+J.ps.length) b5.l&&eI (S.k+J.ps.length) b5.h))))
def RB(B cur:Nat)(S:ar)(J b5:fY)(t1:aB):aB:=
 match RA B cur S J b5 t1 with
 |true=>.eH (t1.lvl+1) cur (cj S J.ps) (t1.rel (fu (t1.lvl+1))) (.cu (.ext cur) ⟨e6 b5.l,b5.h,b5.n,S.k+J.ps.length,S.g⟩)
 |false=>.bad (w6 t1.nt 61)
def DG(B:Nat)(f:ar→aB)(cur:Nat)(S:ar)(J b5:fY):aB:=RB B cur S J b5 (f (J.S S.k S.g))
def Ab(cur:Nat):List (bT × ar)→List ar × List ar
 |[]=>([],[])
 |(.b9,S)::r=>match Ab cur r with
  |(a,b)=>(S::a,b)
 |(.ext m,S)::r=>match Ab cur r with
  |(a,b)=>match Nat.beq m cur with
   |true=>(a,S::b)
   |false=>(a,b)
 |_::r=>Ab cur r
def DH(S:ar):Nat→Nat→List (Nat × ab)
 |0,_=>[]
 |n+1,i=>match S.at i with
  | .top=>DH S n (i+1)
  |x=>(i,x)::DH S n (i+1)
def zbI(N aV cur:Nat)(S:ar)(t:aB):fY:=
 match Ab cur t.ends with
 |(a,b)=>mv (zB N aV S (a++b)) S.n
def RD:fw→fw→Bool
 |[],[]=>true
 |(i,r,p)::l,(j,q,u)::m=>(Nat.beq i j&&jx r q)&&(nZ p u&&RD l m)
 |_,_=>false
def Ac{α:Type}:List α→Nat
 |[]=>0
 |_::r=>Nat.succ (Ac r)
def zbJ(J K:fY):Bool:=RD J.ps K.ps&&(Nat.beq (Ac J.l) (Ac K.l)&&Nat.beq (Ac J.h) (Ac K.h))
def Kr(N:Nat)(f:ar→aB)(cur:Nat)(S:ar):Nat→fY→aB→fY × aB
 |0,J,t=>(J,t)
 |n+1,J,t=>match zbI N S.k cur S t with
  |K=>match zbJ J K with
   |true=>(K,t)
   |false=>Kr N f cur S n K (f (K.S S.k S.g))
def Ks(j:Nat):List (Nat × bS)→Option bS
 |[]=>none
 |(i,x)::r=>match Nat.beq i j with
  |true=>some x
  |false=>Ks j r
inductive Kt where
 |c1 (y:ab)
 |ex (x:bS)
 |none
def zbK(aV:Nat)(ds:List (Nat × bS))(y:ab):Kt:=
 match y.lt aV with
 |true=>.c1 y
 |false=>match y with
  | .bl (.int .i64) j=>match Ks j ds with
   |some (.f1 .nU x)=>match x.lt aV with
    |true=>.ex (.f1 .nU x)
    |false=>.none
   |some (.f1 (.iC c) x)=>match x.lt aV with
    |true=>.ex (.f1 (.iC c) x)
    |false=>.none
   |_=>.none
  |_=>.none
def RE(aV cur i:Nat):aB→List (Nat × bS)→Kt
 | .lt j x t,ds=>RE aV cur i t ((j,x)::ds)
 | .it (.bl .bool g) _ b,ds=>match Ks g ds with
  |some (.f2 (.oL .lss .i64) (.bl (.int .i64) yG) y)=>match Nat.beq yG i with
   |true=>match b.w8 cur with
    |some _=>zbK aV ds y
    |none=>.none
   |false=>.none
  |_=>.none
 |_,_=>.none
def RF(i s:Nat):List ar→Bool
 |[]=>true
 |S::r=>Dw i s S&&RF i s r
def zbL(x:ab):Bool:=fD x (.cs (.int .i64 0))
def DI(S:ar)(cur:Nat)(t:aB)(tG:List ar):fw→Option (Nat × Kt)
 |[]=>none
 |(i,.int .i64,.slot s [])::l=>match zbL (S.at s)&&RF i s tG with
  |true=>match RE S.k cur i t []with
   | .none=>DI S cur t tG l
   |b=>some (s,b)
  |false=>DI S cur t tG l
 |_::l=>DI S cur t tG l
def RG(s:Nat):List ar→List ar
 |[]=>[]
 |S::r=>S.put (some s) .top::RG s r
def Ku(N aV:Nat)(S:ar)(s:Nat)(y:ab)(a b:List ar):o1:=
 match mv (zB N aV (S.put (some s) .top) (RG s (a++b))) S.n with
 |J=>⟨J,mv J (C8 S.n b),s,y⟩
def DJ(N:Nat)(f:ar→aB):Nat→ar→aB
 |0,_=>.bad 63
 |n+1,S=>kL N S (f S) (DJ N f n)
def zbM(y:ab):Option Nat:=
 match y with
 | .cs (.int .i64 (.ofNat n))=>match Nat.ble n 16 with
  |true=>some (n+1)
  |false=>none
 |_=>none
def aB.o2:aB→Bool
 | .cu _ _=>false
 | .lt _ _ t=>t.o2
 | .eL _ t=>t.o2
 | .it _ a b=>a.o2||b.o2
 | .dr _ a _ k=>a.o2||k.o2
 | .ec _ _ _ _ _ a k=>a.o2||k.o2
 | .eH _ _ _ a k=>a.o2||k.o2
 | .bad _=>true
def RH(t:aB)(u:Unit→aB):aB:=
 match t.o2 with
 |true=>u ()
 |false=>t
def RI(N B:Nat)(f:ar→aB)(cur:Nat)(S:ar):fY × aB→aB
 |(J,t)=>match Ab cur t.ends with
  |(a,b)=>match DI S cur t a J.ps with
   |some (s,.c1 y)=>match zbM y with
    |some n=>RH (w9 N B f cur S (Ku N S.k S s y a b)) fun _=>DJ N f n S
    |none=>w9 N B f cur S (Ku N S.k S s y a b)
   |some (s,.ex x)=>match gU S.k [x]with
    |true=>emit S.k [x] [] (w9 N B f cur (S.eJ S.k [x]) (Ku N (S.k+1) S s (.bl (.int .i64) S.k) a b))
    |false=>.bad 62
   |_=>DG B f cur S J (mv J (C8 S.n b))
def DK(x:ab):Bool:=fD x (.cs (.slice none 0 0))
def zbN(n i:Nat)(S:ar):Option (TypeId × bO):=
 match S.at i with
 | .aP id=>match Nat.ble n id,dq S.h id with
  |true,some (.rw t c _)=>some (t,c)
  |_,_=>none
 |_=>none
def RJ(n i:Nat):List ar→Option (TypeId × bO)
 |[]=>none
 |S::r=>match zbN n i S with
  |some x=>some x
  |none=>RJ n i r
def DL(S:ar)(a:List ar):Nat→Nat→List (Nat × TypeId × bO)
 |0,_=>[]
 |k+1,i=>match DK (S.at i)with
  |true=>match RJ S.n i a with
   |some (t,c)=>(i,t,c)::DL S a k (i+1)
   |none=>DL S a k (i+1)
  |false=>DL S a k (i+1)
def nu(N B:Nat):List (Nat × TypeId × bO)→ar→ar
 |[],S=>S
 |(i,t,c)::r,S=>match DK (S.at i)&&(Nat.blt i N&&Nat.ble B S.n)with
  |true=>nu N B r ⟨S.l.put i (.aP S.n),(S.n,.rw t c (.cs (.slice none 0 0)))::S.h,S.n+1,S.k,S.g⟩
  |false=>nu N B r S
def rr(N B:Nat)(f:ar→aB)(cur:Nat)(S:ar)(t:aB):aB:=
 RI N B f cur S (Kr N f cur S 6 ⟨DH S N 0,S.h,S.n,[]⟩ t)
def aB.lU:aB→List ar
 | .cu _ S=>[S]
 | .lt _ _ t=>t.lU
 | .eL _ t=>t.lU
 | .it _ a b=>a.lU++b.lU
 | .dr _ a _ k=>a.lU++k.lU
 | .ec _ _ _ _ _ a k=>a.lU++k.lU
 | .eH _ _ _ a k=>a.lU++k.lU
 | .bad _=>[]
def zbO(n id off:Nat)(S:ar):Option (TypeId × bO):=
 match dq S.h id with
 |some (.dc _ l)=>match eN .top l off with
  | .aP k=>match Nat.ble n k,dq S.h k with
   |true,some (.rw t c _)=>some (t,c)
   |_,_=>none
  |_=>none
 |_=>none
def RK(n id off:Nat):List ar→Option (TypeId × bO)
 |[]=>none
 |S::r=>match zbO n id off S with
  |some x=>some x
  |none=>RK n id off r
def DM(S:ar)(a:List ar)(id:Nat):Nat→List ab→List (Nat × Nat × TypeId × bO)
 |_,[]=>[]
 |off,x::r=>match DK x with
  |true=>match RK S.n id off a with
   |some (t,c)=>(id,off,t,c)::DM S a id (off+1) r
   |none=>DM S a id (off+1) r
  |false=>DM S a id (off+1) r
def xe(S:ar)(a:List ar):List (Nat × bE)→List (Nat × Nat × TypeId × bO)
 |[]=>[]
 |(id,.dc _ l)::r=>DM S a id 0 l++xe S a r
 |_::r=>xe S a r
def kd(B:Nat):List (Nat × Nat × TypeId × bO)→ar→ar
 |[],S=>S
 |(id,off,t,c)::r,S=>match dq S.h id with
  |some (.dc bt l)=>match(match l[off]? with|some x=>DK x|none=>false)&&Nat.ble B S.n with
   |true=>kd B r ⟨S.l,kI ((S.n,.rw t c (.cs (.slice none 0 0)))::S.h) id (.dc bt (l.set off (.aP S.n))),S.n+1,S.k,S.g⟩
   |false=>kd B r S
  |_=>kd B r S
def RL(N B:Nat)(f:ar→aB)(cur:Nat)(S:ar)(t:aB):aB:=
 match DL S t.lU N 0 with
 |[]=>match xe S t.lU S.h with
  |[]=>rr N B f cur S t
  |q::qs=>rr N B f cur (kd B (q::qs) S) (f (kd B (q::qs) S))
 |p::r=>rr N B f cur (kd B (xe S t.lU S.h) (nu N B (p::r) S)) (f (kd B (xe S t.lU S.h) (nu N B (p::r) S)))
def Kv(N B:Nat)(f:ar→aB)(cur:Nat)(S:ar):aB:=RL N B f cur S (f S)
section
variable {P:Program} {G:a7} {N B:Nat} {M:List a1}
theorem RM{J b5:fY}{aV cur:Nat}: ∀{l:List (bT × ar)},sO J b5 aV cur l=true→∀{x:bT} {aQ:ar},(x,aQ)∈l→(x= .b9→je (mv J (Nat.max aQ.n J.n)) aV aQ=true)∧(x= .ext cur→je b5 aV aQ=true)
 |(y,dS)::r,h,x,aQ,hm=>by
  have aX:sO J b5 aV cur r=true∧(y= .b9→je (mv J (Nat.max dS.n J.n)) aV dS=true)∧(y= .ext cur→je b5 aV dS=true):=by
   cases y with
   |b9=>
    simp only[sO,Bool.and_eq_true]at h;exact⟨h.2,fun _=>h.1,fun e=>(by cases e)⟩
   |ext m=>
    simp only[sO,Bool.and_eq_true]at h;refine⟨h.2,fun e=>(by cases e),fun e=>?_⟩
    cases e
    have aa:=h.1
    rw[Nat.beq_refl]at aa;exact aa
   |ret=>exact⟨h,fun e=>(by cases e),fun e=>(by cases e)⟩
   |lh m=>exact⟨h,fun e=>(by cases e),fun e=>(by cases e)⟩
  rcases List.mem_cons.1 hm with q|q
  ·cases q;exact aX.2
  ·exact RM aX.1 q
theorem zbP{c:Code}{R A:Type}{n:Nat}{b:A→Step R A}{a0:A}{hd:A→aN}{Q:Exit→aN→Prop}{df:aN}{I:A→Prop}
    (aU:cO df (hd a0))(hi:I a0)(he:j0 b n a0)
    (af: ∀a,I a→(∀r,b a= .ret r→b4 b n a0= .inl r)→(∀v,b a= .b8 v→b4 b n a0= .inr v)→bY P G c (fun e st=>match e with
      | .normal=>∃aY,b a= .bn aY∧I aY∧cO st (hd aY)
      |e=>Q e st) (hd a)):bY P G (.loop c) Q df:=by
  refine bY.loop (ι:=Nat × A) (fun x=>hd x.2) (fun x=>(b4 b n a0=b4 b x.1 x.2∧j0 b x.1 x.2)∧I x.2) (fun x=>x.1) (n,a0) aU ⟨⟨rfl,he⟩,hi⟩ ?_
  rintro⟨k,a⟩ ⟨fG,cd⟩
  refine bY.mono (af a cd (fun r ae=>Zq fG ae) (fun v ae=>Zr fG ae)) fun e st ag=>?_
  cases e with
  |normal=>
    obtain⟨aY,aa,aq,ad⟩:=ag;obtain⟨m,aS,bC⟩:=Zp fG aa;exact⟨(m,aY),⟨bC,aq⟩,by show m<k;omega,ad⟩
  |_=>exact ag
theorem RN{J:fY}{aV kx:Nat}{S0 aQ:ar}{e aA:Env}{k:Nat}{g g':List bX}(ak:hX aV J.ps=true)(ow: ∀c∈aQ.g,c.ok aA)(h:je (mv J (Nat.max aQ.n J.n)) aV aQ=true)(iz:u0 J.n J.l=true)(pE:n1 J.n J.h=true)(gb:B≤J.n)(bG:bZ aV e aA):
 cO (aQ.den G N B aA) ((ar.mk (e6 J.l) J.h J.n k g).den G N B (bd e (cj S0 J.ps) (b3 _ (fh aQ aA (cj S0 J.ps))))):=by
 have aa:=Jz (G:=G) (N:=N) (B:=B) (J:=mv J (Nat.max aQ.n J.n)) ak ow h (g:=g') bG
 refine aa.le.trans ?_
 rw[zY]
 refine cO.low (m:=Nat.max aQ.n J.n) ?_ ?_ gb
 ·exact Kd (n:=J.n) (l:=e6 J.l) (fun i x hx=>Ke iz (oX hx)) N 0
 ·exact wZ pE
theorem zbQ{c:Code}{f:ar→aB}(hf:kN P G N B M c f){cur:Nat}{S:ar}{J b5:fY}{e:Env}(ae:S.cw)(eS:S.cx e)(ag:(DG B f cur S J b5).safe M e):bY P G (.loop c) (jg G N B M (DG B f cur S J b5) e S.k) (S.den G N B e):=by
 unfold DG RB at ag⊢
 split at ag
 rotate_left
 ·exact ag.elim
 rename_i sM
 generalize z6:f (J.S S.k S.g)=t1 at ag sM⊢
 simp only[RA,Bool.and_eq_true]at sM
 obtain⟨⟨aw,ey,gT⟩,⟨n2,z7,z8⟩,rq,Kg,Kh,Ki⟩:=sM
 have rq:=Nat.le_of_ble_eq_true rq
 have Kk:t1.lvl<t1.lvl+1:=Nat.lt_succ_self _
 have kX:=Ir Kk
 obtain⟨⟨Inv,Kl,DE⟩,zbR,aj⟩:=ag
 generalize rp:S.k+J.ps.length=kx at*
 have hle:S.k≤kx:=by rw[←rp];exact Nat.le_add_right _ _
 have cU: ∀L,b4 (fun(v:bM (cj S J.ps))=>cP M (t1.lvl+1) cur (cj S J.ps) (t1.rel (fu (t1.lvl+1))) (bd e (cj S J.ps) v) v) cn (b3 _ (dw e (cj S J.ps)))=L→
  run M (aB.eH (t1.lvl+1) cur (cj S J.ps) (t1.rel (fu (t1.lvl+1))) (.cu (.ext cur) ⟨e6 b5.l,b5.h,b5.n,kx,S.g⟩)) e=Sum.elim (fun r=>r) (fun v=>some (.ext cur,⟨e6 b5.l,b5.h,b5.n,kx,S.g⟩,bd e (cj S J.ps) v)) L:=fun L fG=>by
  rw[CY,fG];rfl
 have zbS:j0 (fun(v:bM (cj S J.ps))=>cP M (t1.lvl+1) cur (cj S J.ps) (t1.rel (fu (t1.lvl+1))) (bd e (cj S J.ps) v) v) cn (b3 _ (dw e (cj S J.ps))):=
  (Ip (fun _=>()) (fun v=>iD _ _ _ _ _ v) _ _).1 zbR
 generalize zbB:aB.eH (t1.lvl+1) cur (cj S J.ps) (t1.rel (fu (t1.lvl+1))) (.cu (.ext cur) ⟨e6 b5.l,b5.h,b5.n,kx,S.g⟩)=p0 at cU
 have sN: ∀(v:bM (cj S J.ps)),bZ S.k e (bd e (cj S J.ps) v):=fun v j ai=>xa aw (.inl ai)
 have Kn:(J.S S.k S.g).cw:=⟨fun i x hx=>by show x.lt (S.k+J.ps.length)=true;rw[rp];exact sE ey (oX hx),by show eI (S.k+J.ps.length) J.h=true;rw[rp];exact gT,by show e5 (S.k+J.ps.length) S.g=true;rw[rp];exact oQ hle ae.g⟩
 have Ko: ∀(v:bM (cj S J.ps)),(J.S S.k S.g).cx (bd e (cj S J.ps) v):=fun v=>ig (sN v) ae.g eS
 have DF: ∀dm:ar,dm=⟨e6 b5.l,b5.h,b5.n,kx,S.g⟩→dm.cw:=fun dm h=>by
  subst h;exact⟨fun i x hx=>sE Kh (oX hx),Ki,oQ hle ae.g⟩
 refine zbP (n:=cn) (b:=fun(v:bM (cj S J.ps))=>cP M (t1.lvl+1) cur (cj S J.ps) (t1.rel (fu (t1.lvl+1))) (bd e (cj S J.ps) v) v) (a0:=b3 _ (dw e (cj S J.ps)))
  (hd:=fun v=>(J.S S.k S.g).den G N B (bd e (cj S J.ps) v)) (I:=Inv) ?_ Kl zbS (fun v cd zbT zbU=>?_)
 ·rw[Kc]
  exact RN (kx:=kx) (g':=S.g) aw eS n2 z7 z8 rq (bZ.refl _ _)
 ·obtain⟨dk,dy⟩:=DE v cd
  have xd:=hf (J.S S.k S.g) (bd e (cj S J.ps) v) Kn (Ko v) (by rw[z6];exact(lN kX).1 dk)
  refine bY.mono xd fun ex st ⟨x,aQ,aA,aa,ad,aq,aS,bC,cC,dB⟩=>?_
  rw[z6]at aa
  have zbV:(J.S S.k S.g).k=kx:=rp
  rw[zbV]at cC dB;obtain⟨m1,m2⟩:=RM Kg (n3 aa)
  have oP:run M (t1.rel (fu (t1.lvl+1))) (bd e (cj S J.ps) v)=some (fu (t1.lvl+1) x,aQ,aA):=by rw[zb kX,aa];rfl
  have lT:cP M (t1.lvl+1) cur (cj S J.ps) (t1.rel (fu (t1.lvl+1))) (bd e (cj S J.ps) v) v=dY (t1.lvl+1) cur (cj S J.ps) (fun x S e=>some (x,S,e)) (fu (t1.lvl+1) x) aQ aA:=by
   unfold cP;rw[oP]
  have u2:bZ S.k e aA:=bZ.trans (sN v) cC hle
  have out: ∀ex,zG x ex→fu (t1.lvl+1) x=x→x.bH (t1.lvl+1)=false→x.cI cur=false→jg G N B M p0 e S.k ex st:=fun ex ad hm ai hx=>by
   rw[hm,j5 ai hx]at lT;exact⟨x,aQ,aA,cU _ (zbT _ lT),ad,aq,aS,bC,u2,Nat.le_trans hle dB⟩
  cases x with
  |lh m=>cases ex<;>exact ad.elim
  |ret=>cases ex<;>first|exact ad.elim|exact out _ ad rfl rfl rfl
  |b9=>
   cases ex with
   |normal=>
    rw[nX (x:=fu (t1.lvl+1) .b9) (show bT.bH (t1.lvl+1) (.lh (t1.lvl+1))=true from Nat.beq_refl _)]at lT
    exact⟨_,lT,dy _ (by rw[iD,lT];rfl),aq.trans (RN (kx:=kx) (g':=S.g) aw bC (m1 rfl) z7 z8 rq u2)⟩
   |_=>exact ad.elim
  |ext m=>
   cases ex with
   |exit Kp=>
    have ad:m=Kp:=ad
    subst ad
    cases hm:Nat.beq m cur with
    |false=>exact out _ rfl rfl rfl hm
    |true=>
     have:=Nat.eq_of_beq_eq_true hm
     subst this;rw[nY (x:=fu (t1.lvl+1) (.ext m)) (show bT.bH (t1.lvl+1) (.ext m)=false from rfl) (show bT.cI m (.ext m)=true from hm)]at lT
     refine⟨.ext m,_,_,cU _ (zbU _ lT),rfl,aq.trans ?_,DF _ rfl,ig (sN _) ae.g eS,sN _,hle⟩
     rw[zY];exact C6 (J:=⟨b5.l,b5.h,b5.n,J.ps⟩) aw bC (m2 rfl) (g:=S.g) u2
   |_=>exact ad.elim
theorem RO{c:Code}{f:ar→aB}(hf:kN P G N B M c f){Q:Exit→aN→Prop}: ∀(n:Nat) {S:ar} {e:Env},S.cw→S.cx e→(DJ N f n S).safe M e→(∀ex st,jg G N B M (DJ N f n S) e S.k ex st→Q ex st)→v8 P G c Q n (S.den G N B e)
 |0,_,_,_,_,ag,_=>ag.elim
 |n+1,S,e,ae,eS,ag,ei=>by
  obtain⟨t1,t2,t3⟩:=Da (G:=G) (B:=B) ae eS ag;refine v8.rd n (bY.mono (hf S e ae eS t1) fun ex st ak=>?_)
  obtain⟨x,dm,ax,aa,ad,aq,aS,bC,cC,dB⟩:=ak
  have other:x≠ .b9→Q ex st:=fun cb=>ei ex st ⟨x,dm,ax,t2 x dm ax aa cb (QX ad),ad,aq,aS,bC,cC,dB⟩
  cases x with
  |b9=>
   cases ex with
   |normal=>
    obtain⟨dS,aW,s1,s2,hh,ko,kp,kq,kV⟩:=t3 dm ax aa aS bC cC dB
    have:=RO hf n s2 hh kq (Q:=Q) fun ex st ak=>ei ex st (ak.sub kV ko kp)
    exact fun E a w af=>this E a w (s1 E G a w (aq E G a w af))
   |_=>exact ad.elim
  |ret=>cases ex<;>first|exact ad.elim|exact other (by simp)
  |ext n=>cases ex<;>first|exact ad.elim|exact other (by simp)
  |lh n=>cases ex<;>exact ad.elim
theorem Kw{c:Code}{Q:Exit→aN→Prop}{e:Env}: ∀(l:List (Nat × TypeId × bO)) {S:ar},S.cw→S.cx e→(nu N B l S).cw∧(nu N B l S).cx e∧(nu N B l S).k=S.k∧(bY P G c Q ((nu N B l S).den G N B e)→bY P G c Q (S.den G N B e))
 |[],_,ae,hf=>⟨ae,hf,rfl,fun h=>h⟩
 |(i,t,d)::r,S,ae,hf=>by
  unfold nu
  split
  ·rename_i hc
   simp only[Bool.and_eq_true]at hc;obtain⟨aw,ey,gT⟩:=hc
   have hp:(⟨S.l.put i (.aP S.n),(S.n,.rw t d (.cs (.slice none 0 0)))::S.h,S.n+1,S.k,S.g⟩:ar).cw:=by
    refine⟨fun j x hx=>?_,?_,ae.g⟩
    ·simp only[bb.j1]at hx
     split at hx
     ·cases hx;rfl
     ·exact ae.l j x hx
    ·show(bE.lt S.k (.rw t d (.cs (.slice none 0 0)))&&eI S.k S.h)=true
     rw[ae.h];rfl
   obtain⟨aa,ad,aq,aS⟩:=Kw r hp hf;refine⟨aa,ad,aq,fun h=>?_⟩
   refine bY.H6 i t (c8 d) ?_ (by rw[uF,if_pos (e2 ey),fR aw];rfl) gT
   have:=aS h
   have hd:(⟨S.l.put i (.aP S.n),(S.n,.rw t d (.cs (.slice none 0 0)))::S.h,S.n+1,S.k,S.g⟩:ar).den G N B e={S.den G N B e with cE:=(S.den G N B e).cE.set i (.aP (S.den G N B e).next),heap:=((S.den G N B e).next,.row false t (c8 d) [])::(S.den G N B e).heap,next:=(S.den G N B e).next+1}:=by
    simp only[ar.den,Iy,cM,ab.den,bE.den,ab.aH,ab.fM,cT];rfl
   rw[hd]at this;exact this
  ·exact Kw r ae hf
theorem Ad{c:Code}{Q:Exit→aN→Prop}{e:Env}: ∀(l:List (Nat × Nat × TypeId × bO)) {S:ar},S.cw→S.cx e→(kd B l S).cw∧(kd B l S).cx e∧(kd B l S).k=S.k∧(bY P G c Q ((kd B l S).den G N B e)→bY P G c Q (S.den G N B e))
 |[],_,ae,hf=>⟨ae,hf,rfl,fun h=>h⟩
 |(id,off,t,d)::r,S,ae,hf=>by
  unfold kd
  split
  ·rename_i bt l ah
   split
   ·rename_i hc
    simp only[Bool.and_eq_true]at hc;obtain⟨aw,gT⟩:=hc
    have ao:=Dj ae.h ah
    have hp:(⟨S.l,kI ((S.n,.rw t d (.cs (.slice none 0 0)))::S.h) id (.dc bt (l.set off (.aP S.n))),S.n+1,S.k,S.g⟩:ar).cw:=by
     refine⟨ae.l,Di (o:=.dc bt (l.set off (.aP S.n))) (JR (x:=.aP S.n) rfl ao) ?_,ae.g⟩
     show(bE.lt S.k (.rw t d (.cs (.slice none 0 0)))&&eI S.k S.h)=true;rw[ae.h];rfl
    obtain⟨aa,ad,aq,aS⟩:=Ad r hp hf;refine⟨aa,ad,aq,fun h=>?_⟩
    have:=aS h
    have hid:aF (S.den G N B e).heap id=some (.box bt (ab.bR G e l)):=by simp only[ar.den,eR,ah,Option.map_some,bE.den]
    have aj:(ab.bR G e l)[off]? =some (.au (.v (.slice none 0 0))):=by
     rw[eG,List.getElem?_map]
     cases hx:l[off]? with
     |none=>rw[hx]at aw;cases aw
     |some x=>
      rw[hx]at aw
      have:=fR aw
      subst this;rfl
    refine bY.le (cO.Zw (s:=S.den G N B e) id off t (c8 d) hid aj (Nat.le_of_ble_eq_true gT) rfl) ?_
    have hd:(⟨S.l,kI ((S.n,.rw t d (.cs (.slice none 0 0)))::S.h) id (.dc bt (l.set off (.aP S.n))),S.n+1,S.k,S.g⟩:ar).den G N B e={S.den G N B e with heap:=e3 (((S.den G N B e).next,.row false t (c8 d) [])::(S.den G N B e).heap) id (.box bt ((ab.bR G e l).set off (.aP (S.den G N B e).next))),next:=(S.den G N B e).next+1}:=by
     simp only[ar.den,uG,cM,bE.den,JS,ab.den,ab.aH,ab.fM,cT];rfl
    rw[hd]at this;exact this
   ·exact Ad r ae hf
  ·exact Ad r ae hf
theorem Kx{c:Code}{f:ar→aB}{cur:Nat}{S:ar}{e:Env}{t:aB}(hf:kN P G N B M c f)(ae:S.cw)(eS:S.cx e)(ag:(rr N B f cur S t).safe M e):bY P G (.loop c) (jg G N B M (rr N B f cur S t) e S.k) (S.den G N B e):=by
 unfold rr at ag⊢
 generalize Kr N f cur S 6 ⟨DH S N 0,S.h,S.n,[]⟩ t=zbW at ag⊢
 obtain⟨J,t⟩:=zbW
 simp only[RI]at ag⊢
 split at ag
 ·split at ag
  ·unfold RH at ag⊢
   split at ag
   ·exact bY.rounds _ (RO hf _ ae eS ag fun _ _ h=>h)
   ·exact Kf hf ae eS ag
  ·exact Kf hf ae eS ag
 ·rename_i s x _
  split at ag
  ·rename_i hx
   obtain⟨_,e0⟩:=mr ag;obtain⟨bD,a2,a3⟩:=rm (M:=M) (G:=G) (N:=N) (B:=B) ae eS hx
   have:=Kf hf bD a2 e0
   rw[a3]at this;exact bY.mono this fun ex st ak=>ak.sub (by rw[lQ]) (jD (Nat.le_refl _)) (Nat.le_add_right _ _)
  ·exact ag.elim
 ·exact zbQ hf ae eS ag
theorem zbX:J4 P G N B M (Kv N B):=by
 intro c f cur hf S e ae eS ag
 unfold Kv RL at ag⊢
 generalize f S=t at ag⊢
 split at ag
 ·split at ag
  ·exact Kx hf ae eS ag
  ·rename_i q qs _
   obtain⟨aa,ad,aq,aS⟩:=Ad (P:=P) (G:=G) (N:=N) (B:=B) (c:=.loop c) (Q:=jg G N B M (rr N B f cur (kd B (q::qs) S) (f (kd B (q::qs) S))) e S.k) (e:=e) (q::qs) ae eS;refine aS ?_
   have:=Kx hf aa ad ag
   rw[aq]at this;exact this
 ·rename_i p r _
  generalize xe S t.lU S.h=cz at ag⊢;obtain⟨g1,g2,g3,g4⟩:=Kw (P:=P) (G:=G) (N:=N) (B:=B) (c:=.loop c) (Q:=jg G N B M (rr N B f cur (kd B cz (nu N B (p::r) S)) (f (kd B cz (nu N B (p::r) S)))) e S.k) (e:=e) (p::r) ae eS;obtain⟨aa,ad,aq,aS⟩:=Ad (P:=P) (G:=G) (N:=N) (B:=B) (c:=.loop c) (Q:=jg G N B M (rr N B f cur (kd B cz (nu N B (p::r) S)) (f (kd B cz (nu N B (p::r) S)))) e S.k) (e:=e) cz g1 g2;refine g4 (aS ?_)
  have:=Kx hf aa ad ag
  rw[aq,g3]at this;exact this
end
end Go.aM
namespace Go.aM
open Go
def Ky(ops:Array Oper)(m:List Bool)(i:Nat)(D:List Nat)(j:Nat):Bool:=
 !(m.toArray.getD j true)&&(!(Nat.beq j i)&&match ops[j]? with
  |some o=>o.after.any fun e=>Region.binds .any e&&(e.on==i||D.contains e.on)
  |none=>false)
def DN(ops:Array Oper)(m:List Bool)(i:Nat):List Nat→List Nat→List Nat
 |[],D=>D
 |j::r,D=>match Ky ops m i D j with
  |true=>DN ops m i r (j::D)
  |false=>DN ops m i r D
def DO(ops:Array Oper)(wr:List Bool)(m:List Bool)(i:Nat):Bool:=
 match DN ops m i (List.range ops.size) []with
 |D=>!(wr.getD i false)&&(D.all (Ky ops m i D)&&(List.range ops.size).all fun j=>!(wr.getD j false)||(m.toArray.getD j true||D.contains j))
section
variable {P:Program} {ops:Array Oper} {Q:Exit→Act→World→Prop} {S:World→Prop} {wr:Nat→Bool}
theorem zbY{i:Nat}{oi:Oper}{v:Value}(hi:ops[i]? =some oi)(si:wr i=false)(lf: ∀(j:Nat) (o:Oper) cs b,ops[j]? =some o→o.op≠ .select cs b)
 (ei: ∀c a w,Q (.panic c) (a.put oi.dst v) w→Q (.panic c) a w)(D:Nat→Prop):
 ∀(fuel:Nat) (listed:Array Bool) (a:Act) (w:World),
  (∀j eQ,ops[j]? =some eQ→j≠i→listed.getD j true=false→(∀e∈eQ.after,Region.binds .any e=true→e.on≠i)→oi.apart ops eQ=true)→
  (∀j eQ,ops[j]? =some eQ→wr j=true→listed.getD j true=false→D j)→
  (∀j,D j→listed.getD j true=false∧j≠i∧∃eQ,ops[j]? =some eQ∧∃e∈eQ.after,Region.binds .any e=true∧(e.on=i∨D e.on))→
  i∈Region.ready .any ops listed→YieldsIf P ops S oi v a→S w→
  ld P ops Q S wr fuel (listed.setIfInBounds i true) (a.put oi.dst v) w→ld P ops Q S wr (fuel+1) listed a w:=by
 intro fuel
 induction fuel with
 |zero=>
  intro listed a w _ _ _ af az hS H;refine⟨fun h=>(by rw[h]at af;cases af),fun j ai=>?_⟩
  by_cases gI:j=i
  ·subst gI;exact az.wpOp hi hS (.inr ⟨si,hS,H⟩)
  ·have:=ready_mono ai gI
   rw[H.1]at this
   cases this
 |succ fuel aR=>
  intro listed a w sj y0 l9 af az hS H;refine⟨fun h=>(by rw[h]at af;cases af),fun j ai=>?_⟩
  by_cases gI:j=i
  ·subst gI;exact az.wpOp hi hS (.inr ⟨si,hS,H⟩)
  ·have aa:=H.2 j (ready_mono ai gI)
   obtain⟨pJ,eQ,ib,dU⟩:=mem_ready.1 ai
   have un: ∀k,listed.getD k true=false→∀e∈eQ.after,Region.binds .any e=true→e.on≠k:=fun k aj e he ae heq=>by
    have aa:=dU e he ae
    rw[heq]at aa
    rcases Nat.lt_or_ge k listed.size with h'|h'
    ·simp[h']at aj aa;rw[aj]at aa;cases aa
    ·simp[Array.getElem?_eq_none h']at aa
   have uz: ∀e∈eQ.after,Region.binds .any e=true→e.on≠i:=un i (mem_ready.1 af).1
   have RP: ¬D j:=fun hd=>by
    obtain⟨_,_,zdT,RQ,e,he,ae,aX⟩:=l9 j hd;rw[ib]at RQ
    cases RQ
    rcases aX with aX|aX
    ·exact uz e he ae aX
    ·exact un e.on (l9 _ aX).1 e he ae rfl
   have uA:wr j=false:=by
    cases hw:wr j with
    |false=>rfl
    |true=>exact absurd (y0 j eQ ib hw pJ) RP
   have aa:=wpOp_mono (K':=fun aY w'=>S w'∧ld P ops Q S wr fuel ((listed.setIfInBounds i true).setIfInBounds j true) aY w') (fun aY w' h'=>by
    rcases h' with⟨h',_⟩|⟨_,h'⟩
    ·rw[uA]at h';cases h'
    ·exact h') aa
   have ad:=wpOp_putIf ib (sj j eQ ib gI pJ uz) (fun cs b=>lf i oi cs b hi) (fun cs b=>lf j eQ cs b ib) ei az aa
   have low: ∀k,(listed.setIfInBounds j true).getD k true=false→listed.getD k true=false:=fun k hy=>by
    by_cases pK:j=k
    ·subst pK;exact pJ
    ·rw[getD_set_ne true pK]at hy;exact hy
   have we: ∀k ok,ops[k]? =some ok→k≠i→(listed.setIfInBounds j true).getD k true=false→
    (∀e∈ok.after,Region.binds .any e=true→e.on≠i)→oi.apart ops ok=true:=fun k ok aj bo hy hr=>sj k ok aj bo (low k hy) hr
   have zbZ: ∀k,D k→(listed.setIfInBounds j true).getD k true=false∧k≠i∧∃ok,ops[k]? =some ok∧∃e∈ok.after,Region.binds .any e=true∧(e.on=i∨D e.on):=fun k aj=>by
    obtain⟨g1,g2⟩:=l9 k aj;refine⟨?_,g2⟩
    have pK:j≠k:=fun aX=>RP (by rw[aX];exact aj)
    rw[getD_set_ne true pK];exact g1
   refine wpOp_mono (fun aY w' aq=>.inr ⟨uA,aq.2.1,aR (listed.setIfInBounds j true) aY w' we (fun k ok aj hw hy=>y0 k ok aj hw (low k hy)) zbZ (ready_mono af (Ne.symm gI)) aq.1 aq.2.1 ?_⟩) ad
   rw[Array.setIfInBounds_comm _ _ gI];exact aq.2.2
theorem zb0{i:Nat}{oi:Oper}{v:Value}(hi:ops[i]? =some oi)(si:wr i=false)(lf: ∀(j:Nat) (o:Oper) cs b,ops[j]? =some o→o.op≠ .select cs b)
 (ei: ∀c a w,Q (.panic c) (a.put oi.dst v) w→Q (.panic c) a w):
 ∀(fuel:Nat) (listed:Array Bool) (a:Act) (w:World),
  (∀j eQ,ops[j]? =some eQ→j≠i→listed.getD j true=false→(∀e∈eQ.after,Region.binds .any e=true→e.on≠i)→oi.apart ops eQ=true)→
  i∈Region.ready .any ops listed→Yields P ops oi v a→S w→
  ld P ops Q S wr fuel (listed.setIfInBounds i true) (a.put oi.dst v) w→ld P ops Q S wr (fuel+1) listed a w:=by
 intro fuel
 induction fuel with
 |zero=>
  intro listed a w _ af az hS H;refine⟨fun h=>(by rw[h]at af;cases af),fun j ai=>?_⟩
  by_cases gI:j=i
  ·subst gI;exact az.yieldsIf.wpOp hi hS (.inr ⟨si,hS,H⟩)
  ·have:=ready_mono ai gI
   rw[H.1]at this
   cases this
 |succ fuel aR=>
  intro listed a w sj af az hS H;refine⟨fun h=>(by rw[h]at af;cases af),fun j ai=>?_⟩
  by_cases gI:j=i
  ·subst gI;exact az.yieldsIf.wpOp hi hS (.inr ⟨si,hS,H⟩)
  ·have aa:=H.2 j (ready_mono ai gI)
   obtain⟨pJ,eQ,ib,dU⟩:=mem_ready.1 ai
   have uz: ∀e∈eQ.after,Region.binds .any e=true→e.on≠i:=fun e he ae heq=>by
    have aa:=dU e he ae
    have aU:=(mem_ready.1 af).1
    rw[heq]at aa
    rcases Nat.lt_or_ge i listed.size with h'|h'
    ·simp[h']at aU aa;rw[aU]at aa;cases aa
    ·simp[Array.getElem?_eq_none h']at aa
   have ad:=wpOp_put ib (sj j eQ ib gI pJ uz) (fun cs b=>lf i oi cs b hi) (fun cs b=>lf j eQ cs b ib) ei az aa
   have low: ∀k,(listed.setIfInBounds j true).getD k true=false→listed.getD k true=false:=fun k hy=>by
    by_cases pK:j=k
    ·subst pK;exact pJ
    ·rw[getD_set_ne true pK]at hy;exact hy
   have we: ∀k ok,ops[k]? =some ok→k≠i→(listed.setIfInBounds j true).getD k true=false→
    (∀e∈ok.after,Region.binds .any e=true→e.on≠i)→oi.apart ops ok=true:=fun k ok aj bo hy hr=>sj k ok aj bo (low k hy) hr
   refine wpOp_mono (fun aY w' ⟨mn,aq⟩=>?_) ad
   rcases aq with⟨hw,aq⟩|⟨hw,RR,aq⟩
   ·refine .inl ⟨hw,wpAny_first hi lf ei fuel _ aY w' we (ready_mono af (Ne.symm gI)) mn ?_⟩
    rw[Array.setIfInBounds_comm _ _ gI];exact aq
   ·refine .inr ⟨hw,RR,aR (listed.setIfInBounds j true) aY w' we (ready_mono af (Ne.symm gI)) mn RR ?_⟩
    rw[Array.setIfInBounds_comm _ _ gI];exact aq
end
section
variable {P:Program} {G:a7} {Q:Exit→aN→Prop} {L:List Oper} {wr:List Bool}
theorem fp.zb1{fuel:Nat}{m:List Bool}{s bm:aN}(i:Nat){o:Oper}(an:L[i]? =some o)(ak:jw P G L.toArray o s bm)(k:fp P G L Q wr fuel (m.set i true) bm)(ag:Region.noSelect L.toArray=true)
 (hf:Region.free .any L.toArray m.toArray i=true)(af:(Region.ready .any L.toArray m.toArray).contains i=true)(hw:DO L.toArray wr m i=true):fp P G L Q wr (fuel+1) m s:=by
 intro E a w dp
 obtain⟨v,av,qU⟩:=ak E a w dp
 unfold DO at hw
 simp only at hw
 generalize l9:DN L.toArray m i (List.range L.toArray.size) []=D at hw
 simp only[Bool.and_eq_true]at hw
 obtain⟨aa,ad,aq⟩:=hw
 refine zbY (i:=i) (oi:=o) (v:=v) (by simpa using an) (by simpa using aa) (Region.noSelect_spec ag) (fun c a w aL=>?_) (fun j=>D.contains j=true) fuel m.toArray a w (Region.free_spec (by simpa using an) hf) (fun j eQ ib uA hy=>?_) (fun j ai=>?_) (by simpa using af) av (fP.refl w) (by simpa using k E _ w qU)
 ·obtain⟨_,⟨h,_⟩,_⟩:=aL
  cases h
 ·have:=List.all_eq_true.1 aq j (List.mem_range.2 (Array.getElem?_eq_some_iff.1 ib).1)
  rw[uA,hy]at this;simpa using this
 ·have hm:j∈D:=by simpa using ai
  have:=List.all_eq_true.1 ad j hm
  unfold Ky at this;simp only[Bool.and_eq_true,Bool.not_eq_true']at this;obtain⟨g1,g2,g3⟩:=this;refine⟨g1,fun aX=>(by rw[aX,Nat.beq_refl]at g2;cases g2),?_⟩
  cases ib:L.toArray[j]? with
  |none=>rw[ib]at g3;cases g3
  |some eQ=>
   rw[ib]at g3;obtain⟨e,he,ae⟩:=Array.any_eq_true'.1 g3;simp only[Bool.and_eq_true,Bool.or_eq_true,beq_iff_eq]at ae;exact⟨eQ,rfl,e,he,ae⟩
theorem fp.zb2{fuel:Nat}{m:List Bool}{s bm:aN}(i:Nat){o:Oper}(an:L[i]? =some o)(ak:gS P G L.toArray o s bm)(k:fp P G L Q wr fuel (m.set i true) bm)(ag:Region.noSelect L.toArray=true)
 (hf:Region.free .any L.toArray m.toArray i=true)(af:(Region.ready .any L.toArray m.toArray).contains i=true)(hw:wr.getD i false=false):fp P G L Q wr (fuel+1) m s:=by
 intro E a w dp
 obtain⟨v,av,qU⟩:=ak E a w dp
 refine zb0 (i:=i) (oi:=o) (v:=v) (by simpa using an) hw (Region.noSelect_spec ag) (fun c a w aL=>?_) fuel m.toArray a w (Region.free_spec (by simpa using an) hf) (by simpa using af) av (fP.refl w) (by simpa using k E _ w qU)
 obtain⟨_,⟨h,_⟩,_⟩:=aL
 cases h
theorem fp.any{fuel:Nat}{m:List Bool}{s:aN}(cb:Region.ready .any L.toArray m.toArray≠[])(h: ∀i∈Region.ready .any L.toArray m.toArray,∃o,L[i]? =some o∧∃A:aN→Prop,(∀t,A t→fp P G L Q wr fuel (m.set i true) t)∧
      ∀E a w,Rel E G s a w→(Region.wanted o (yielded L.toArray a.tmps)=true∧∀(K:Act→World→Prop) (Q:Exit→Act→World→Prop),(∀t,A t→∀aY w',Rel E G t aY w'→(wr.getD i false=true∨fP w w')→K aY w')→o.wp P a w K Q)∨(wr.getD i false=false∧Region.wanted o (yielded L.toArray a.tmps)=false∧∃t,A t∧Rel E G t (a.put o.dst undef) w)):fp P G L Q wr (fuel+1) m s:=by
  intro E a w af;refine⟨fun hn=>absurd hn cb,fun j ai=>?_⟩
  obtain⟨o,an,A,k,ag⟩:=h j ai
  have e3:m.toArray.setIfInBounds j true=(m.set j true).toArray:=by simp
  have next: ∀t,A t→∀aY w',Rel E G t aY w'→(wr.getD j false=true∨fP w w')→(wr.getD j false=true∧wpAny P .any L.toArray (lift E G (nT Q)) fuel (m.toArray.setIfInBounds j true) aY w')∨(wr.getD j false=false∧fP w w'∧ld P L.toArray (lift E G (nT Q)) (fP w) (fun i=>wr.getD i false) fuel (m.toArray.setIfInBounds j true) aY w'):=fun t aG aY w' dW aj=>by
    rw[e3]
    cases hw:wr.getD j false with
    |true=>exact .inl ⟨rfl,(k t aG).cS E aY w' dW⟩
    |false=>
      rcases aj with aj|aj
      · rw[hw]at aj;cases aj
      · exact .inr ⟨rfl,aj,Cq (fun cy ad=>aj.trans ad) _ _ _ _ (k t aG E aY w' dW)⟩
  unfold wpOp;rw[show L.toArray[j]? =some o from by simpa using an]
  simp only
  rcases ag E a w af with⟨fg,aq⟩|⟨hw,fg,t,aS,aq⟩
  · rw[if_pos fg]
    exact .inl (aq _ _ next)
  · rw[if_neg (by rw[fg];decide)]
    exact next t aS _ _ aq (.inr (fP.refl w))
end
section
variable {P:Program} {G:a7} {N B:Nat} {M:List a1}
theorem c9.later{E:Entry}{s:aN}{a:Act}{w cq:World}{β:Nat→Value}{ro:Nat→Prop}(h:c9 E G s a w β ro)(aj:fP w cq):c9 ⟨cq,ro,s.heap,β,E.n⟩ G s a cq β ro:=by
 have bK:w.heap.size≤cq.heap.size:=by
  rcases Nat.eq_zero_or_pos w.heap.size with aU|aU
  ·omega
  ·have aa:=aj (w.heap.size-1) (by omega)
   rcases Nat.lt_or_ge (w.heap.size-1) cq.heap.size with ad|ad
   ·omega
   ·rw[Array.getElem?_eq_none ad,Array.getElem?_eq_getElem (by omega)]at aa
    cases aa
 have hw: ∀b,ro b→cq.heap[b]? =w.heap[b]? :=fun b ae=>aj b (h.heap.lt b ae)
 refine⟨h.defers,h.size,fun i x hx=>(h.slot i x hx).keep hw (fun _ h=>h) (Nat.le_refl _) (fun _ t cs ah=>⟨rfl,t,cs,ah⟩) (fun _ z t _ es ah=>⟨rfl,z,t,es,ah⟩) (fun _ bF ah=>⟨rfl,bF,ah⟩),
  ⟨fun id h7 ah=>(h.heap.c7 id h7 ah).keep hw (fun _ h=>h) (Nat.le_refl _) bK rfl (fun ao b ae=>aj b ((h.heap.c7 id h7 ah).hl ao ae)) (fun _ t cs ah=>⟨rfl,t,cs,ah⟩) (fun _ z t _ es ah=>⟨rfl,z,t,es,ah⟩) (fun _ bF ah=>⟨rfl,bF,ah⟩),h.heap.inj,h.heap.fz,fun b ae=>Nat.lt_of_lt_of_le (h.heap.lt b ae) bK⟩,
  h.hV.keep hw fun _ h=>h,⟨rfl,rfl,rfl,Nat.le_refl _,fun _ _ _=>rfl,fun b ae=>.inl ae,fun b ae=>ae,fun b ae=>.inl ae,fun id hi o ah=>⟨by rw[ah];simp,rfl⟩,h.trans.new,h.trans.le⟩,h.base⟩
theorem RS{w:World}{ro:Nat→Prop}{σ:bA}{β:Nat→Value}{n:Nat}{x:Value}{c:Value}(h:bs w ro σ β n (.au (.v x)) c):c=x:=by
 cases h with
 |au _ _ h=>
  cases h;rfl
theorem jw.qY{ops:Array Oper}{o:Oper}{s:aN}{x:Value}(h:cV P G o s (.au (.v x)))(ah:dX ops s o=some true):jw P G ops o s (s.put o.dst (.au (.v x))):=by
 intro E a w ⟨β,ro,af⟩
 have hw:=nS (ops:=ops) ⟨β,ro,af⟩ ah
 obtain⟨c,_,ad⟩:=h E a w β ro af
 refine⟨x,.inl ⟨hw,fun cq aj=>?_⟩,β,ro,af.put _ _ _ (by rw[RS ad]at ad;exact ad)⟩
 obtain⟨aw,aq,aS⟩:=h _ a cq β ro (af.later aj)
 rw[RS aS]at aq
 exact aq
def ke(P:Program)(G:a7)(ops:Array Oper)(o:Oper)(s:aN)(A:aN→Prop):Prop:=∀E a w,Rel E G s a w→
 (Region.wanted o (yielded ops a.tmps)=true∧∀(K:Act→World→Prop) (Q:Exit→Act→World→Prop),(∀t,A t→∀aY w',Rel E G t aY w'→fP w w'→K aY w')→o.wp P a w K Q)∨
 (Region.wanted o (yielded ops a.tmps)=false∧∃t,A t∧Rel E G t (a.put o.dst undef) w)
theorem ke.v{ops:Array Oper}{o:Oper}{s:aN}{v:aE}{A:aN→Prop}(h:cV P G o s v)(ah:dX ops s o=some true)(cX:A (s.put o.dst v)):ke P G ops o s A:=fun E a w af=>
 .inl ⟨nS af ah,fun K Q hK=>h.N6 E a w af K Q fun aY w' dW aj=>hK _ cX aY w' dW aj⟩
theorem ke.no{ops:Array Oper}{o:Oper}{s:aN}{A:aN→Prop}(ah:dX ops s o=some false)(cX:A (s.put o.dst (.tuple []))):ke P G ops o s A:=fun E a w af=>
 .inr ⟨nS af ah,_,cX,af.B0 o.dst⟩
theorem fp.one{L:List Oper}{Q:Exit→aN→Prop}{wr:List Bool}{fuel:Nat}{m:List Bool}{s:aN}{A:aN→Prop}{i:Nat}{o:Oper}(an:L[i]? =some o)(h:Region.ready .any L.toArray m.toArray=[i])(hw:wr.getD i false=false)
 (ag:ke P G L.toArray o s A)(k: ∀t,A t→fp P G L Q wr fuel (m.set i true) t):fp P G L Q wr (fuel+1) m s:=by
 intro E a w af
 refine⟨fun hn=>(by rw[h]at hn;cases hn),fun j ai=>?_⟩
 rw[h]at ai
 rcases List.mem_cons.1 ai with rfl|ai
 rotate_left
 ·cases ai
 have e3:m.toArray.setIfInBounds j true=(m.set j true).toArray:=by simp
 have next: ∀t,A t→∀aY w',Rel E G t aY w'→fP w w'→wr.getD j false=false∧fP w w'∧ld P L.toArray (lift E G (nT Q)) (fP w) (fun i=>wr.getD i false) fuel (m.toArray.setIfInBounds j true) aY w':=fun t aG aY w' dW aj=>by
  rw[e3];exact⟨hw,aj,Cq (fun cy ad=>aj.trans ad) _ _ _ _ (k t aG E aY w' dW)⟩
 unfold wpOp
 rw[show L.toArray[j]? =some o from by simpa using an]
 simp only
 rcases ag E a w af with⟨fg,aq⟩|⟨fg,t,aS,aq⟩
 ·rw[if_pos fg]
  exact .inl (aq _ _ fun t aG aY w' dW aj=>.inr (next t aG aY w' dW aj))
 ·rw[if_neg (by rw[fg];decide)]
  exact .inr (next t aS _ _ aq (fP.refl w))
def Kz(P:Program)(G:a7)(ops:Array Oper)(o:Oper)(s:aN)(A:aN→Prop):Prop:=∀E a w,Rel E G s a w→
 Region.wanted o (yielded ops a.tmps)=true∧∀(K:Act→World→Prop) (Q:Exit→Act→World→Prop),(∀t,A t→∀aY w',Rel E G t aY w'→K aY w')→o.wp P a w K Q
theorem fp.zb3{L:List Oper}{Q:Exit→aN→Prop}{wr:List Bool}{fuel:Nat}{m:List Bool}{s:aN}{A:aN→Prop}{i:Nat}{o:Oper}(an:L[i]? =some o)(h:Region.ready .any L.toArray m.toArray=[i])(hw:wr.getD i false=true)
 (ag:Kz P G L.toArray o s A)(k: ∀t,A t→fp P G L Q wr fuel (m.set i true) t):fp P G L Q wr (fuel+1) m s:=by
 intro E a w af
 refine⟨fun hn=>(by rw[h]at hn;cases hn),fun j ai=>?_⟩
 rw[h]at ai
 rcases List.mem_cons.1 ai with rfl|ai
 rotate_left
 ·cases ai
 have e3:m.toArray.setIfInBounds j true=(m.set j true).toArray:=by simp
 have next: ∀t,A t→∀aY w',Rel E G t aY w'→wr.getD j false=true∧wpAny P .any L.toArray (lift E G (nT Q)) fuel (m.toArray.setIfInBounds j true) aY w':=fun t aG aY w' dW=>by
  rw[e3];exact⟨hw,(k t aG).cS E aY w' dW⟩
 unfold wpOp
 rw[show L.toArray[j]? =some o from by simpa using an]
 simp only
 obtain⟨fg,aq⟩:=ag E a w af
 rw[if_pos fg]
 exact .inl (aq _ _ fun t aG aY w' dW=>.inl (next t aG aY w' dW))
theorem ke.call{ops:Array Oper}{o:Oper}{s:aN}{x:Operand}{xs:Array Operand}{ts:Array TypeId}(an:o.op= .call {callee:=.value x,args:=xs,argTypes:=ts}){f:FuncId}{p q:List aE}(hx:aJ G s x= .fn (.func f) p q)(gl:nb P f=true)
 (ah:dX ops s o=some true)(oE:eP (p++xs.toList.map (aJ G s)++q)=true){R:aE→bA→Prop}(hc:dO P G f (p++xs.toList.map (aJ G s)++q) [] 0 R){A:aN→Prop}(gG: ∀r bQ,R r bQ→fl r=true∧A (s.put o.dst r)):ke P G ops o s A:=by
 intro E a w ⟨β,ro,h⟩
 refine .inl ⟨nS ⟨β,ro,h⟩ ah,fun K Q hK=>?_⟩
 have jv:=h.eval x
 rw[hx]at jv
 generalize he:a.eval x=B4 at jv
 cases jv with
 |fn _ _ _ c d aa ad ln zq=>
  unfold Oper.wp;simp only[execOp,an,resolve,he,Deferred.ofValue,Sem.run_bind,Sem.run_pure,Result.andThen_ok,invoke];rw[B2 gl]
  have gR:=hc w β ro (c++xs.map a.eval++d) (by simp[aa,ad,Nat.add_assoc]) (fun i y az=>nP (Qj (x:=x) (f:=.func f) h aa ad ln zq i y az) (na oE az))
   ⟨by simp[aF],by simp[aF],fun b _ ⟨_,_,ah,_⟩=>by simp[aF]at ah,h.heap.lt⟩ h.hV (by simp[aF])
  refine Calls.mono gR fun e w' aL=>?_
  obtain⟨v,r,bQ,dV,ro',cR,rfl,af,dp,ht,ct⟩:=aL;obtain⟨zb4,cX⟩:=gG r bQ af
  have jN: ∀b,¬Own ([]:bA) β b:=fun b ⟨_,_,ah,_⟩=>by simp[aF]at ah
  have lH: ∀b,b<w.heap.size→w'.heap[b]? =w.heap[b]? :=fun b ae=>ct.frame b ae (jN b)
  have c2:=h.grow (w':=w') (ro':=ro') ct.os ct.tape ct.output ct.size lH ct.jR (fun b ae=>by
   rcases ct.iR b ae with q|q|q
   ·exact .inl q
   ·exact absurd q (jN b)
   ·exact .inr ⟨q,ht.lt b ae⟩)
  exact hK _ cX _ _ ⟨β,ro',c2.put o.dst r v (nP dp zb4)⟩ lH
theorem bY.zb5{id:Nat}{L:List Oper}{Q:Exit→aN→Prop}{wr:List Bool}{s:aN}(n:Nat)(h:fp P G L Q wr n (List.replicate n false) s)(oe:P.follows .mixedOrders=true)(hn:Nat.beq L.length n=true):bY P G (.region id L.toArray true) Q s:=bY.Zn n h.cS oe hn
end
end Go.aM
