/- TD, part V: loops that count: how they are made, their parts. Conditions: none. -/
import Derived.Test.YtmkpmgfieagphaaGreatDoorYTDu
import Derived.Test.YtmkpmgfieagphaaGreatDoorYTDa
namespace Go.aO
open Go
def aD.ends:aD→List (b7 × aq)
 | .cR x S=>[(x,S)]
 | .lt _ _ t=>t.ends
 | .eH _ t=>t.ends
 | .it _ a b=>a.ends++b.ends
 | .dE _ a _ k=>a.ends++k.ends
 | .dW _ _ _ _ _ a k=>a.ends++k.ends
 | .ep _ _ _ a k=>a.ends++k.ends
 | .bad _=>[]
def cx(S:aq):fN→List hz
 |[]=>[]
 |(i,r,p)::l=>⟨i,r,p.dp S,p⟩::cx S l
def xE(kx j:Nat):List cc→Bool
 |[]=>false
 | .d2 i (.jt .add .i64 .i64) x y::r=>match Nat.beq i j&&(eJ x (.aQ (.int .i64) kx)&&eJ y (.cs (.int .i64 1)))with
  |true=>true
  |false=>xE kx j r
 |_::r=>xE kx j r
def E0(kx b8:Nat)(aZ:aq):Bool:=
 match aZ.at b8 with
 | .aQ (.int .i64) j=>xE kx j aZ.g
 |_=>false
def mo(J:gp)(n:Nat):gp:=⟨J.l,J.h,n,J.ps⟩
def u6(n:Nat):List (Nat × ab)→Bool
 |[]=>true
 |(_,x)::r=>ab.rz n x&&u6 n r
def E1(J:gp)(a1 kx b8:Nat)(aZ:aq):Bool:=jA (mo J (Nat.max aZ.n J.n)) a1 aZ&&E0 kx b8 aZ
def sZ(J ch:gp)(a1 kx b8 cur:Nat):List (b7 × aq)→Bool
 |[]=>true
 |(.cp,aZ)::r=>E1 J a1 kx b8 aZ&&sZ J ch a1 kx b8 cur r
 |(.ext m,aZ)::r=>(match Nat.beq m cur with
  |true=>jA ch a1 aZ
  |false=>true)&&sZ J ch a1 kx b8 cur r
 |_::r=>sZ J ch a1 kx b8 cur r
def E2(dP:aq):fN→Bool
 |[]=>true
 |(i,r,p)::l=>eJ (p.dp dP) (.aQ r i)&&E2 dP l
def aD.xF(cur:Nat):aD→Option aq
 | .lt _ _ t=>t.xF cur
 | .cR (.ext m) S=>match Nat.beq m cur with
  |true=>some S
  |false=>none
 |_=>none
structure m8 where
 J:gp
 ch:gp
 b8:Nat
 y:ab
def m8.kx(I:m8)(S:aq):Nat:=S.k+I.J.ps.length
def m8.H(I:m8)(S:aq):aq:=aq.put ⟨fo I.J.l,I.J.h,I.J.n,I.kx S+1,.rg (I.kx S) I.y::S.g⟩ (some I.b8) (.aQ (.int .i64) (I.kx S))
def m8.E(I:m8)(S:aq):aq:=aq.put ⟨fo I.J.l,I.J.h,I.J.n,I.kx S,S.g⟩ (some I.b8) I.y
def E3(S:aq)(x:ab):Nat→Bool
 |0=>false
 |n+1=>eJ (S.at n) x||E3 S x n
def lenOf(j:Nat):List cc→Option (bJ × ab)
 |[]=>none
 | .d1 i (.iz c) x::r=>match Nat.beq i j with
  |true=>some (c,x)
  |false=>lenOf j r
 |_::r=>lenOf j r
def zU(c:bJ)(x:ab):Bool:=
 match x.rt with
 |some (.li d)=>decide (d=c)
 |_=>false
def AO(N:Nat)(S:aq)(y:ab):List fi:=
 match y with
 | .cs (.int .i64 n)=>match decide (0≤n∧n<9223372036854775808)with
  |true=>[]
  |false=>[.nth 9223372036854775808 y]
 | .aQ (.int .i64) j=>match lenOf j S.g with
  |some (c,x)=>match E3 S x N&&zU c x with
   |true=>[]
   |false=>[.nth 9223372036854775808 y]
  |none=>[.nth 9223372036854775808 y]
 |y=>[.nth 9223372036854775808 y]
def isInt(y:ab):Bool:=
 match y.rt with
 |some (.int .i64)=>true
 |_=>false
def Uh(N B cur:Nat)(S:aq)(I:m8)(t1 t2:aD):Bool:=
 (ig S.k I.J.ps&&(ry (I.kx S) I.J.l&&eI (I.kx S) I.J.h))&&((eJ (S.at I.b8) (.cs (.int .i64 0))&&(isInt I.y&&I.y.lt S.k))&&
 ((jA (mo I.J (Nat.max S.n I.J.n)) S.k S&&(u6 I.J.n I.J.l&&nU I.J.n I.J.h))&&((Nat.blt I.b8 N&&Nat.ble B I.J.n)&&
 (sZ I.J ⟨I.ch.l,I.ch.h,I.ch.n,I.J.ps⟩ S.k (I.kx S) I.b8 cur t1.ends&&((ry (I.kx S) I.ch.l&&eI (I.kx S) I.ch.h)&&(match t2.xF cur with
  |some dP=>jA ⟨I.ch.l,I.ch.h,I.ch.n,I.J.ps⟩ S.k dP&&E2 dP I.J.ps
  |none=>false))))))
def Ui(N B cur:Nat)(S:aq)(I:m8)(t1 t2:aD):aD:=
 match Uh N B cur S I t1 t2 with
 |true=>emit S.k [] (AO N S I.y) (.dW (t1.lvl+1) cur (.re (.int .i64) I.y) (I.kx S) (cx S I.J.ps) (t1.rel (fM (t1.lvl+1))) (.cR (.ext cur) ⟨fo I.ch.l,I.ch.h,I.ch.n,I.kx S,S.g⟩))
 |false=>.bad (xD t1.m7 60)
def s0(N B:Nat)(f:aq→aD)(cur:Nat)(S:aq)(I:m8):aD:=Ui N B cur S I (f (I.H S)) (f (I.E S))
section
variable {P:Program} {G:bd} {N B:Nat} {M:List aV}
theorem nW: ∀{t:aD} {x:b7} {e aB:Env} {S:aq},run M t e=some (x,S,aB)→(x,S)∈t.ends
 | .cR x S0,_,e,aB,S,h=>by
  simp only[run,aD.fold]at h;cases h;simp[aD.ends]
 | .lt _ _ t,_,_,_,_,h=>nW (t:=t) h
 | .eH _ t,_,_,_,_,h=>nW (t:=t) h
 | .it c a b,_,e,aB,S,h=>by
  simp only[run,aD.fold]at h;simp only[aD.ends,List.mem_append]
  cases hc:c.aC e .bool with
  |true=>rw[hc]at h;exact .inl (nW (t:=a) h)
  |false=>rw[hc]at h;exact .inr (nW (t:=b) h)
 | .dE n a ps k,y,e,aB,S,h=>by
  simp only[aD.ends,List.mem_append]
  cases ag:run M a e with
  |none=>unfold run at h;rw[sG ag]at h;cases h
  |some l=>
   obtain⟨x,aZ,aE⟩:=l
   cases hx:x.b0 n with
   |true=>
    unfold run at h;rw[p8 ag hx]at h;exact .inr (nW (t:=k) h)
   |false=>
    unfold run at h;rw[m0 ag hx]at h;cases h;exact .inl (nW (t:=a) ag)
 | .dW m xid du b8 ca a k,y,e,aB,S,h=>by
  rw[Er]at h;simp only[aD.ends,List.mem_append]
  cases ar:bq (fun i (v:b4 ca)=>dg M m xid ca a (bw (bg.put e b8 ⟨.int .i64,(i:Int)⟩) ca v) v) 0 (cr (du.den M e)).toNat (cg _ (dI e ca))with
  |inl r=>
   rw[ar]at h
   have h:r=some (y,S,aB):=h
   subst h;obtain⟨i,v,ad⟩:=Mr ar;exact .inl (nW (t:=a) (Ep ad))
  |inr v=>rw[ar]at h;exact .inr (nW (t:=k) h)
 | .ep m xid ca a k,y,e,aB,S,h=>by
  rw[Es]at h;simp only[aD.ends,List.mem_append]
  cases ar:c7 (fun(v:b4 ca)=>dg M m xid ca a (bw e ca v) v) dG (cg _ (dI e ca))with
  |inl r=>
   rw[ar]at h
   have h:r=some (y,S,aB):=h
   subst h;obtain⟨v,ad⟩:=Ms ar;exact .inl (nW (t:=a) (Ep ad))
  |inr v=>rw[ar]at h;exact .inr (nW (t:=k) h)
 | .bad _,_,_,_,_,h=>by cases h
theorem Uj(S:aq)(e:Env): ∀ca:List hz,dB (ri ca) (cg (ri ca) (fB S e ca))=fB S e ca
 |[]=>rfl
 |[a]=>by simp only[ri,fB,cg,dB,cI]
 |a::b::l=>by
  have:=Uj S e (b::l)
  simp only[ri,fB]at this;simp only[ri,fB,cg,dB,cI,this]
theorem Ni{S:aq}{e:Env}: ∀{ps:fN},dI e (cx S ps)=fB S e (cx S ps)
 |[]=>rfl
 |(_,_,_)::l=>by simp only[cx,dI,fB,Ni (ps:=l)]
theorem AP{S0 aZ:aq}{e aE:Env}{ps:fN}:bw e (cx S0 ps) (cg _ (fB aZ aE (cx S0 ps)))=fT e (fun r p=>⟨r,(p.dp aZ).get aE r⟩) ps:=by
 unfold bw
 rw[Uj]
 induction ps generalizing e with
 |nil=>rfl
 |cons q l a7=>
  obtain⟨i,r,p⟩:=q;simp only[cx,fB,rj,fT];exact a7
theorem Uk{i:Nat}: ∀{ca:List hz} {e:Env} {ds:List aI},(∀a∈ca,a.i≠i)→Env.at (rj e ca ds) i=Env.at e i
 |[],_,[],_=>rfl
 |[],_,_::_,_=>rfl
 |_::_,_,[],_=>rfl
 |a::l,e,d::ds,h=>by
  simp only[rj];rw[Uk (ca:=l) fun b ad=>h b (by simp[ad]),Env.ib,if_neg (h a (by simp))]
theorem Ul{S:aq}: ∀{ps:fN} {k:Nat},ig k ps=true→∀a∈cx S ps,k≤a.i∧a.i<k+ps.length
 |(j,r,p)::l,k,h,a,ba=>by
  simp only[ig,Bool.and_eq_true]at h
  have af:=Nat.eq_of_beq_eq_true h.1
  simp only[cx]at ba
  rcases List.mem_cons.1 ba with rfl|ba
  ·simp only[List.length_cons];omega
  ·have:=Ul (k:=k+1) h.2.2 a ba
   simp only[List.length_cons];omega
 |[],_,_,a,ba=>by cases ba
theorem xG{S:aq}{e:Env}{ps:fN}{k i:Nat}{v:b4 (cx S ps)}(h:ig k ps=true)(hi:i<k∨k+ps.length≤i):Env.at (bw e (cx S ps) v) i=Env.at e i:=
 Uk fun a ba=>by have:=Ul h a ba;omega
theorem Um{S:aq}: ∀{ps:fN} {k:Nat} {e:Env} {v:b4 (cx S ps)},ig k ps=true→∀{i:Nat} {r:a6} {p:ey},iY ps i=some (r,p)→(Env.at (bw e (cx S ps) v) i).r=r
 |[],_,_,_,_,_,_,_,ak=>by cases ak
 |[(j,eV,gb)],k,e,v,h,i,r,p,ak=>by
  simp only[iY]at ak
  split at ak
  ·rename_i ad
   cases ak;rw[←Nat.eq_of_beq_eq_true ad];simp only[bw,cx,ri,dB,rj];rw[Env.ib,if_pos rfl]
  ·cases ak
 |(j,eV,gb)::q::l,k,e,v,h,i,r,p,ak=>by
  simp only[ig,Bool.and_eq_true]at h
  have af:=Nat.eq_of_beq_eq_true h.1
  obtain⟨bP,eX,ph⟩:=q
  have ai:bw e (cx S ((j,eV,gb)::(bP,eX,ph)::l)) v=bw (bg.put e j ⟨eV,v.1⟩) (cx S ((bP,eX,ph)::l)) v.2:=rfl
  have ae:ig (k+1) ((bP,eX,ph)::l)=true:=by
   simp only[ig,Bool.and_eq_true];exact h.2.2
  simp only[iY]at ak
  split at ak
  ·rename_i ad
   cases ak
   have:=Nat.eq_of_beq_eq_true ad
   rw[ai];refine(congrArg aI.r (xG (S:=S) (e:=bg.put e j ⟨eV,v.1⟩) (ps:=(bP,eX,ph)::l) (k:=k+1) (i:=i) (v:=v.2) ae (.inl (by omega)))).trans ?_
   rw[Env.ib,if_pos this]
  ·rw[ai]
   exact Um (S:=S) (e:=bg.put e j ⟨eV,v.1⟩) (ps:=(bP,eX,ph)::l) (k:=k+1) (v:=v.2) ae ak
theorem Un{f:a6→ey→aI}{i:Nat}: ∀{ps:fN} {e aB:Env},Env.at e i=Env.at aB i→Env.at (fT e f ps) i=Env.at (fT aB f ps) i
 |[],_,_,h=>h
 |(j,r,p)::l,e,aB,h=>by
  simp only[fT];refine Un (ps:=l) ?_
  rw[Env.ib,Env.ib,h]
theorem zgE{c:Code}{R A:Type}{n:Nat}{b:Nat→A→Step R A}{a0:A}{hd:Nat→A→aU}{Q:Exit→aU→Prop}{dx:aU}{I:Nat→A→Prop}
    (aP:cu dx (hd 0 a0))(hi:I 0 a0)
    (ag: ∀k a,k<n→I k a→bq b 0 n a0=bq b k (n-k) a→b6 P G c (fun e st=>match e with
      | .normal=>∃bf,b k a= .bn bf∧I (k+1) bf∧cu st (hd (k+1) bf)
      |e=>Q e st) (hd k a))
    (he: ∀a,I n a→bq b 0 n a0= .inr a→b6 P G c (fun e st=>match e with
      | .normal=>False
      |e=>Q e st) (hd n a)):b6 P G (.loop c) Q dx:=by
  refine b6.loop (ι:=Nat × A) (fun x=>hd x.1 x.2) (fun x=>x.1≤n∧bq b 0 n a0=bq b x.1 (n-x.1) x.2∧I x.1 x.2) (fun x=>n-x.1) (0,a0) aP ⟨Nat.zero_le _,rfl,hi⟩ ?_
  rintro⟨k,a⟩ ⟨aj,fD,b2⟩
  simp only at aj fD b2⊢
  by_cases oK:k<n
  · refine b6.mono (ag k a oK b2 fD) fun e st ai=>?_
    cases e with
    |normal=>
      obtain⟨bf,aa,au,ae⟩:=ai;exact⟨(k+1,bf),⟨oK,zd6 fD oK aa,au⟩,by show n-(k+1)<n-k;omega,ae⟩
    |_=>exact ai
  · have:k=n:=by omega
    subst this;refine b6.mono (he a b2 (zd9 fD (Nat.le_refl _))) fun e st ai=>?_
    cases e with
    |normal=>exact ai.elim
    |_=>exact ai
theorem cu.low{aR:List aF}{h:Heap}{m n b:Nat}(aa:kQ n aR=true)(ae:kR n h=true)(au:b≤n):cu ⟨aR,h,m,b⟩ ⟨aR,h,n,b⟩:=by
 intro E G a w ⟨β,ro,ag⟩
 refine⟨β,ro,ag.defers,ag.size,fun i x hx=>?_,⟨fun id o ah=>?_,ag.heap.inj,ag.heap.fk,ag.heap.lt⟩,ag.h7,?_,ag.base⟩
 ·exact(ag.slot i x hx).lower (qY aa hx)
 ·have ao:=ag.heap.dh id o ah
  obtain⟨_,zv⟩:=qZ ae ah
  cases ao with
  |box t cs b arr aE bo cv eC=>exact .box t cs b arr aE bo cv fun j x af=>(eC j x af).lower (qY (zv t cs rfl) af)
  |row t n es xs aE bo cv=>exact .row t n es xs aE bo cv
  |gi t n es aE=>exact .gi t n es aE
  |bT bU b o aE bo cv=>exact .bT bU b o aE bo cv
 ·have t:=ag.trans
  exact⟨t.os,t.tape,t.output,t.size,t.frame,t.jk,t.jZ,t.gZ,t.dM,fun id o ah=>(qZ ae ah).1,Nat.le_trans ag.base au⟩
theorem Nj{n:Nat}{e:Env}{l:bg ab}(h: ∀i x,l.get i=some x→ab.rz n x=true): ∀(k i:Nat),kQ n (j9 G e l i k)=true
 |0,_=>rfl
 |k+1,i=>by
  simp only[j9,kQ,Nj h k (i+1),Bool.and_true]
  cases ah:l.get i with
  |none=>rfl
  |some x=>exact EM (h i x ah)
theorem Nk{n:Nat}: ∀{l:List (Nat × ab)},u6 n l=true→∀{i:Nat} {x:ab},(i,x)∈l→ab.rz n x=true
 |(_,_)::r,h,i,x,hm=>by
  simp only[u6,Bool.and_eq_true]at h
  rcases List.mem_cons.1 hm with q|q
  ·cases q;exact h.1
  ·exact Nk h.2 q
theorem Uo{J:gp}{a1 kx b8 j:Nat}{S0 aZ:aq}{e aE:Env}{k:Nat}{g g':List cc}(ak:ig a1 J.ps=true)(rB:kx=a1+J.ps.length)(ar:ry kx J.l=true)(bk:eI kx J.h=true)
 (l2: ∀c∈aZ.g,c.ok aE)(h:jA (mo J (Nat.max aZ.n J.n)) a1 aZ=true)(ia:u6 J.n J.l=true)(oP:nU J.n J.h=true)(hC:B≤J.n)(u7:b8<N)(bZ:b3 a1 e aE)(ax:(aZ.at b8).den G aE= .aw (.v (.int .i64 (j:Int)))):
 cu (aZ.den G N B aE) ((aq.put ⟨fo J.l,J.h,J.n,k,g⟩ (some b8) (.aQ (.int .i64) kx)).den G N B (bw (bg.put e kx ⟨.int .i64,(j:Int)⟩) (cx S0 J.ps) (cg _ (fB aZ aE (cx S0 J.ps))))):=by
 have aa:=Mu (G:=G) (N:=N) (B:=B) (J:=mo J (Nat.max aZ.n J.n)) ak l2 h (g:=g') bZ
 have ae:=aa.put (i:=b8) (x:=.v (.int .i64 (j:Int))) (by rw[uI,if_pos u7,ax])
 refine ae.le.trans ?_
 rw[AP,ff]
 have zgF:Env.at (fT (bg.put e kx ⟨.int .i64,(j:Int)⟩) (fun r p=>⟨r,(p.dp aZ).get aE r⟩) J.ps) kx=⟨.int .i64,(j:Int)⟩:=by
  rw[←AP (S0:=S0),xG ak (.inr (by omega)),Env.ib,if_pos rfl]
 have Up:(ab.aQ (.int .i64) kx).den G (fT (bg.put e kx ⟨.int .i64,(j:Int)⟩) (fun r p=>⟨r,(p.dp aZ).get aE r⟩) J.ps)= .aw (.v (.int .i64 (j:Int))):=by
  simp only[ab.den,zgF,cI,fJ,j5]
 rw[Up]
 have dt:b3 kx (fT e (fun r p=>⟨r,(p.dp aZ).get aE r⟩) J.ps) (fT (bg.put e kx ⟨.int .i64,(j:Int)⟩) (fun r p=>⟨r,(p.dp aZ).get aE r⟩) J.ps):=fun i hi=>
  Un (by rw[Env.ib,if_neg (by omega)])
 have qk:(⟨fo J.l,J.h,J.n,kx,[]⟩:aq).cz:=⟨fun i x hx=>sS ar (o9 hx),bk,rfl⟩
 have aj:=k2 (G:=G) (N:=N) (B:=B) (S:=⟨fo J.l,J.h,J.n,kx,[]⟩) dt qk
 have au:(aq.mk (fo J.l) J.h J.n k g).den G N B (fT (bg.put e kx ⟨.int .i64,(j:Int)⟩) (fun r p=>⟨r,(p.dp aZ).get aE r⟩) J.ps)=(aq.mk (fo J.l) J.h J.n kx []).den G N B (fT e (fun r p=>⟨r,(p.dp aZ).get aE r⟩) J.ps):=aj
 rw[au]
 refine cu.low (m:=Nat.max aZ.n J.n) ?_ ?_ hC
 ·have:=Nj (G:=G) (e:=fT (bg.put e kx ⟨.int .i64,(j:Int)⟩) (fun r p=>⟨r,(p.dp aZ).get aE r⟩) J.ps) (n:=J.n) (l:=(fo J.l).put b8 (.aQ (.int .i64) kx)) (fun i x hx=>by
   rw[bg.hV]at hx
   split at hx
   ·cases hx;rfl
   ·exact Nk ia (o9 hx)) N 0
  rw[Lo,Up]at this
  have pS:j9 G (fT (bg.put e kx ⟨.int .i64,(j:Int)⟩) (fun r p=>⟨r,(p.dp aZ).get aE r⟩) J.ps) (fo J.l) 0 N=j9 G (fT e (fun r p=>⟨r,(p.dp aZ).get aE r⟩) J.ps) (fo J.l) 0 N:=congrArg aU.c0 aj
  rw[pS]at this;exact this
 ·exact xu oP
end
end Go.aO
namespace Go.aO
open Go
section
variable {P:Program} {G:bd} {N B:Nat} {M:List aV}
theorem Uq{S:aq}{x:ab}: ∀{n:Nat},E3 S x n=true→∃i,i<n∧S.at i=x
 |n+1,h=>by
  simp only[E3,Bool.or_eq_true]at h
  rcases h with h|h
  ·exact⟨n,Nat.lt_succ_self n,e4 h⟩
  ·obtain⟨i,aa,ae⟩:=Uq h
   exact⟨i,by omega,ae⟩
theorem AQ{j:Nat}{c:bJ}{x:ab}{e:Env}: ∀{l:List cc},lenOf j l=some (c,x)→(∀c∈l,c.ok e)→Env.at e j=⟨.int .i64,(List.length (x.aC e (.li c)):Int)⟩
 | .d1 i f y::r,h,hc=>by
  have ag: ∀{c x},lenOf j r=some (c,x)→Env.at e j=⟨.int .i64,(List.length (x.aC e (.li c)):Int)⟩:=fun h=>AQ h fun c hm=>hc c (by simp[hm])
  have aP:=hc (.d1 i f y) (by simp)
  cases f with
  |iz d=>
   simp only[lenOf]at h
   split at h
   ·rename_i ad
    cases h;rw[←Nat.eq_of_beq_eq_true ad];exact aP
   ·exact ag h
  |_=>exact ag h
 | .d2 _ _ _ _::r,h,hc=>AQ (l:=r) h fun c hm=>hc c (by simp[hm])
 | .rg _ _::r,h,hc=>AQ (l:=r) h fun c hm=>hc c (by simp[hm])
 | .dV _ _::r,h,hc=>AQ (l:=r) h fun c hm=>hc c (by simp[hm])
theorem zgG{S:aq}{y:ab}{e:Env}{Ur:Entry}{a:Act}{w:World}(hf:S.cA e)(h: ∀n∈AO N S y,n.ok M e)(ag:Rel Ur G (S.den G N B e) a w):0≤cr (y.dyn e)∧cr (y.dyn e)<9223372036854775808:=by
 have key:(fi.nth 9223372036854775808 y).ok M e→0≤cr (y.dyn e)∧cr (y.dyn e)<9223372036854775808:=fun h=>h
 unfold AO at h
 split at h
 ·rename_i n
  split at h
  ·rename_i hd
   exact of_decide_eq_true hd
  ·exact key (h _ (by simp))
 ·rename_i j
  split at h
  ·rename_i c x ar
   split at h
   ·rename_i ad
    simp only[Bool.and_eq_true]at ad;obtain⟨i,hi,hx⟩:=Uq ad.1
    have aa:=AQ ar hf
    have zgH:x.rt=some (.li c):=by
     have:=ad.2
     unfold zU at this
     split at this
     ·rename_i d hd
      rw[hd,of_decide_eq_true this]
     ·cases this
    have ae:=gd (G:=G) (e:=e) zgH
    have u9:aM G (S.den G N B e) (.tmp i)= .aw (.li c (x.aC e (.li c))):=by
     simp only[aM,List.getD_eq_getElem?_getD,uI,if_pos hi,hx,ae]
     rfl
    have:=zev ag u9
    have hd:cr ((ab.aQ (.int .i64) j).dyn e)=(List.length (x.aC e (.li c)):Int):=by
     simp only[ab.dyn,aa,cI,cr]
    rw[hd];omega
   ·exact key (h _ (by simp))
  ·exact key (h _ (by simp))
 ·exact key (h _ (by simp))
theorem AR{kx j:Nat}{e:Env}: ∀{l:List cc},xE kx j l=true→(∀c∈l,c.ok e)→Env.at e j=⟨.int .i64,IntKind.i64.wrap (((Env.at e kx).aJ (.int .i64):Int)+1)⟩
 | .d2 i f x y::r,h,hc=>by
  have ag:xE kx j r=true→Env.at e j=⟨.int .i64,IntKind.i64.wrap (((Env.at e kx).aJ (.int .i64):Int)+1)⟩:=fun h=>AR h fun c hm=>hc c (by simp[hm])
  have aP:=hc (.d2 i f x y) (by simp)
  unfold xE at h
  split at h
  ·cases h
  ·rename_i heq
   cases heq
   split at h
   ·rename_i ad
    simp only[Bool.and_eq_true]at ad;rw[←Nat.eq_of_beq_eq_true ad.1]
    have aP:Env.at e i=_:=aP
    rw[aP,e4 ad.2.1,e4 ad.2.2];simp only[cD.den,ab.aC,ab.fu,ab.dyn,cI,bL]
   ·exact ag h
  ·rename_i heq
   cases heq;exact ag h
 | .d1 _ _ _::r,h,hc=>AR (l:=r) h fun c hm=>hc c (by simp[hm])
 | .rg _ _::r,h,hc=>AR (l:=r) h fun c hm=>hc c (by simp[hm])
 | .dV _ _::r,h,hc=>AR (l:=r) h fun c hm=>hc c (by simp[hm])
theorem zgI{kx b8:Nat}{aZ:aq}{e:Env}{i:Nat}(h:E0 kx b8 aZ=true)(hf:aZ.cA e)(aj:Env.at e kx=⟨.int .i64,(i:Int)⟩)(hi:(i:Int)<9223372036854775807):(aZ.at b8).den G e= .aw (.v (.int .i64 ((i+1:Nat):Int))):=by
 unfold E0 at h
 split at h
 ·rename_i j hx
  have:=AR h hf
  rw[hx];simp only[ab.den,this,cI,aj,fJ,j5];rw[zdP (by omega)]
 ·cases h
theorem Us{cur:Nat}: ∀{t:aD} {e:Env} {S:aq},t.xF cur=some S→t.safe M e∧∃aB,run M t e=some (.ext cur,S,aB)
 | .lt _ _ t,e,S,h=>Us (t:=t) h
 | .cR x S0,e,S,h=>by
  refine⟨trivial,?_⟩
  unfold aD.xF at h
  split at h
  ·rename_i heq;cases heq
  ·rename_i m dn heq
   cases heq
   split at h
   ·rename_i ad
    cases h;rw[←Nat.eq_of_beq_eq_true ad];exact⟨e,rfl⟩
   ·cases h
  ·cases h
 | .eH _ _,_,_,h=>by cases h
 | .it _ _ _,_,_,h=>by cases h
 | .dE _ _ _ _,_,_,h=>by cases h
 | .dW _ _ _ _ _ _ _,_,_,h=>by cases h
 | .ep _ _ _ _ _,_,_,h=>by cases h
 | .bad _,_,_,h=>by cases h
theorem Ut{dP:aq}: ∀{ps:fN},E2 dP ps=true→∀{i:Nat} {r:a6} {p:ey},iY ps i=some (r,p)→p.dp dP= .aQ r i
 |(j,eV,gb)::l,h,i,r,p,ak=>by
  simp only[E2,Bool.and_eq_true]at h;simp only[iY]at ak
  split at ak
  ·rename_i ad
   cases ak;rw[e4 h.1,Nat.eq_of_beq_eq_true ad]
  ·exact Ut h.2 ak
theorem Uu{J ch:gp}{a1 kx b8 cur:Nat}: ∀{l:List (b7 × aq)},sZ J ch a1 kx b8 cur l=true→∀{x:b7} {aZ:aq},(x,aZ)∈l→(x= .cp→E1 J a1 kx b8 aZ=true)∧(x= .ext cur→jA ch a1 aZ=true)
 |(y,dP)::r,h,x,aZ,hm=>by
  have bk:sZ J ch a1 kx b8 cur r=true∧(y= .cp→E1 J a1 kx b8 dP=true)∧(y= .ext cur→jA ch a1 dP=true):=by
   cases y with
   |cp=>
    simp only[sZ,Bool.and_eq_true]at h;exact⟨h.2,fun _=>h.1,fun e=>(by cases e)⟩
   |ext m=>
    simp only[sZ,Bool.and_eq_true]at h;refine⟨h.2,fun e=>(by cases e),fun e=>?_⟩
    cases e
    have aa:=h.1
    rw[Nat.beq_refl]at aa;exact aa
   |ret=>exact⟨h,fun e=>(by cases e),fun e=>(by cases e)⟩
   |k0 m=>exact⟨h,fun e=>(by cases e),fun e=>(by cases e)⟩
  rcases List.mem_cons.1 hm with q|q
  ·cases q;exact bk.2
  ·exact Uu bk.1 q
theorem b6.rel{c:Code}{Q:Exit→aU→Prop}{s:aU}(h:(∃E a w,Rel E G s a w)→b6 P G c Q s):b6 P G c Q s:=fun E a w ag=>h ⟨E,a,w,ag⟩ E a w ag
theorem zgJ{ps:fN}: ∀{k i:Nat},ig k ps=true→k≤i→i<k+ps.length→∃r p,iY ps i=some (r,p):=by
 induction ps with
 |nil=>intro k i _ aa ae;simp at ae;omega
 |cons q l a7=>
  obtain⟨j,r,p⟩:=q;intro k i h aa ae;simp only[ig,Bool.and_eq_true]at h
  have af:=Nat.eq_of_beq_eq_true h.1
  simp only[iY]
  split
  ·exact⟨r,p,rfl⟩
  ·rename_i ad
   refine a7 h.2.2 ?_ (by simp only[List.length_cons]at ae;omega)
   have:j≠i:=fun e=>by rw[e,Nat.beq_refl]at ad;cases ad
   omega
theorem Uv{i:Nat}: ∀{ca:List hz} {e aB:Env} {ds:List aI},Env.at e i=Env.at aB i→Env.at (rj e ca ds) i=Env.at (rj aB ca ds) i
 |[],_,_,[],h=>h
 |[],_,_,_::_,h=>h
 |_::_,_,_,[],h=>h
 |a::l,e,aB,d::ds,h=>by
  simp only[rj];refine Uv (ca:=l) ?_
  rw[Env.ib,Env.ib,h]
theorem AS{c:Code}{f:aq→aD}(hf:iO P G N B M c f){cur:Nat}{S:aq}{I:m8}{e:Env}(ad:S.cz)(en:S.cA e)(ai:(s0 N B f cur S I).safe M e):b6 P G (.loop c) (h1 G N B M (s0 N B f cur S I) e S.k) (S.den G N B e):=by
 unfold s0 Ui at ai⊢
 split at ai
 rotate_left
 ·exact ai.elim
 rename_i s3
 generalize AT:f (I.H S)=t1 at ai s3⊢
 generalize Uw:f (I.E S)=t2 at s3
 simp only[Uh,Bool.and_eq_true]at s3
 obtain⟨⟨aY,bW,cK⟩,⟨eo,iw,kp⟩,⟨jF,v8,wa⟩,⟨zb,pO⟩,sh,⟨CQ,CR⟩,wb⟩:=s3
 have zb:=fb zb
 have pO:=Nat.le_of_ble_eq_true pO
 obtain⟨gO,gg⟩:=lF ai
 have gg:(aD.dW (t1.lvl+1) cur (.re (.int .i64) I.y) (I.kx S) (cx S I.J.ps) (t1.rel (fM (t1.lvl+1))) (.cR (.ext cur) ⟨fo I.ch.l,I.ch.h,I.ch.n,I.kx S,S.g⟩)).safe M e:=gg
 refine b6.rel fun⟨Ur,ac,w,dD⟩=>?_
 obtain⟨xa,z2⟩:=zgG (M:=M) (e:=e) en gO dD
 have Nl:I.y.rt=some (.int .i64):=by
  unfold isInt at iw
  split at iw
  ·assumption
  ·cases iw
 generalize fO:aD.dW (t1.lvl+1) cur (.re (.int .i64) I.y) (I.kx S) (cx S I.J.ps) (t1.rel (fM (t1.lvl+1))) (.cR (.ext cur) ⟨fo I.ch.l,I.ch.h,I.ch.n,I.kx S,S.g⟩)=qm at gg
 have zgK:run M (emit S.k [] (AO N S I.y) qm) e=run M qm e:=k4
 refine b6.mono (Q':=h1 G N B M (emit S.k [] (AO N S I.y) qm) e S.k) ?_ fun ex st h=>h
 refine b6.mono (Q:=h1 G N B M qm e S.k) ?_ fun ex st h=>h.sub zgK (b3.refl _ _) (Nat.le_refl _)
 have rB:I.kx S=S.k+I.J.ps.length:=rfl
 have xH:I.H S=aq.put ⟨fo I.J.l,I.J.h,I.J.n,I.kx S+1,.rg (I.kx S) I.y::S.g⟩ (some I.b8) (.aQ (.int .i64) (I.kx S)):=rfl
 have E4:I.E S=aq.put ⟨fo I.J.l,I.J.h,I.J.n,I.kx S,S.g⟩ (some I.b8) I.y:=rfl
 generalize hP:I.kx S=kx at*
 have qk:cr ((bQ.re (.int .i64) I.y).den M e)=cr (I.y.dyn e):=by
  rw[lD Nl];rfl
 generalize sg:cr (I.y.dyn e)=Z at*
 have Nn:t1.lvl<t1.lvl+1:=Nat.lt_succ_self _
 have nT:=Li Nn
 subst fO
 obtain⟨⟨Inv,No,E5⟩,aj⟩:=gg
 rw[qk]at E5
 have cy: ∀L,bq (fun i (v:b4 (cx S I.J.ps))=>dg M (t1.lvl+1) cur (cx S I.J.ps) (t1.rel (fM (t1.lvl+1))) (bw (bg.put e kx ⟨.int .i64,(i:Int)⟩) (cx S I.J.ps) v) v) 0 Z.toNat (cg _ (dI e (cx S I.J.ps)))=L→
  run M (aD.dW (t1.lvl+1) cur (.re (.int .i64) I.y) kx (cx S I.J.ps) (t1.rel (fM (t1.lvl+1))) (.cR (.ext cur) ⟨fo I.ch.l,I.ch.h,I.ch.n,kx,S.g⟩)) e=Sum.elim (fun r=>r) (fun v=>some (.ext cur,⟨fo I.ch.l,I.ch.h,I.ch.n,kx,S.g⟩,bw e (cx S I.J.ps) v)) L:=fun L fD=>by
  rw[Er,qk,fD];rfl
 generalize zgL:aD.dW (t1.lvl+1) cur (.re (.int .i64) I.y) kx (cx S I.J.ps) (t1.rel (fM (t1.lvl+1))) (.cR (.ext cur) ⟨fo I.ch.l,I.ch.h,I.ch.n,kx,S.g⟩)=qm at cy

 have xI: ∀(i:Nat) (v:b4 (cx S I.J.ps)),b3 S.k e (bw (bg.put e kx ⟨.int .i64,(i:Int)⟩) (cx S I.J.ps) v):=fun i v j af=>by
  rw[xG aY (.inl af),Env.ib,if_neg (by omega)]
 have Np: ∀(i:Nat) (v:b4 (cx S I.J.ps)),Env.at (bw (bg.put e kx ⟨.int .i64,(i:Int)⟩) (cx S I.J.ps) v) kx=⟨.int .i64,(i:Int)⟩:=fun i v=>by
  rw[xG aY (.inr (by omega)),Env.ib,if_pos rfl]
 have zgM: ∀(i:Nat) (v:b4 (cx S I.J.ps)),b3 kx (bw (bg.put e kx ⟨.int .i64,(i:Int)⟩) (cx S I.J.ps) v) (bw e (cx S I.J.ps) v):=fun i v j af=>by
  refine Uv ?_
  rw[Env.ib,if_neg (by omega)]
 have s4: ∀(v:b4 (cx S I.J.ps)),b3 S.k e (bw e (cx S I.J.ps) v):=fun v j af=>xG aY (.inl af)
 have zgN:(I.H S).k=kx+1:=by rw[xH,jg]
 have zgO:(I.E S).k=kx:=by rw[E4,jg]
 have Ux:I.y.lt kx=true:=gG (by omega) kp
 have Nq:(I.H S).cz:=by
  rw[xH];refine je ⟨fun i x hx=>gG (Nat.le_succ kx) (sS bW (o9 hx)),sJ (Nat.le_succ kx) cK,?_⟩ (jP (Nat.lt_succ_self kx))
  show(cc.lt (kx+1) (.rg kx I.y)&&fm (kx+1) S.g)=true;simp only[cc.lt,gG (Nat.le_succ kx) Ux,jP (Nat.lt_succ_self kx),nP (show S.k≤kx+1 by omega) ad.g,Bool.and_self]
 have zgP:(I.E S).cz:=by
  rw[E4];exact je ⟨fun i x hx=>sS bW (o9 hx),cK,nP (show S.k≤kx by omega) ad.g⟩ Ux
 have Uy: ∀aB,b3 S.k e aB→cr (I.y.dyn aB)=Z:=fun aB h=>by rw[ra h kp,sg]
 have Nr: ∀(i:Nat) (v:b4 (cx S I.J.ps)),i<Z.toNat→(I.H S).cA (bw (bg.put e kx ⟨.int .i64,(i:Int)⟩) (cx S I.J.ps) v):=fun i v hi=>by
  rw[xH];refine jf fun d hd=>?_
  rcases List.mem_cons.1 hd with rfl|hd
  ·show 0≤cr (Env.at _ kx)∧cr (Env.at _ kx)<cr (I.y.dyn _)
   rw[Np,Uy _ (xI i v)];show 0≤(i:Int)∧(i:Int)<Z;omega
  ·exact ic (xI i v) ad.g en d hd
 have zgQ: ∀(i:Nat) (v:b4 (cx S I.J.ps)),(I.E S).cA (bw (bg.put e kx ⟨.int .i64,(i:Int)⟩) (cx S I.J.ps) v):=fun i v=>by
  rw[E4];exact jf (ic (xI i v) ad.g en)
 have E6: ∀dn:aq,dn=⟨fo I.ch.l,I.ch.h,I.ch.n,kx,S.g⟩→dn.cz:=fun dn h=>by
  subst h;exact⟨fun i x hx=>sS CQ (o9 hx),CR,nP (show S.k≤kx by omega) ad.g⟩

 have lH: ∀(v:b4 (cx S I.J.ps)) (st:aU),run M qm e=some (.ext cur,⟨fo I.ch.l,I.ch.h,I.ch.n,kx,S.g⟩,bw e (cx S I.J.ps) v)→cu st ((aq.mk (fo I.ch.l) I.ch.h I.ch.n kx S.g).den G N B (bw e (cx S I.J.ps) v))→h1 G N B M qm e S.k (.exit cur) st:=fun v st aa ae=>
  ⟨.ext cur,_,_,aa,rfl,ae,E6 _ rfl,ic (s4 v) ad.g en,s4 v,(show S.k≤kx by omega)⟩
 refine zgE (n:=Z.toNat) (b:=fun i (v:b4 (cx S I.J.ps))=>dg M (t1.lvl+1) cur (cx S I.J.ps) (t1.rel (fM (t1.lvl+1))) (bw (bg.put e kx ⟨.int .i64,(i:Int)⟩) (cx S I.J.ps) v) v) (a0:=cg _ (dI e (cx S I.J.ps)))
  (hd:=fun i v=>(I.H S).den G N B (bw (bg.put e kx ⟨.int .i64,(i:Int)⟩) (cx S I.J.ps) v)) (I:=Inv) ?_ No (fun k v oK b2 fD=>?_) (fun v b2 fD=>?_)
 ·rw[Ni,xH]
  exact Uo (g':=S.g) aY rB bW cK en jF v8 wa pO zb (b3.refl _ _) (by rw[e4 eo];rfl)
 ·obtain⟨da,dm⟩:=E5 k v oK b2
  have xJ:=hf (I.H S) (bw (bg.put e kx ⟨.int .i64,(k:Int)⟩) (cx S I.J.ps) v) Nq (Nr k v oK) (by rw[AT];exact(kN nT).1 da)
  refine b6.mono xJ fun ex st ⟨x,aZ,aE,aa,ae,au,aW,bN,c5,eD⟩=>?_
  rw[AT]at aa;rw[zgN]at c5 eD;obtain⟨Ns,Nt⟩:=Uu sh (nW aa)
  have oZ:run M (t1.rel (fM (t1.lvl+1))) (bw (bg.put e kx ⟨.int .i64,(k:Int)⟩) (cx S I.J.ps) v)=some (fM (t1.lvl+1) x,aZ,aE):=by rw[vW nT,aa];rfl
  have lI:dg M (t1.lvl+1) cur (cx S I.J.ps) (t1.rel (fM (t1.lvl+1))) (bw (bg.put e kx ⟨.int .i64,(k:Int)⟩) (cx S I.J.ps) v) v=eg (t1.lvl+1) cur (cx S I.J.ps) (fun x S e=>some (x,S,e)) (fM (t1.lvl+1) x) aZ aE:=by
   unfold dg;rw[oZ]
  have va:b3 S.k e aE:=b3.trans (xI k v) c5 (by omega)
  have out: ∀ex,AB x ex→fM (t1.lvl+1) x=x→x.b0 (t1.lvl+1)=false→x.c9 cur=false→h1 G N B M qm e S.k ex st:=fun ex ae hm af hx=>by
   rw[hm,ka af hx]at lI
   have:=cy _ (zd7 fD oK lI)
   exact⟨x,aZ,aE,this,ae,au,aW,bN,va,by omega⟩
  cases x with
  |k0 m=>cases ex<;>exact ae.elim
  |ret=>cases ex<;>first|exact ae.elim|exact out _ ae rfl rfl rfl
  |cp=>
   cases ex with
   |normal=>
    have hx:=Ns rfl
    simp only[E1,Bool.and_eq_true]at hx;rw[nM (x:=fM (t1.lvl+1) .cp) (show b7.b0 (t1.lvl+1) (.k0 (t1.lvl+1))=true from Nat.beq_refl _)]at lI
    refine⟨_,lI,dm _ (by rw[iX,lI];rfl),au.trans ?_⟩
    simp only[xH];refine Uo (g':=S.g) aY rB bW cK bN hx.1 v8 wa pO zb va (zgI hx.2 bN ?_ (by omega))
    rw[c5 kx (Nat.lt_succ_self kx),Np]
   |_=>exact ae.elim
  |ext m=>
   cases ex with
   |exit vb=>
    have ae:m=vb:=ae
    subst ae
    cases hm:Nat.beq m cur with
    |false=>exact out _ rfl rfl rfl hm
    |true=>
     have:=Nat.eq_of_beq_eq_true hm
     subst this;rw[nN (x:=fM (t1.lvl+1) (.ext m)) (show b7.b0 (t1.lvl+1) (.ext m)=false from rfl) (show b7.c9 m (.ext m)=true from hm)]at lI
     have mq:=cy _ (zd8 fD oK lI)
     refine lH _ st mq (au.trans ?_)
     rw[AP];exact Ez (J:=⟨I.ch.l,I.ch.h,I.ch.n,I.J.ps⟩) aY bN (Nt rfl) (g:=S.g) va
   |_=>exact ae.elim
 ·cases Nu:t2.xF cur with
  |none=>rw[Nu]at wb;cases wb
  |some dP=>
   rw[Nu]at wb;simp only[Bool.and_eq_true]at wb;obtain⟨rv,ph⟩:=wb;obtain⟨s1,bo,s2⟩:=Us (M:=M) (e:=bw (bg.put e kx ⟨.int .i64,(Z.toNat:Int)⟩) (cx S I.J.ps) v) Nu
   have xJ:=hf (I.E S) (bw (bg.put e kx ⟨.int .i64,(Z.toNat:Int)⟩) (cx S I.J.ps) v) zgP (zgQ _ v) (by rw[Uw];exact s1)
   have mF:(I.E S).den G N B (bw (bg.put e kx ⟨.int .i64,(Z.toNat:Int)⟩) (cx S I.J.ps) v)=(I.H S).den G N B (bw (bg.put e kx ⟨.int .i64,(Z.toNat:Int)⟩) (cx S I.J.ps) v):=by
    rw[E4,xH,ff,ff]
    have aa:I.y.den G (bw (bg.put e kx ⟨.int .i64,(Z.toNat:Int)⟩) (cx S I.J.ps) v)= .aw (.v (.int .i64 Z)):=by
     rw[jw Nl,←lD Nl,Uy _ (xI _ v)]
    have ae:(ab.aQ (.int .i64) kx).den G (bw (bg.put e kx ⟨.int .i64,(Z.toNat:Int)⟩) (cx S I.J.ps) v)= .aw (.v (.int .i64 Z)):=by
     simp only[ab.den,Np,cI,fJ,j5];rw[Int.toNat_of_nonneg xa]
    rw[aa,ae];rfl
   rw[mF]at xJ;refine b6.mono xJ fun ex st ⟨x,aZ,aE,aa,ae,au,aW,bN,c5,eD⟩=>?_
   rw[Uw,s2]at aa;cases aa;rw[zgO]at c5
   cases ex with
   |exit m=>
    have ae:cur=m:=ae
    subst ae;refine lH v st (cy _ fD) (au.trans ?_)
    have hle:=Ez (G:=G) (N:=N) (B:=B) (J:=⟨I.ch.l,I.ch.h,I.ch.n,I.J.ps⟩) aY bN rv (g:=S.g) (b3.trans (xI _ v) c5 (by omega):b3 S.k e bo)
    refine hle.trans ?_
    have dt:b3 kx (fT e (fun r p=>⟨r,(p.dp dP).get bo r⟩) I.J.ps) (bw e (cx S I.J.ps) v):=fun i hi=>by
     rcases Nat.lt_or_ge i S.k with bR|h4
     ·rw[Au aY i bR,s4 v i bR]
     ·obtain⟨r,p,ak⟩:=zgJ aY h4 (by omega)
      rw[Mt aY ak,Ut ph ak]
      have oE:=(Ty aY ak).2.2
      have ah:(ab.aQ r i).get bo r=(Env.at bo i).aJ r:=by
       cases r<;>first|(simp only[ab.get,ab.aC,ab.fu,ab.dyn,cI];done)|cases oE
      rw[ah,c5 i hi,←zgM Z.toNat v i hi]
      have vc:=Um (S:=S) (e:=e) (v:=v) aY ak
      generalize Env.at (bw e (cx S I.J.ps) v) i=d at vc⊢;obtain⟨eV,iP⟩:=d;simp only at vc;subst vc;rw[cI]
    have M4:=E6 ⟨fo I.ch.l,I.ch.h,I.ch.n,kx,S.g⟩ rfl
    have PU:=k2 (G:=G) (N:=N) (B:=B) (S:=⟨fo I.ch.l,I.ch.h,I.ch.n,kx,S.g⟩) dt M4
    rw[PU];exact cu.refl _
   |_=>exact ae.elim
end
end Go.aO
namespace Go.aO
open Go
def s5(J ch:gp)(a1 cur:Nat):List (b7 × aq)→Bool
 |[]=>true
 |(.cp,aZ)::r=>jA (mo J (Nat.max aZ.n J.n)) a1 aZ&&s5 J ch a1 cur r
 |(.ext m,aZ)::r=>(match Nat.beq m cur with
  |true=>jA ch a1 aZ
  |false=>true)&&s5 J ch a1 cur r
 |_::r=>s5 J ch a1 cur r
def Uz(B cur:Nat)(S:aq)(J ch:gp)(t1:aD):Bool:=
 (ig S.k J.ps&&(ry (S.k+J.ps.length) J.l&&eI (S.k+J.ps.length) J.h))&&((jA (mo J (Nat.max S.n J.n)) S.k S&&(u6 J.n J.l&&nU J.n J.h))&&(Nat.ble B J.n&&(s5 J ⟨ch.l,ch.h,ch.n,J.ps⟩ S.k cur t1.ends&&(ry (S.k+J.ps.length) ch.l&&eI (S.k+J.ps.length) ch.h))))
def UA(B cur:Nat)(S:aq)(J ch:gp)(t1:aD):aD:=
 match Uz B cur S J ch t1 with
 |true=>.ep (t1.lvl+1) cur (cx S J.ps) (t1.rel (fM (t1.lvl+1))) (.cR (.ext cur) ⟨fo ch.l,ch.h,ch.n,S.k+J.ps.length,S.g⟩)
 |false=>.bad (xD t1.m7 61)
def AU(B:Nat)(f:aq→aD)(cur:Nat)(S:aq)(J ch:gp):aD:=UA B cur S J ch (f (J.S S.k S.g))
def AV(cur:Nat):List (b7 × aq)→List aq × List aq
 |[]=>([],[])
 |(.cp,S)::r=>match AV cur r with
  |(a,b)=>(S::a,b)
 |(.ext m,S)::r=>match AV cur r with
  |(a,b)=>match Nat.beq m cur with
   |true=>(a,S::b)
   |false=>(a,b)
 |_::r=>AV cur r
def E7(S:aq):Nat→Nat→List (Nat × ab)
 |0,_=>[]
 |n+1,i=>match S.at i with
  | .top=>E7 S n (i+1)
  |x=>(i,x)::E7 S n (i+1)
def zgR(N a1 cur:Nat)(S:aq)(t:aD):gp:=
 match AV cur t.ends with
 |(a,b)=>mo (Av N a1 S (a++b)) S.n
def UB:fN→fN→Bool
 |[],[]=>true
 |(i,r,p)::l,(j,q,u)::m=>(Nat.beq i j&&hO r q)&&(nS p u&&UB l m)
 |_,_=>false
def AW{α:Type}:List α→Nat
 |[]=>0
 |_::r=>Nat.succ (AW r)
def zgS(J K:gp):Bool:=UB J.ps K.ps&&(Nat.beq (AW J.l) (AW K.l)&&Nat.beq (AW J.h) (AW K.h))
def Nv(N:Nat)(f:aq→aD)(cur:Nat)(S:aq):Nat→gp→aD→gp × aD
 |0,J,t=>(J,t)
 |n+1,J,t=>match zgR N S.k cur S t with
  |K=>match zgS J K with
   |true=>(K,t)
   |false=>Nv N f cur S n K (f (K.S S.k S.g))
def Nw(j:Nat):List (Nat × bQ)→Option bQ
 |[]=>none
 |(i,x)::r=>match Nat.beq i j with
  |true=>some x
  |false=>Nw j r
inductive Nx where
 |dp (y:ab)
 |ex (x:bQ)
 |none
def zgT(a1:Nat)(ds:List (Nat × bQ))(y:ab):Nx:=
 match y.lt a1 with
 |true=>.dp y
 |false=>match y with
  | .aQ (.int .i64) j=>match Nw j ds with
   |some (.f1 .nL x)=>match x.lt a1 with
    |true=>.ex (.f1 .nL x)
    |false=>.none
   |some (.f1 (.iz c) x)=>match x.lt a1 with
    |true=>.ex (.f1 (.iz c) x)
    |false=>.none
   |_=>.none
  |_=>.none
def UC(a1 cur i:Nat):aD→List (Nat × bQ)→Nx
 | .lt j x t,ds=>UC a1 cur i t ((j,x)::ds)
 | .it (.aQ .bool g) _ b,ds=>match Nw g ds with
  |some (.f2 (.oV .lss .i64) (.aQ (.int .i64) zx) y)=>match Nat.beq zx i with
   |true=>match b.xF cur with
    |some _=>zgT a1 ds y
    |none=>.none
   |false=>.none
  |_=>.none
 |_,_=>.none
def UD(i s:Nat):List aq→Bool
 |[]=>true
 |S::r=>E0 i s S&&UD i s r
def zgU(x:ab):Bool:=eJ x (.cs (.int .i64 0))
def E8(S:aq)(cur:Nat)(t:aD)(E9:List aq):fN→Option (Nat × Nx)
 |[]=>none
 |(i,.int .i64,.slot s [])::l=>match zgU (S.at s)&&UD i s E9 with
  |true=>match UC S.k cur i t []with
   | .none=>E8 S cur t E9 l
   |b=>some (s,b)
  |false=>E8 S cur t E9 l
 |_::l=>E8 S cur t E9 l
def UE(s:Nat):List aq→List aq
 |[]=>[]
 |S::r=>S.put (some s) .top::UE s r
def Ny(N a1:Nat)(S:aq)(s:Nat)(y:ab)(a b:List aq):m8:=
 match mo (Av N a1 (S.put (some s) .top) (UE s (a++b))) S.n with
 |J=>⟨J,mo J (EB S.n b),s,y⟩
def Fa(N:Nat)(f:aq→aD):Nat→aq→aD
 |0,_=>.bad 63
 |n+1,S=>iN N S (f S) (Fa N f n)
def zgV(y:ab):Option Nat:=
 match y with
 | .cs (.int .i64 (.ofNat n))=>match Nat.ble n 16 with
  |true=>some (n+1)
  |false=>none
 |_=>none
def aD.pk:aD→Bool
 | .cR _ _=>false
 | .lt _ _ t=>t.pk
 | .eH _ t=>t.pk
 | .it _ a b=>a.pk||b.pk
 | .dE _ a _ k=>a.pk||k.pk
 | .dW _ _ _ _ _ a k=>a.pk||k.pk
 | .ep _ _ _ a k=>a.pk||k.pk
 | .bad _=>true
def UF(t:aD)(u:Unit→aD):aD:=
 match t.pk with
 |true=>u ()
 |false=>t
def UG(N B:Nat)(f:aq→aD)(cur:Nat)(S:aq):gp × aD→aD
 |(J,t)=>match AV cur t.ends with
  |(a,b)=>match E8 S cur t a J.ps with
   |some (s,.dp y)=>match zgV y with
    |some n=>UF (s0 N B f cur S (Ny N S.k S s y a b)) fun _=>Fa N f n S
    |none=>s0 N B f cur S (Ny N S.k S s y a b)
   |some (s,.ex x)=>match gS S.k [x]with
    |true=>emit S.k [x] [] (s0 N B f cur (S.eT S.k [x]) (Ny N (S.k+1) S s (.aQ (.int .i64) S.k) a b))
    |false=>.bad 62
   |_=>AU B f cur S J (mo J (EB S.n b))
def Fb(x:ab):Bool:=eJ x (.cs (.slice none 0 0))
def zgW(n i:Nat)(S:aq):Option (TypeId × bJ):=
 match S.at i with
 | .aR id=>match Nat.ble n id,dj S.h id with
  |true,some (.rw t c _)=>some (t,c)
  |_,_=>none
 |_=>none
def UH(n i:Nat):List aq→Option (TypeId × bJ)
 |[]=>none
 |S::r=>match zgW n i S with
  |some x=>some x
  |none=>UH n i r
def Fc(S:aq)(a:List aq):Nat→Nat→List (Nat × TypeId × bJ)
 |0,_=>[]
 |k+1,i=>match Fb (S.at i)with
  |true=>match UH S.n i a with
   |some (t,c)=>(i,t,c)::Fc S a k (i+1)
   |none=>Fc S a k (i+1)
  |false=>Fc S a k (i+1)
def jR(N B:Nat):List (Nat × TypeId × bJ)→aq→aq
 |[],S=>S
 |(i,t,c)::r,S=>match Fb (S.at i)&&(Nat.blt i N&&Nat.ble B S.n)with
  |true=>jR N B r ⟨S.l.put i (.aR S.n),(S.n,.rw t c (.cs (.slice none 0 0)))::S.h,S.n+1,S.k,S.g⟩
  |false=>jR N B r S
def rC(N B:Nat)(f:aq→aD)(cur:Nat)(S:aq)(t:aD):aD:=
 UG N B f cur S (Nv N f cur S 6 ⟨E7 S N 0,S.h,S.n,[]⟩ t)
def aD.lJ:aD→List aq
 | .cR _ S=>[S]
 | .lt _ _ t=>t.lJ
 | .eH _ t=>t.lJ
 | .it _ a b=>a.lJ++b.lJ
 | .dE _ a _ k=>a.lJ++k.lJ
 | .dW _ _ _ _ _ a k=>a.lJ++k.lJ
 | .ep _ _ _ a k=>a.lJ++k.lJ
 | .bad _=>[]
def zgX(n id off:Nat)(S:aq):Option (TypeId × bJ):=
 match dj S.h id with
 |some (.cQ _ l)=>match e7 .top l off with
  | .aR k=>match Nat.ble n k,dj S.h k with
   |true,some (.rw t c _)=>some (t,c)
   |_,_=>none
  |_=>none
 |_=>none
def UI(n id off:Nat):List aq→Option (TypeId × bJ)
 |[]=>none
 |S::r=>match zgX n id off S with
  |some x=>some x
  |none=>UI n id off r
def Fe(S:aq)(a:List aq)(id:Nat):Nat→List ab→List (Nat × Nat × TypeId × bJ)
 |_,[]=>[]
 |off,x::r=>match Fb x with
  |true=>match UI S.n id off a with
   |some (t,c)=>(id,off,t,c)::Fe S a id (off+1) r
   |none=>Fe S a id (off+1) r
  |false=>Fe S a id (off+1) r
def xK(S:aq)(a:List aq):List (Nat × bK)→List (Nat × Nat × TypeId × bJ)
 |[]=>[]
 |(id,.cQ _ l)::r=>Fe S a id 0 l++xK S a r
 |_::r=>xK S a r
def ke(B:Nat):List (Nat × Nat × TypeId × bJ)→aq→aq
 |[],S=>S
 |(id,off,t,c)::r,S=>match dj S.h id with
  |some (.cQ bt l)=>match(match l[off]? with|some x=>Fb x|none=>false)&&Nat.ble B S.n with
   |true=>ke B r ⟨S.l,ju ((S.n,.rw t c (.cs (.slice none 0 0)))::S.h) id (.cQ bt (l.set off (.aR S.n))),S.n+1,S.k,S.g⟩
   |false=>ke B r S
  |_=>ke B r S
def UJ(N B:Nat)(f:aq→aD)(cur:Nat)(S:aq)(t:aD):aD:=
 match Fc S t.lJ N 0 with
 |[]=>match xK S t.lJ S.h with
  |[]=>rC N B f cur S t
  |q::qs=>rC N B f cur (ke B (q::qs) S) (f (ke B (q::qs) S))
 |p::r=>rC N B f cur (ke B (xK S t.lJ S.h) (jR N B (p::r) S)) (f (ke B (xK S t.lJ S.h) (jR N B (p::r) S)))
def Ff(N B:Nat)(f:aq→aD)(cur:Nat)(S:aq):aD:=UJ N B f cur S (f S)
section
variable {P:Program} {G:bd} {N B:Nat} {M:List aV}
theorem UK{J ch:gp}{a1 cur:Nat}: ∀{l:List (b7 × aq)},s5 J ch a1 cur l=true→∀{x:b7} {aZ:aq},(x,aZ)∈l→(x= .cp→jA (mo J (Nat.max aZ.n J.n)) a1 aZ=true)∧(x= .ext cur→jA ch a1 aZ=true)
 |(y,dP)::r,h,x,aZ,hm=>by
  have bk:s5 J ch a1 cur r=true∧(y= .cp→jA (mo J (Nat.max dP.n J.n)) a1 dP=true)∧(y= .ext cur→jA ch a1 dP=true):=by
   cases y with
   |cp=>
    simp only[s5,Bool.and_eq_true]at h;exact⟨h.2,fun _=>h.1,fun e=>(by cases e)⟩
   |ext m=>
    simp only[s5,Bool.and_eq_true]at h;refine⟨h.2,fun e=>(by cases e),fun e=>?_⟩
    cases e
    have aa:=h.1
    rw[Nat.beq_refl]at aa;exact aa
   |ret=>exact⟨h,fun e=>(by cases e),fun e=>(by cases e)⟩
   |k0 m=>exact⟨h,fun e=>(by cases e),fun e=>(by cases e)⟩
  rcases List.mem_cons.1 hm with q|q
  ·cases q;exact bk.2
  ·exact UK bk.1 q
theorem zgY{c:Code}{R A:Type}{n:Nat}{b:A→Step R A}{a0:A}{hd:A→aU}{Q:Exit→aU→Prop}{dx:aU}{I:A→Prop}
    (aP:cu dx (hd a0))(hi:I a0)(he:j7 b n a0)
    (ag: ∀a,I a→(∀r,b a= .ret r→c7 b n a0= .inl r)→(∀v,b a= .cN v→c7 b n a0= .inr v)→b6 P G c (fun e st=>match e with
      | .normal=>∃bf,b a= .bn bf∧I bf∧cu st (hd bf)
      |e=>Q e st) (hd a)):b6 P G (.loop c) Q dx:=by
  refine b6.loop (ι:=Nat × A) (fun x=>hd x.2) (fun x=>(c7 b n a0=c7 b x.1 x.2∧j7 b x.1 x.2)∧I x.2) (fun x=>x.1) (n,a0) aP ⟨⟨rfl,he⟩,hi⟩ ?_
  rintro⟨k,a⟩ ⟨fD,b2⟩
  refine b6.mono (ag a b2 (fun r ad=>zej fD ad) (fun v ad=>zek fD ad)) fun e st ai=>?_
  cases e with
  |normal=>
    obtain⟨bf,aa,au,ae⟩:=ai;obtain⟨m,aW,bN⟩:=zei fD aa;exact⟨(m,bf),⟨bN,au⟩,by show m<k;omega,ae⟩
  |_=>exact ai
theorem UL{J:gp}{a1 kx:Nat}{S0 aZ:aq}{e aE:Env}{k:Nat}{g g':List cc}(ak:ig a1 J.ps=true)(l2: ∀c∈aZ.g,c.ok aE)(h:jA (mo J (Nat.max aZ.n J.n)) a1 aZ=true)(ia:u6 J.n J.l=true)(oP:nU J.n J.h=true)(hC:B≤J.n)(bZ:b3 a1 e aE):
 cu (aZ.den G N B aE) ((aq.mk (fo J.l) J.h J.n k g).den G N B (bw e (cx S0 J.ps) (cg _ (fB aZ aE (cx S0 J.ps))))):=by
 have aa:=Mu (G:=G) (N:=N) (B:=B) (J:=mo J (Nat.max aZ.n J.n)) ak l2 h (g:=g') bZ
 refine aa.le.trans ?_
 rw[AP]
 refine cu.low (m:=Nat.max aZ.n J.n) ?_ ?_ hC
 ·exact Nj (n:=J.n) (l:=fo J.l) (fun i x hx=>Nk ia (o9 hx)) N 0
 ·exact xu oP
theorem UM{c:Code}{f:aq→aD}(hf:iO P G N B M c f){cur:Nat}{S:aq}{J ch:gp}{e:Env}(ad:S.cz)(en:S.cA e)(ai:(AU B f cur S J ch).safe M e):b6 P G (.loop c) (h1 G N B M (AU B f cur S J ch) e S.k) (S.den G N B e):=by
 unfold AU UA at ai⊢
 split at ai
 rotate_left
 ·exact ai.elim
 rename_i s3
 generalize AT:f (J.S S.k S.g)=t1 at ai s3⊢
 simp only[Uz,Bool.and_eq_true]at s3
 obtain⟨⟨aY,bW,cK⟩,⟨jF,v8,wa⟩,pO,sh,CQ,CR⟩:=s3
 have pO:=Nat.le_of_ble_eq_true pO
 have Nn:t1.lvl<t1.lvl+1:=Nat.lt_succ_self _
 have nT:=Li Nn
 obtain⟨⟨Inv,No,E5⟩,Nz,aj⟩:=ai
 generalize rB:S.k+J.ps.length=kx at*
 have hle:S.k≤kx:=by rw[←rB];exact Nat.le_add_right _ _
 have cy: ∀L,c7 (fun(v:b4 (cx S J.ps))=>dg M (t1.lvl+1) cur (cx S J.ps) (t1.rel (fM (t1.lvl+1))) (bw e (cx S J.ps) v) v) dG (cg _ (dI e (cx S J.ps)))=L→
  run M (aD.ep (t1.lvl+1) cur (cx S J.ps) (t1.rel (fM (t1.lvl+1))) (.cR (.ext cur) ⟨fo ch.l,ch.h,ch.n,kx,S.g⟩)) e=Sum.elim (fun r=>r) (fun v=>some (.ext cur,⟨fo ch.l,ch.h,ch.n,kx,S.g⟩,bw e (cx S J.ps) v)) L:=fun L fD=>by
  rw[Es,fD];rfl
 have zgZ:j7 (fun(v:b4 (cx S J.ps))=>dg M (t1.lvl+1) cur (cx S J.ps) (t1.rel (fM (t1.lvl+1))) (bw e (cx S J.ps) v) v) dG (cg _ (dI e (cx S J.ps))):=
  (Lg (fun _=>()) (fun v=>iX _ _ _ _ _ v) _ _).1 Nz
 generalize zgL:aD.ep (t1.lvl+1) cur (cx S J.ps) (t1.rel (fM (t1.lvl+1))) (.cR (.ext cur) ⟨fo ch.l,ch.h,ch.n,kx,S.g⟩)=qm at cy
 have s4: ∀(v:b4 (cx S J.ps)),b3 S.k e (bw e (cx S J.ps) v):=fun v j af=>xG aY (.inl af)
 have Nq:(J.S S.k S.g).cz:=⟨fun i x hx=>by show x.lt (S.k+J.ps.length)=true;rw[rB];exact sS bW (o9 hx),by show eI (S.k+J.ps.length) J.h=true;rw[rB];exact cK,by show fm (S.k+J.ps.length) S.g=true;rw[rB];exact nP hle ad.g⟩
 have Nr: ∀(v:b4 (cx S J.ps)),(J.S S.k S.g).cA (bw e (cx S J.ps) v):=fun v=>ic (s4 v) ad.g en
 have E6: ∀dn:aq,dn=⟨fo ch.l,ch.h,ch.n,kx,S.g⟩→dn.cz:=fun dn h=>by
  subst h;exact⟨fun i x hx=>sS CQ (o9 hx),CR,nP hle ad.g⟩
 refine zgY (n:=dG) (b:=fun(v:b4 (cx S J.ps))=>dg M (t1.lvl+1) cur (cx S J.ps) (t1.rel (fM (t1.lvl+1))) (bw e (cx S J.ps) v) v) (a0:=cg _ (dI e (cx S J.ps)))
  (hd:=fun v=>(J.S S.k S.g).den G N B (bw e (cx S J.ps) v)) (I:=Inv) ?_ No zgZ (fun v b2 zg0 zg1=>?_)
 ·rw[Ni]
  exact UL (kx:=kx) (g':=S.g) aY en jF v8 wa pO (b3.refl _ _)
 ·obtain⟨da,dm⟩:=E5 v b2
  have xJ:=hf (J.S S.k S.g) (bw e (cx S J.ps) v) Nq (Nr v) (by rw[AT];exact(kN nT).1 da)
  refine b6.mono xJ fun ex st ⟨x,aZ,aE,aa,ae,au,aW,bN,c5,eD⟩=>?_
  rw[AT]at aa
  have zg2:(J.S S.k S.g).k=kx:=rB
  rw[zg2]at c5 eD;obtain⟨Ns,Nt⟩:=UK sh (nW aa)
  have oZ:run M (t1.rel (fM (t1.lvl+1))) (bw e (cx S J.ps) v)=some (fM (t1.lvl+1) x,aZ,aE):=by rw[vW nT,aa];rfl
  have lI:dg M (t1.lvl+1) cur (cx S J.ps) (t1.rel (fM (t1.lvl+1))) (bw e (cx S J.ps) v) v=eg (t1.lvl+1) cur (cx S J.ps) (fun x S e=>some (x,S,e)) (fM (t1.lvl+1) x) aZ aE:=by
   unfold dg;rw[oZ]
  have va:b3 S.k e aE:=b3.trans (s4 v) c5 hle
  have out: ∀ex,AB x ex→fM (t1.lvl+1) x=x→x.b0 (t1.lvl+1)=false→x.c9 cur=false→h1 G N B M qm e S.k ex st:=fun ex ae hm af hx=>by
   rw[hm,ka af hx]at lI;exact⟨x,aZ,aE,cy _ (zg0 _ lI),ae,au,aW,bN,va,Nat.le_trans hle eD⟩
  cases x with
  |k0 m=>cases ex<;>exact ae.elim
  |ret=>cases ex<;>first|exact ae.elim|exact out _ ae rfl rfl rfl
  |cp=>
   cases ex with
   |normal=>
    rw[nM (x:=fM (t1.lvl+1) .cp) (show b7.b0 (t1.lvl+1) (.k0 (t1.lvl+1))=true from Nat.beq_refl _)]at lI
    exact⟨_,lI,dm _ (by rw[iX,lI];rfl),au.trans (UL (kx:=kx) (g':=S.g) aY bN (Ns rfl) v8 wa pO va)⟩
   |_=>exact ae.elim
  |ext m=>
   cases ex with
   |exit vb=>
    have ae:m=vb:=ae
    subst ae
    cases hm:Nat.beq m cur with
    |false=>exact out _ rfl rfl rfl hm
    |true=>
     have:=Nat.eq_of_beq_eq_true hm
     subst this;rw[nN (x:=fM (t1.lvl+1) (.ext m)) (show b7.b0 (t1.lvl+1) (.ext m)=false from rfl) (show b7.c9 m (.ext m)=true from hm)]at lI
     refine⟨.ext m,_,_,cy _ (zg1 _ lI),rfl,au.trans ?_,E6 _ rfl,ic (s4 _) ad.g en,s4 _,hle⟩
     rw[AP];exact Ez (J:=⟨ch.l,ch.h,ch.n,J.ps⟩) aY bN (Nt rfl) (g:=S.g) va
   |_=>exact ae.elim
theorem UN{c:Code}{f:aq→aD}(hf:iO P G N B M c f){Q:Exit→aU→Prop}: ∀(n:Nat) {S:aq} {e:Env},S.cz→S.cA e→(Fa N f n S).safe M e→(∀ex st,h1 G N B M (Fa N f n S) e S.k ex st→Q ex st)→wH P G c Q n (S.den G N B e)
 |0,_,_,_,_,ai,_=>ai.elim
 |n+1,S,e,ad,en,ai,ek=>by
  obtain⟨t1,t2,t3⟩:=ED (G:=G) (B:=B) ad en ai;refine wH.rd n (b6.mono (hf S e ad en t1) fun ex st ak=>?_)
  obtain⟨x,dn,aB,aa,ae,au,aW,bN,c5,eD⟩:=ak
  have other:x≠ .cp→Q ex st:=fun cb=>ek ex st ⟨x,dn,aB,t2 x dn aB aa cb (TW ae),ae,au,aW,bN,c5,eD⟩
  cases x with
  |cp=>
   cases ex with
   |normal=>
    obtain⟨dP,bo,s1,s2,pc,pd,pe,pf,pg⟩:=t3 dn aB aa aW bN c5 eD
    have:=UN hf n s2 pc pf (Q:=Q) fun ex st ak=>ek ex st (ak.sub pg pd pe)
    exact fun E a w ag=>this E a w (s1 E G a w (au E G a w ag))
   |_=>exact ae.elim
  |ret=>cases ex<;>first|exact ae.elim|exact other (by simp)
  |ext n=>cases ex<;>first|exact ae.elim|exact other (by simp)
  |k0 n=>cases ex<;>exact ae.elim
theorem xL{c:Code}{Q:Exit→aU→Prop}{e:Env}: ∀(l:List (Nat × TypeId × bJ)) {S:aq},S.cz→S.cA e→(jR N B l S).cz∧(jR N B l S).cA e∧(jR N B l S).k=S.k∧(b6 P G c Q ((jR N B l S).den G N B e)→b6 P G c Q (S.den G N B e))
 |[],_,ad,hf=>⟨ad,hf,rfl,fun h=>h⟩
 |(i,t,d)::r,S,ad,hf=>by
  unfold jR
  split
  ·rename_i hc
   simp only[Bool.and_eq_true]at hc;obtain⟨aY,bW,cK⟩:=hc
   have ga:(⟨S.l.put i (.aR S.n),(S.n,.rw t d (.cs (.slice none 0 0)))::S.h,S.n+1,S.k,S.g⟩:aq).cz:=by
    refine⟨fun j x hx=>?_,?_,ad.g⟩
    ·simp only[bg.hV]at hx
     split at hx
     ·cases hx;rfl
     ·exact ad.l j x hx
    ·show(bK.lt S.k (.rw t d (.cs (.slice none 0 0)))&&eI S.k S.h)=true
     rw[ad.h];rfl
   obtain⟨aa,ae,au,aW⟩:=xL r ga hf;refine⟨aa,ae,au,fun h=>?_⟩
   refine b6.KR i t (b5 d) ?_ (by rw[uI,if_pos (fb bW),e4 aY];rfl) cK
   have:=aW h
   have hd:(⟨S.l.put i (.aR S.n),(S.n,.rw t d (.cs (.slice none 0 0)))::S.h,S.n+1,S.k,S.g⟩:aq).den G N B e={S.den G N B e with c0:=(S.den G N B e).c0.set i (.aR (S.den G N B e).next),heap:=((S.den G N B e).next,.row false t (b5 d) [])::(S.den G N B e).heap,next:=(S.den G N B e).next+1}:=by
    simp only[aq.den,Lo,cH,ab.den,bK.den,ab.aC,ab.fu,cI];rfl
   rw[hd]at this;exact this
  ·exact xL r ad hf
theorem AX{c:Code}{Q:Exit→aU→Prop}{e:Env}: ∀(l:List (Nat × Nat × TypeId × bJ)) {S:aq},S.cz→S.cA e→(ke B l S).cz∧(ke B l S).cA e∧(ke B l S).k=S.k∧(b6 P G c Q ((ke B l S).den G N B e)→b6 P G c Q (S.den G N B e))
 |[],_,ad,hf=>⟨ad,hf,rfl,fun h=>h⟩
 |(id,off,t,d)::r,S,ad,hf=>by
  unfold ke
  split
  ·rename_i bt l ah
   split
   ·rename_i hc
    simp only[Bool.and_eq_true]at hc;obtain⟨aY,cK⟩:=hc
    have ar:=u5 ad.h ah
    have ga:(⟨S.l,ju ((S.n,.rw t d (.cs (.slice none 0 0)))::S.h) id (.cQ bt (l.set off (.aR S.n))),S.n+1,S.k,S.g⟩:aq).cz:=by
     refine⟨ad.l,EN (o:=.cQ bt (l.set off (.aR S.n))) (MS (x:=.aR S.n) rfl ar) ?_,ad.g⟩
     show(bK.lt S.k (.rw t d (.cs (.slice none 0 0)))&&eI S.k S.h)=true;rw[ad.h];rfl
    obtain⟨aa,ae,au,aW⟩:=AX r ga hf;refine⟨aa,ae,au,fun h=>?_⟩
    have:=aW h
    have bh:aG (S.den G N B e).heap id=some (.box bt (ab.bX G e l)):=by simp only[aq.den,eh,ah,Option.map_some,bK.den]
    have aj:(ab.bX G e l)[off]? =some (.aw (.v (.slice none 0 0))):=by
     rw[fa,List.getElem?_map]
     cases hx:l[off]? with
     |none=>rw[hx]at aY;cases aY
     |some x=>
      rw[hx]at aY
      have:=e4 aY
      subst this;rfl
    refine b6.le (cu.zep (s:=S.den G N B e) id off t (b5 d) bh aj (Nat.le_of_ble_eq_true cK) rfl) ?_
    have hd:(⟨S.l,ju ((S.n,.rw t d (.cs (.slice none 0 0)))::S.h) id (.cQ bt (l.set off (.aR S.n))),S.n+1,S.k,S.g⟩:aq).den G N B e={S.den G N B e with heap:=eQ (((S.den G N B e).next,.row false t (b5 d) [])::(S.den G N B e).heap) id (.box bt ((ab.bX G e l).set off (.aR (S.den G N B e).next))),next:=(S.den G N B e).next+1}:=by
     simp only[aq.den,sI,cH,bK.den,MT,ab.den,ab.aC,ab.fu,cI];rfl
    rw[hd]at this;exact this
   ·exact AX r ad hf
  ·exact AX r ad hf
theorem NA{c:Code}{f:aq→aD}{cur:Nat}{S:aq}{e:Env}{t:aD}(hf:iO P G N B M c f)(ad:S.cz)(en:S.cA e)(ai:(rC N B f cur S t).safe M e):b6 P G (.loop c) (h1 G N B M (rC N B f cur S t) e S.k) (S.den G N B e):=by
 unfold rC at ai⊢
 generalize Nv N f cur S 6 ⟨E7 S N 0,S.h,S.n,[]⟩ t=zg3 at ai⊢
 obtain⟨J,t⟩:=zg3
 simp only[UG]at ai⊢
 split at ai
 ·split at ai
  ·unfold UF at ai⊢
   split at ai
   ·exact b6.rounds _ (UN hf _ ad en ai fun _ _ h=>h)
   ·exact AS hf ad en ai
  ·exact AS hf ad en ai
 ·rename_i s x _
  split at ai
  ·rename_i hx
   obtain⟨_,gg⟩:=lF ai;obtain⟨cf,a2,a3⟩:=qj (M:=M) (G:=G) (N:=N) (B:=B) ad en hx
   have:=AS hf cf a2 gg
   rw[a3]at this;exact b6.mono this fun ex st ak=>ak.sub (by rw[k4]) (jy (Nat.le_refl _)) (Nat.le_add_right _ _)
  ·exact ai.elim
 ·exact UM hf ad en ai
theorem UO:EW P G N B M (Ff N B):=by
 intro c f cur hf S e ad en ai
 unfold Ff UJ at ai⊢
 generalize f S=t at ai⊢
 split at ai
 ·split at ai
  ·exact NA hf ad en ai
  ·rename_i q qs _
   obtain⟨aa,ae,au,aW⟩:=AX (P:=P) (G:=G) (N:=N) (B:=B) (c:=.loop c) (Q:=h1 G N B M (rC N B f cur (ke B (q::qs) S) (f (ke B (q::qs) S))) e S.k) (e:=e) (q::qs) ad en;refine aW ?_
   have:=NA hf aa ae ai
   rw[au]at this;exact this
 ·rename_i p r _
  generalize xK S t.lJ S.h=cY at ai⊢;obtain⟨g1,g2,g3,g4⟩:=xL (P:=P) (G:=G) (N:=N) (B:=B) (c:=.loop c) (Q:=h1 G N B M (rC N B f cur (ke B cY (jR N B (p::r) S)) (f (ke B cY (jR N B (p::r) S)))) e S.k) (e:=e) (p::r) ad en;obtain⟨aa,ae,au,aW⟩:=AX (P:=P) (G:=G) (N:=N) (B:=B) (c:=.loop c) (Q:=h1 G N B M (rC N B f cur (ke B cY (jR N B (p::r) S)) (f (ke B cY (jR N B (p::r) S)))) e S.k) (e:=e) cY g1 g2;refine g4 (aW ?_)
  have:=NA hf aa ae ai
  rw[au,g3]at this;exact this
end
end Go.aO
namespace Go.aO
open Go
def NB(ops:Array Oper)(m:List Bool)(i:Nat)(D:List Nat)(j:Nat):Bool:=
 !(m.toArray.getD j true)&&(!(Nat.beq j i)&&match ops[j]? with
  |some o=>o.after.any fun e=>Region.binds .any e&&(e.on==i||D.contains e.on)
  |none=>false)
def Fg(ops:Array Oper)(m:List Bool)(i:Nat):List Nat→List Nat→List Nat
 |[],D=>D
 |j::r,D=>match NB ops m i D j with
  |true=>Fg ops m i r (j::D)
  |false=>Fg ops m i r D
def Fh(ops:Array Oper)(wr:List Bool)(m:List Bool)(i:Nat):Bool:=
 match Fg ops m i (List.range ops.size) []with
 |D=>!(wr.getD i false)&&(D.all (NB ops m i D)&&(List.range ops.size).all fun j=>!(wr.getD j false)||(m.toArray.getD j true||D.contains j))
section
variable {P:Program} {ops:Array Oper} {Q:Exit→Act→World→Prop} {S:World→Prop} {wr:Nat→Bool}
theorem zg4{i:Nat}{oi:Oper}{v:Value}(hi:ops[i]? =some oi)(sx:wr i=false)(kY: ∀(j:Nat) (o:Oper) cs b,ops[j]? =some o→o.op≠ .select cs b)
 (ek: ∀c a w,Q (.panic c) (a.put oi.dst v) w→Q (.panic c) a w)(D:Nat→Prop):
 ∀(fuel:Nat) (listed:Array Bool) (a:Act) (w:World),
  (∀j e9,ops[j]? =some e9→j≠i→listed.getD j true=false→(∀e∈e9.after,Region.binds .any e=true→e.on≠i)→oi.apart ops e9=true)→
  (∀j e9,ops[j]? =some e9→wr j=true→listed.getD j true=false→D j)→
  (∀j,D j→listed.getD j true=false∧j≠i∧∃e9,ops[j]? =some e9∧∃e∈e9.after,Region.binds .any e=true∧(e.on=i∨D e.on))→
  i∈Region.ready .any ops listed→YieldsIf P ops S oi v a→S w→
  kX P ops Q S wr fuel (listed.setIfInBounds i true) (a.put oi.dst v) w→kX P ops Q S wr (fuel+1) listed a w:=by
 intro fuel
 induction fuel with
 |zero=>
  intro listed a w _ _ _ ag ay hS H;refine⟨fun h=>(by rw[h]at ag;cases ag),fun j af=>?_⟩
  by_cases gx:j=i
  ·subst gx;exact ay.wpOp hi hS (.inr ⟨sx,hS,H⟩)
  ·have:=ready_mono af gx
   rw[H.1]at this
   cases this
 |succ fuel a7=>
  intro listed a w sy zR jC ag ay hS H;refine⟨fun h=>(by rw[h]at ag;cases ag),fun j af=>?_⟩
  by_cases gx:j=i
  ·subst gx;exact ay.wpOp hi hS (.inr ⟨sx,hS,H⟩)
  ·have aa:=H.2 j (ready_mono af gx)
   obtain⟨p4,e9,iD,ec⟩:=mem_ready.1 af
   have un: ∀k,listed.getD k true=false→∀e∈e9.after,Region.binds .any e=true→e.on≠k:=fun k aj e he ad heq=>by
    have aa:=ec e he ad
    rw[heq]at aa
    rcases Nat.lt_or_ge k listed.size with h'|h'
    ·simp[h']at aj aa;rw[aj]at aa;cases aa
    ·simp[Array.getElem?_eq_none h']at aa
   have uz: ∀e∈e9.after,Region.binds .any e=true→e.on≠i:=un i (mem_ready.1 ag).1
   have UP: ¬D j:=fun hd=>by
    obtain⟨_,_,zjU,UQ,e,he,ad,bk⟩:=jC j hd;rw[iD]at UQ
    cases UQ
    rcases bk with bk|bk
    ·exact uz e he ad bk
    ·exact un e.on (jC _ bk).1 e he ad rfl
   have uA:wr j=false:=by
    cases hw:wr j with
    |false=>rfl
    |true=>exact absurd (zR j e9 iD hw p4) UP
   have aa:=wpOp_mono (K':=fun bf w'=>S w'∧kX P ops Q S wr fuel ((listed.setIfInBounds i true).setIfInBounds j true) bf w') (fun bf w' h'=>by
    rcases h' with⟨h',_⟩|⟨_,h'⟩
    ·rw[uA]at h';cases h'
    ·exact h') aa
   have ae:=wpOp_putIf iD (sy j e9 iD gx p4 uz) (fun cs b=>kY i oi cs b hi) (fun cs b=>kY j e9 cs b iD) ek ay aa
   have low: ∀k,(listed.setIfInBounds j true).getD k true=false→listed.getD k true=false:=fun k hN=>by
    by_cases p5:j=k
    ·subst p5;exact p4
    ·rw[getD_set_ne true p5]at hN;exact hN
   have wM: ∀k ok,ops[k]? =some ok→k≠i→(listed.setIfInBounds j true).getD k true=false→
    (∀e∈ok.after,Region.binds .any e=true→e.on≠i)→oi.apart ops ok=true:=fun k ok aj bH hN gk=>sy k ok aj bH (low k hN) gk
   have zg5: ∀k,D k→(listed.setIfInBounds j true).getD k true=false∧k≠i∧∃ok,ops[k]? =some ok∧∃e∈ok.after,Region.binds .any e=true∧(e.on=i∨D e.on):=fun k aj=>by
    obtain⟨g1,g2⟩:=jC k aj;refine⟨?_,g2⟩
    have p5:j≠k:=fun bk=>UP (by rw[bk];exact aj)
    rw[getD_set_ne true p5];exact g1
   refine wpOp_mono (fun bf w' au=>.inr ⟨uA,au.2.1,a7 (listed.setIfInBounds j true) bf w' wM (fun k ok aj hw hN=>zR k ok aj hw (low k hN)) zg5 (ready_mono ag (Ne.symm gx)) au.1 au.2.1 ?_⟩) ae
   rw[Array.setIfInBounds_comm _ _ gx];exact au.2.2
theorem zg6{i:Nat}{oi:Oper}{v:Value}(hi:ops[i]? =some oi)(sx:wr i=false)(kY: ∀(j:Nat) (o:Oper) cs b,ops[j]? =some o→o.op≠ .select cs b)
 (ek: ∀c a w,Q (.panic c) (a.put oi.dst v) w→Q (.panic c) a w):
 ∀(fuel:Nat) (listed:Array Bool) (a:Act) (w:World),
  (∀j e9,ops[j]? =some e9→j≠i→listed.getD j true=false→(∀e∈e9.after,Region.binds .any e=true→e.on≠i)→oi.apart ops e9=true)→
  i∈Region.ready .any ops listed→Yields P ops oi v a→S w→
  kX P ops Q S wr fuel (listed.setIfInBounds i true) (a.put oi.dst v) w→kX P ops Q S wr (fuel+1) listed a w:=by
 intro fuel
 induction fuel with
 |zero=>
  intro listed a w _ ag ay hS H;refine⟨fun h=>(by rw[h]at ag;cases ag),fun j af=>?_⟩
  by_cases gx:j=i
  ·subst gx;exact ay.yieldsIf.wpOp hi hS (.inr ⟨sx,hS,H⟩)
  ·have:=ready_mono af gx
   rw[H.1]at this
   cases this
 |succ fuel a7=>
  intro listed a w sy ag ay hS H;refine⟨fun h=>(by rw[h]at ag;cases ag),fun j af=>?_⟩
  by_cases gx:j=i
  ·subst gx;exact ay.yieldsIf.wpOp hi hS (.inr ⟨sx,hS,H⟩)
  ·have aa:=H.2 j (ready_mono af gx)
   obtain⟨p4,e9,iD,ec⟩:=mem_ready.1 af
   have uz: ∀e∈e9.after,Region.binds .any e=true→e.on≠i:=fun e he ad heq=>by
    have aa:=ec e he ad
    have aP:=(mem_ready.1 ag).1
    rw[heq]at aa
    rcases Nat.lt_or_ge i listed.size with h'|h'
    ·simp[h']at aP aa;rw[aP]at aa;cases aa
    ·simp[Array.getElem?_eq_none h']at aa
   have ae:=wpOp_put iD (sy j e9 iD gx p4 uz) (fun cs b=>kY i oi cs b hi) (fun cs b=>kY j e9 cs b iD) ek ay aa
   have low: ∀k,(listed.setIfInBounds j true).getD k true=false→listed.getD k true=false:=fun k hN=>by
    by_cases p5:j=k
    ·subst p5;exact p4
    ·rw[getD_set_ne true p5]at hN;exact hN
   have wM: ∀k ok,ops[k]? =some ok→k≠i→(listed.setIfInBounds j true).getD k true=false→
    (∀e∈ok.after,Region.binds .any e=true→e.on≠i)→oi.apart ops ok=true:=fun k ok aj bH hN gk=>sy k ok aj bH (low k hN) gk
   refine wpOp_mono (fun bf w' ⟨ml,au⟩=>?_) ae
   rcases au with⟨hw,au⟩|⟨hw,UR,au⟩
   ·refine .inl ⟨hw,wpAny_first hi kY ek fuel _ bf w' wM (ready_mono ag (Ne.symm gx)) ml ?_⟩
    rw[Array.setIfInBounds_comm _ _ gx];exact au
   ·refine .inr ⟨hw,UR,a7 (listed.setIfInBounds j true) bf w' wM (ready_mono ag (Ne.symm gx)) ml UR ?_⟩
    rw[Array.setIfInBounds_comm _ _ gx];exact au
end
section
variable {P:Program} {G:bd} {Q:Exit→aU→Prop} {L:List Oper} {wr:List Bool}
theorem fK.zg7{fuel:Nat}{m:List Bool}{s bC:aU}(i:Nat){o:Oper}(ao:L[i]? =some o)(ak:jO P G L.toArray o s bC)(k:fK P G L Q wr fuel (m.set i true) bC)(ai:Region.noSelect L.toArray=true)
 (hf:Region.free .any L.toArray m.toArray i=true)(ag:(Region.ready .any L.toArray m.toArray).contains i=true)(hw:Fh L.toArray wr m i=true):fK P G L Q wr (fuel+1) m s:=by
 intro E a w dD
 obtain⟨v,ax,q0⟩:=ak E a w dD
 unfold Fh at hw
 simp only at hw
 generalize jC:Fg L.toArray m i (List.range L.toArray.size) []=D at hw
 simp only[Bool.and_eq_true]at hw
 obtain⟨aa,ae,au⟩:=hw
 refine zg4 (i:=i) (oi:=o) (v:=v) (by simpa using ao) (by simpa using aa) (Region.noSelect_spec ai) (fun c a w aN=>?_) (fun j=>D.contains j=true) fuel m.toArray a w (Region.free_spec (by simpa using ao) hf) (fun j e9 iD uA hN=>?_) (fun j af=>?_) (by simpa using ag) ax (gj.refl w) (by simpa using k E _ w q0)
 ·obtain⟨_,⟨h,_⟩,_⟩:=aN
  cases h
 ·have:=List.all_eq_true.1 au j (List.mem_range.2 (Array.getElem?_eq_some_iff.1 iD).1)
  rw[uA,hN]at this;simpa using this
 ·have hm:j∈D:=by simpa using af
  have:=List.all_eq_true.1 ae j hm
  unfold NB at this;simp only[Bool.and_eq_true,Bool.not_eq_true']at this;obtain⟨g1,g2,g3⟩:=this;refine⟨g1,fun bk=>(by rw[bk,Nat.beq_refl]at g2;cases g2),?_⟩
  cases iD:L.toArray[j]? with
  |none=>rw[iD]at g3;cases g3
  |some e9=>
   rw[iD]at g3;obtain⟨e,he,ad⟩:=Array.any_eq_true'.1 g3;simp only[Bool.and_eq_true,Bool.or_eq_true,beq_iff_eq]at ad;exact⟨e9,rfl,e,he,ad⟩
theorem fK.zg8{fuel:Nat}{m:List Bool}{s bC:aU}(i:Nat){o:Oper}(ao:L[i]? =some o)(ak:hj P G L.toArray o s bC)(k:fK P G L Q wr fuel (m.set i true) bC)(ai:Region.noSelect L.toArray=true)
 (hf:Region.free .any L.toArray m.toArray i=true)(ag:(Region.ready .any L.toArray m.toArray).contains i=true)(hw:wr.getD i false=false):fK P G L Q wr (fuel+1) m s:=by
 intro E a w dD
 obtain⟨v,ax,q0⟩:=ak E a w dD
 refine zg6 (i:=i) (oi:=o) (v:=v) (by simpa using ao) hw (Region.noSelect_spec ai) (fun c a w aN=>?_) fuel m.toArray a w (Region.free_spec (by simpa using ao) hf) (by simpa using ag) ax (gj.refl w) (by simpa using k E _ w q0)
 obtain⟨_,⟨h,_⟩,_⟩:=aN
 cases h
theorem fK.any{fuel:Nat}{m:List Bool}{s:aU}(cb:Region.ready .any L.toArray m.toArray≠[])(h: ∀i∈Region.ready .any L.toArray m.toArray,∃o,L[i]? =some o∧∃A:aU→Prop,(∀t,A t→fK P G L Q wr fuel (m.set i true) t)∧
      ∀E a w,Rel E G s a w→(Region.wanted o (yielded L.toArray a.tmps)=true∧∀(K:Act→World→Prop) (Q:Exit→Act→World→Prop),(∀t,A t→∀bf w',Rel E G t bf w'→(wr.getD i false=true∨gj w w')→K bf w')→o.wp P a w K Q)∨(wr.getD i false=false∧Region.wanted o (yielded L.toArray a.tmps)=false∧∃t,A t∧Rel E G t (a.put o.dst undef) w)):fK P G L Q wr (fuel+1) m s:=by
  intro E a w ag;refine⟨fun hn=>absurd hn cb,fun j af=>?_⟩
  obtain⟨o,ao,A,k,ai⟩:=h j af
  have eQ:m.toArray.setIfInBounds j true=(m.set j true).toArray:=by simp
  have next: ∀t,A t→∀bf w',Rel E G t bf w'→(wr.getD j false=true∨gj w w')→(wr.getD j false=true∧wpAny P .any L.toArray (lift E G (nI Q)) fuel (m.toArray.setIfInBounds j true) bf w')∨(wr.getD j false=false∧gj w w'∧kX P L.toArray (lift E G (nI Q)) (gj w) (fun i=>wr.getD i false) fuel (m.toArray.setIfInBounds j true) bf w'):=fun t aK bf w' dY aj=>by
    rw[eQ]
    cases hw:wr.getD j false with
    |true=>exact .inl ⟨rfl,(k t aK).c8 E bf w' dY⟩
    |false=>
      rcases aj with aj|aj
      · rw[hw]at aj;cases aj
      · exact .inr ⟨rfl,aj,DD (fun eW ae=>aj.trans ae) _ _ _ _ (k t aK E bf w' dY)⟩
  unfold wpOp;rw[show L.toArray[j]? =some o from by simpa using ao]
  simp only
  rcases ai E a w ag with⟨fA,au⟩|⟨hw,fA,t,aW,au⟩
  · rw[if_pos fA]
    exact .inl (au _ _ next)
  · rw[if_neg (by rw[fA];decide)]
    exact next t aW _ _ au (.inr (gj.refl w))
end
section
variable {P:Program} {G:bd} {N B:Nat} {M:List aV}
theorem df.later{E:Entry}{s:aU}{a:Act}{w dA:World}{β:Nat→Value}{ro:Nat→Prop}(h:df E G s a w β ro)(aj:gj w dA):df ⟨dA,ro,s.heap,β,E.n,E.d⟩ G s a dA β ro:=by
 have bY:w.heap.size≤dA.heap.size:=by
  rcases Nat.eq_zero_or_pos w.heap.size with aP|aP
  ·omega
  ·have aa:=aj (w.heap.size-1) (by omega)
   rcases Nat.lt_or_ge (w.heap.size-1) dA.heap.size with ae|ae
   ·omega
   ·rw[Array.getElem?_eq_none ae,Array.getElem?_eq_getElem (by omega)]at aa
    cases aa
 have hw: ∀b,ro b→dA.heap[b]? =w.heap[b]? :=fun b ad=>aj b (h.heap.lt b ad)
 refine⟨h.defers,h.size,fun i x hx=>(h.slot i x hx).keep hw (fun _ h=>h) (Nat.le_refl _) (fun _ t cs ah=>⟨rfl,t,cs,ah⟩) (fun _ z t _ es ah=>⟨rfl,z,t,es,ah⟩) (fun _ bU ah=>⟨rfl,bU,ah⟩),
  ⟨fun id h8 ah=>(h.heap.dh id h8 ah).keep hw (fun _ h=>h) (Nat.le_refl _) bY rfl (fun ar b ad=>aj b ((h.heap.dh id h8 ah).hG ar ad)) (fun _ t cs ah=>⟨rfl,t,cs,ah⟩) (fun _ z t _ es ah=>⟨rfl,z,t,es,ah⟩) (fun _ bU ah=>⟨rfl,bU,ah⟩),h.heap.inj,h.heap.fk,fun b ad=>Nat.lt_of_lt_of_le (h.heap.lt b ad) bY⟩,
  h.h7.keep hw fun _ h=>h,⟨rfl,rfl,rfl,Nat.le_refl _,fun _ _ _=>rfl,fun b ad=>.inl ad,fun b ad=>ad,fun b ad=>.inl ad,fun id hi o ah=>⟨by rw[ah];simp,rfl⟩,h.trans.new,h.trans.le⟩,h.base⟩
theorem US{w:World}{ro:Nat→Prop}{σ:Heap}{β:Nat→Value}{n:Nat}{x:Value}{c:Value}(h:bF w ro σ β n (.aw (.v x)) c):c=x:=by
 cases h with
 |aw _ _ h=>
  cases h;rfl
theorem jO.q6{ops:Array Oper}{o:Oper}{s:aU}{x:Value}(h:cX P G o s (.aw (.v x)))(ah:dO ops s o=some true):jO P G ops o s (s.put o.dst (.aw (.v x))):=by
 intro E a w ⟨β,ro,ag⟩
 have hw:=nH (ops:=ops) ⟨β,ro,ag⟩ ah
 obtain⟨c,_,ae⟩:=h E a w β ro ag
 refine⟨x,.inl ⟨hw,fun dA aj=>?_⟩,β,ro,ag.put _ _ _ (by rw[US ae]at ae;exact ae)⟩
 obtain⟨aY,au,aW⟩:=h _ a dA β ro (ag.later aj)
 rw[US aW]at au
 exact au
def kf(P:Program)(G:bd)(ops:Array Oper)(o:Oper)(s:aU)(A:aU→Prop):Prop:=∀E a w,Rel E G s a w→
 (Region.wanted o (yielded ops a.tmps)=true∧∀(K:Act→World→Prop) (Q:Exit→Act→World→Prop),(∀t,A t→∀bf w',Rel E G t bf w'→gj w w'→K bf w')→o.wp P a w K Q)∨
 (Region.wanted o (yielded ops a.tmps)=false∧∃t,A t∧Rel E G t (a.put o.dst undef) w)
theorem kf.v{ops:Array Oper}{o:Oper}{s:aU}{v:aF}{A:aU→Prop}(h:cX P G o s v)(ah:dO ops s o=some true)(dt:A (s.put o.dst v)):kf P G ops o s A:=fun E a w ag=>
 .inl ⟨nH ag ah,fun K Q hK=>h.QU E a w ag K Q fun bf w' dY aj=>hK _ dt bf w' dY aj⟩
theorem kf.no{ops:Array Oper}{o:Oper}{s:aU}{A:aU→Prop}(ah:dO ops s o=some false)(dt:A (s.put o.dst (.tuple []))):kf P G ops o s A:=fun E a w ag=>
 .inr ⟨nH ag ah,_,dt,ag.C9 o.dst⟩
theorem fK.one{L:List Oper}{Q:Exit→aU→Prop}{wr:List Bool}{fuel:Nat}{m:List Bool}{s:aU}{A:aU→Prop}{i:Nat}{o:Oper}(ao:L[i]? =some o)(h:Region.ready .any L.toArray m.toArray=[i])(hw:wr.getD i false=false)
 (ai:kf P G L.toArray o s A)(k: ∀t,A t→fK P G L Q wr fuel (m.set i true) t):fK P G L Q wr (fuel+1) m s:=by
 intro E a w ag
 refine⟨fun hn=>(by rw[h]at hn;cases hn),fun j af=>?_⟩
 rw[h]at af
 rcases List.mem_cons.1 af with rfl|af
 rotate_left
 ·cases af
 have eQ:m.toArray.setIfInBounds j true=(m.set j true).toArray:=by simp
 have next: ∀t,A t→∀bf w',Rel E G t bf w'→gj w w'→wr.getD j false=false∧gj w w'∧kX P L.toArray (lift E G (nI Q)) (gj w) (fun i=>wr.getD i false) fuel (m.toArray.setIfInBounds j true) bf w':=fun t aK bf w' dY aj=>by
  rw[eQ];exact⟨hw,aj,DD (fun eW ae=>aj.trans ae) _ _ _ _ (k t aK E bf w' dY)⟩
 unfold wpOp
 rw[show L.toArray[j]? =some o from by simpa using ao]
 simp only
 rcases ai E a w ag with⟨fA,au⟩|⟨fA,t,aW,au⟩
 ·rw[if_pos fA]
  exact .inl (au _ _ fun t aK bf w' dY aj=>.inr (next t aK bf w' dY aj))
 ·rw[if_neg (by rw[fA];decide)]
  exact .inr (next t aW _ _ au (gj.refl w))
def NC(P:Program)(G:bd)(ops:Array Oper)(o:Oper)(s:aU)(A:aU→Prop):Prop:=∀E a w,Rel E G s a w→
 Region.wanted o (yielded ops a.tmps)=true∧∀(K:Act→World→Prop) (Q:Exit→Act→World→Prop),(∀t,A t→∀bf w',Rel E G t bf w'→K bf w')→o.wp P a w K Q
theorem fK.zg9{L:List Oper}{Q:Exit→aU→Prop}{wr:List Bool}{fuel:Nat}{m:List Bool}{s:aU}{A:aU→Prop}{i:Nat}{o:Oper}(ao:L[i]? =some o)(h:Region.ready .any L.toArray m.toArray=[i])(hw:wr.getD i false=true)
 (ai:NC P G L.toArray o s A)(k: ∀t,A t→fK P G L Q wr fuel (m.set i true) t):fK P G L Q wr (fuel+1) m s:=by
 intro E a w ag
 refine⟨fun hn=>(by rw[h]at hn;cases hn),fun j af=>?_⟩
 rw[h]at af
 rcases List.mem_cons.1 af with rfl|af
 rotate_left
 ·cases af
 have eQ:m.toArray.setIfInBounds j true=(m.set j true).toArray:=by simp
 have next: ∀t,A t→∀bf w',Rel E G t bf w'→wr.getD j false=true∧wpAny P .any L.toArray (lift E G (nI Q)) fuel (m.toArray.setIfInBounds j true) bf w':=fun t aK bf w' dY=>by
  rw[eQ];exact⟨hw,(k t aK).c8 E bf w' dY⟩
 unfold wpOp
 rw[show L.toArray[j]? =some o from by simpa using ao]
 simp only
 obtain⟨fA,au⟩:=ai E a w ag
 rw[if_pos fA]
 exact .inl (au _ _ fun t aK bf w' dY=>.inl (next t aK bf w' dY))
theorem kf.call{ops:Array Oper}{o:Oper}{s:aU}{xs:Array Operand}{f:FuncId}{p q:List aF}(uU:uT P G o s f p q xs)(gE:mP P f=true)
 (ah:dO ops s o=some true)(oJ:e8 (p++xs.toList.map (aM G s)++q)=true){R:aF→Heap→Prop}(hc:dJ P G f (p++xs.toList.map (aM G s)++q) [] 0 R){A:aU→Prop}(fS: ∀r b1,R r b1→fH r=true∧A (s.put o.dst r)):kf P G ops o s A:=by
 intro E a w ⟨β,ro,h⟩
 refine .inl ⟨nH ⟨β,ro,h⟩ ah,fun K Q hK=>?_⟩
 obtain⟨c,d,aa,ae,kc,uS,cy⟩:=uU E a w β ro h
 ·unfold Oper.wp
  rw[cy w,Dc gE]
  have hg:=hc w β ro (c++xs.map a.eval++d) (by simp[aa,ae,Nat.add_assoc]) (fun i y ay=>nC (Tn (x:=.const undef) (f:=.func f) h aa ae kc uS i y ay) (mO oJ ay))
   ⟨by simp[aG],by simp[aG],fun b _ ⟨_,_,ah,_⟩=>by simp[aG]at ah,h.heap.lt⟩ h.h7 (by simp[aG])
  refine Calls.mono hg fun e w' aN=>?_
  obtain⟨v,r,b1,dN,ro',cT,rfl,ag,dD,hL,cL⟩:=aN;obtain⟨zha,dt⟩:=fS r b1 ag
  have kT: ∀b,¬Own ([]:Heap) β b:=fun b ⟨_,_,ah,_⟩=>by simp[aG]at ah
  have lu: ∀b,b<w.heap.size→w'.heap[b]? =w.heap[b]? :=fun b ad=>cL.frame b ad (kT b)
  have c2:=h.grow (w':=w') (ro':=ro') cL.os cL.tape cL.output cL.size lu cL.jZ (fun b ad=>by
   rcases cL.jk b ad with q|q|q
   ·exact .inl q
   ·exact absurd q (kT b)
   ·exact .inr ⟨q,hL.lt b ad⟩)
  exact hK _ dt _ _ ⟨β,ro',c2.put o.dst r v (nC dD zha)⟩ lu
theorem b6.zhb{id:Nat}{L:List Oper}{Q:Exit→aU→Prop}{wr:List Bool}{s:aU}(n:Nat)(h:fK P G L Q wr n (List.replicate n false) s)(qA:P.follows .mixedOrders=true)(hn:Nat.beq L.length n=true):b6 P G (.region id L.toArray true) Q s:=b6.zea n h.c8 qA hn
end
end Go.aO
