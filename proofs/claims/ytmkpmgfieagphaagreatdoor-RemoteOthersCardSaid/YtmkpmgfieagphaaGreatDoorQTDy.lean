/- TD, part V: loops that count: how they are made, their parts. Conditions: none. -/
import Derived.Test.YtmkpmgfieagphaaGreatDoorQTDu
import Derived.Test.YtmkpmgfieagphaaGreatDoorQTDa
namespace Go.aK
open Go
def aB.ends:aB→List (b0 × aq)
 | .cG x S=>[(x,S)]
 | .lt _ _ t=>t.ends
 | .eD _ t=>t.ends
 | .it _ a b=>a.ends++b.ends
 | .dz _ a _ k=>a.ends++k.ends
 | .ei _ _ _ _ _ a k=>a.ends++k.ends
 | .eY _ _ _ a k=>a.ends++k.ends
 | .bad _=>[]
def cm(S:aq):fK→List hy
 |[]=>[]
 |(i,r,p)::l=>⟨i,r,p.dg S,p⟩::cm S l
def xh(kx j:Nat):List b6→Bool
 |[]=>false
 | .d2 i (.jk .add .i64 .i64) x y::r=>match Nat.beq i j&&(eF x (.aT (.int .i64) kx)&&eF y (.cs (.int .i64 1)))with
  |true=>true
  |false=>xh kx j r
 |_::r=>xh kx j r
def D0(kx b1:Nat)(aS:aq):Bool:=
 match aS.at b1 with
 | .aT (.int .i64) j=>xh kx j aS.g
 |_=>false
def mg(J:gq)(n:Nat):gq:=⟨J.l,J.h,n,J.ps⟩
def uM(n:Nat):List (Nat × ab)→Bool
 |[]=>true
 |(_,x)::r=>ab.rk n x&&uM n r
def D1(J:gq)(aX kx b1:Nat)(aS:aq):Bool:=jr (mg J (Nat.max aS.n J.n)) aX aS&&D0 kx b1 aS
def sJ(J cf:gq)(aX kx b1 cur:Nat):List (b0 × aq)→Bool
 |[]=>true
 |(.cj,aS)::r=>D1 J aX kx b1 aS&&sJ J cf aX kx b1 cur r
 |(.ext m,aS)::r=>(match Nat.beq m cur with
  |true=>jr cf aX aS
  |false=>true)&&sJ J cf aX kx b1 cur r
 |_::r=>sJ J cf aX kx b1 cur r
def D2(dM:aq):fK→Bool
 |[]=>true
 |(i,r,p)::l=>eF (p.dg dM) (.aT r i)&&D2 dM l
def aB.xi(cur:Nat):aB→Option aq
 | .lt _ _ t=>t.xi cur
 | .cG (.ext m) S=>match Nat.beq m cur with
  |true=>some S
  |false=>none
 |_=>none
structure o8 where
 J:gq
 cf:gq
 b1:Nat
 y:ab
def o8.kx(I:o8)(S:aq):Nat:=S.k+I.J.ps.length
def o8.H(I:o8)(S:aq):aq:=aq.put ⟨fi I.J.l,I.J.h,I.J.n,I.kx S+1,.rg (I.kx S) I.y::S.g⟩ (some I.b1) (.aT (.int .i64) (I.kx S))
def o8.E(I:o8)(S:aq):aq:=aq.put ⟨fi I.J.l,I.J.h,I.J.n,I.kx S,S.g⟩ (some I.b1) I.y
def D3(S:aq)(x:ab):Nat→Bool
 |0=>false
 |n+1=>eF (S.at n) x||D3 S x n
def lenOf(j:Nat):List b6→Option (bF × ab)
 |[]=>none
 | .d1 i (.iJ c) x::r=>match Nat.beq i j with
  |true=>some (c,x)
  |false=>lenOf j r
 |_::r=>lenOf j r
def zg(c:bF)(x:ab):Bool:=
 match x.rt with
 |some (.li d)=>decide (d=c)
 |_=>false
def Aa(N:Nat)(S:aq)(y:ab):List fc:=
 match y with
 | .cs (.int .i64 n)=>match decide (0≤n∧n<9223372036854775808)with
  |true=>[]
  |false=>[.nth 9223372036854775808 y]
 | .aT (.int .i64) j=>match lenOf j S.g with
  |some (c,x)=>match D3 S x N&&zg c x with
   |true=>[]
   |false=>[.nth 9223372036854775808 y]
  |none=>[.nth 9223372036854775808 y]
 |y=>[.nth 9223372036854775808 y]
def isInt(y:ab):Bool:=
 match y.rt with
 |some (.int .i64)=>true
 |_=>false
def SQ(N B cur:Nat)(S:aq)(I:o8)(t1 t2:aB):Bool:=
 (ia S.k I.J.ps&&(rj (I.kx S) I.J.l&&eE (I.kx S) I.J.h))&&((eF (S.at I.b1) (.cs (.int .i64 0))&&(isInt I.y&&I.y.lt S.k))&&
 ((jr (mg I.J (Nat.max S.n I.J.n)) S.k S&&(uM I.J.n I.J.l&&nI I.J.n I.J.h))&&((Nat.blt I.b1 N&&Nat.ble B I.J.n)&&
 (sJ I.J ⟨I.cf.l,I.cf.h,I.cf.n,I.J.ps⟩ S.k (I.kx S) I.b1 cur t1.ends&&((rj (I.kx S) I.cf.l&&eE (I.kx S) I.cf.h)&&(match t2.xi cur with
  |some dM=>jr ⟨I.cf.l,I.cf.h,I.cf.n,I.J.ps⟩ S.k dM&&D2 dM I.J.ps
  |none=>false))))))
def SR(N B cur:Nat)(S:aq)(I:o8)(t1 t2:aB):aB:=
 match SQ N B cur S I t1 t2 with
 |true=>emit S.k [] (Aa N S I.y) (.ei (t1.lvl+1) cur (.q3 (.int .i64) I.y) (I.kx S) (cm S I.J.ps) (t1.rel (fI (t1.lvl+1))) (.cG (.ext cur) ⟨fi I.cf.l,I.cf.h,I.cf.n,I.kx S,S.g⟩))
 |false=>.bad (xg t1.mW 60)
def xj(N B:Nat)(f:aq→aB)(cur:Nat)(S:aq)(I:o8):aB:=SR N B cur S I (f (I.H S)) (f (I.E S))
section
variable {P:Program} {G:a8} {N B:Nat} {M:List aR}
theorem nK: ∀{t:aB} {x:b0} {e ay:Env} {S:aq},run M t e=some (x,S,ay)→(x,S)∈t.ends
 | .cG x S0,_,e,ay,S,h=>by
  simp only[run,aB.fold]at h;cases h;simp[aB.ends]
 | .lt _ _ t,_,_,_,_,h=>nK (t:=t) h
 | .eD _ t,_,_,_,_,h=>nK (t:=t) h
 | .it c a b,_,e,ay,S,h=>by
  simp only[run,aB.fold]at h;simp only[aB.ends,List.mem_append]
  cases hc:c.az e .bool with
  |true=>rw[hc]at h;exact .inl (nK (t:=a) h)
  |false=>rw[hc]at h;exact .inr (nK (t:=b) h)
 | .dz n a ps k,y,e,ay,S,h=>by
  simp only[aB.ends,List.mem_append]
  cases ag:run M a e with
  |none=>unfold run at h;rw[so ag]at h;cases h
  |some l=>
   obtain⟨x,aS,aA⟩:=l
   cases hx:x.bT n with
   |true=>
    unfold run at h;rw[p4 ag hx]at h;exact .inr (nK (t:=k) h)
   |false=>
    unfold run at h;rw[mP ag hx]at h;cases h;exact .inl (nK (t:=a) ag)
 | .ei m xid dn b1 ca a k,y,e,ay,S,h=>by
  rw[Dt]at h;simp only[aB.ends,List.mem_append]
  cases ar:bo (fun i (v:bY ca)=>c4 M m xid ca a (bl (ba.put e b1 ⟨.int .i64,(i:Int)⟩) ca v) v) 0 (ck (dn.den M e)).toNat (b8 _ (dC e ca))with
  |inl r=>
   rw[ar]at h
   have h:r=some (y,S,ay):=h
   subst h;obtain⟨i,v,ad⟩:=KN ar;exact .inl (nK (t:=a) (Ds ad))
  |inr v=>rw[ar]at h;exact .inr (nK (t:=k) h)
 | .eY m xid ca a k,y,e,ay,S,h=>by
  rw[Du]at h;simp only[aB.ends,List.mem_append]
  cases ar:c5 (fun(v:bY ca)=>c4 M m xid ca a (bl e ca v) v) dT (b8 _ (dC e ca))with
  |inl r=>
   rw[ar]at h
   have h:r=some (y,S,ay):=h
   subst h;obtain⟨v,ad⟩:=KO ar;exact .inl (nK (t:=a) (Ds ad))
  |inr v=>rw[ar]at h;exact .inr (nK (t:=k) h)
 | .bad _,_,_,_,_,h=>by cases h
theorem SS(S:aq)(e:Env): ∀ca:List hy,dv (q6 ca) (b8 (q6 ca) (fw S e ca))=fw S e ca
 |[]=>rfl
 |[a]=>by simp only[q6,fw,b8,dv,cz]
 |a::b::l=>by
  have:=SS S e (b::l)
  simp only[q6,fw]at this;simp only[q6,fw,b8,dv,cz,this]
theorem LH{S:aq}{e:Env}: ∀{ps:fK},dC e (cm S ps)=fw S e (cm S ps)
 |[]=>rfl
 |(_,_,_)::l=>by simp only[cm,dC,fw,LH (ps:=l)]
theorem Ab{S0 aS:aq}{e aA:Env}{ps:fK}:bl e (cm S0 ps) (b8 _ (fw aS aA (cm S0 ps)))=fR e (fun r p=>⟨r,(p.dg aS).get aA r⟩) ps:=by
 unfold bl
 rw[SS]
 induction ps generalizing e with
 |nil=>rfl
 |cons q l aZ=>
  obtain⟨i,r,p⟩:=q;simp only[cm,fw,q7,fR];exact aZ
theorem SU{i:Nat}: ∀{ca:List hy} {e:Env} {ds:List aF},(∀a∈ca,a.i≠i)→Env.at (q7 e ca ds) i=Env.at e i
 |[],_,[],_=>rfl
 |[],_,_::_,_=>rfl
 |_::_,_,[],_=>rfl
 |a::l,e,d::ds,h=>by
  simp only[q7];rw[SU (ca:=l) fun b ad=>h b (by simp[ad]),Env.h7,if_neg (h a (by simp))]
theorem SV{S:aq}: ∀{ps:fK} {k:Nat},ia k ps=true→∀a∈cm S ps,k≤a.i∧a.i<k+ps.length
 |(j,r,p)::l,k,h,a,a6=>by
  simp only[ia,Bool.and_eq_true]at h
  have af:=Nat.eq_of_beq_eq_true h.1
  simp only[cm]at a6
  rcases List.mem_cons.1 a6 with rfl|a6
  ·simp only[List.length_cons];omega
  ·have:=SV (k:=k+1) h.2.2 a a6
   simp only[List.length_cons];omega
 |[],_,_,a,a6=>by cases a6
theorem xk{S:aq}{e:Env}{ps:fK}{k i:Nat}{v:bY (cm S ps)}(h:ia k ps=true)(hi:i<k∨k+ps.length≤i):Env.at (bl e (cm S ps) v) i=Env.at e i:=
 SU fun a a6=>by have:=SV h a a6;omega
theorem SW{S:aq}: ∀{ps:fK} {k:Nat} {e:Env} {v:bY (cm S ps)},ia k ps=true→∀{i:Nat} {r:aU} {p:et},iM ps i=some (r,p)→(Env.at (bl e (cm S ps) v) i).r=r
 |[],_,_,_,_,_,_,_,ak=>by cases ak
 |[(j,eP,fW)],k,e,v,h,i,r,p,ak=>by
  simp only[iM]at ak
  split at ak
  ·rename_i ad
   cases ak;rw[←Nat.eq_of_beq_eq_true ad];simp only[bl,cm,q6,dv,q7];rw[Env.h7,if_pos rfl]
  ·cases ak
 |(j,eP,fW)::q::l,k,e,v,h,i,r,p,ak=>by
  simp only[ia,Bool.and_eq_true]at h
  have af:=Nat.eq_of_beq_eq_true h.1
  obtain⟨bN,eQ,o6⟩:=q
  have ai:bl e (cm S ((j,eP,fW)::(bN,eQ,o6)::l)) v=bl (ba.put e j ⟨eP,v.1⟩) (cm S ((bN,eQ,o6)::l)) v.2:=rfl
  have ae:ia (k+1) ((bN,eQ,o6)::l)=true:=by
   simp only[ia,Bool.and_eq_true];exact h.2.2
  simp only[iM]at ak
  split at ak
  ·rename_i ad
   cases ak
   have:=Nat.eq_of_beq_eq_true ad
   rw[ai];refine(congrArg aF.r (xk (S:=S) (e:=ba.put e j ⟨eP,v.1⟩) (ps:=(bN,eQ,o6)::l) (k:=k+1) (i:=i) (v:=v.2) ae (.inl (by omega)))).trans ?_
   rw[Env.h7,if_pos this]
  ·rw[ai]
   exact SW (S:=S) (e:=ba.put e j ⟨eP,v.1⟩) (ps:=(bN,eQ,o6)::l) (k:=k+1) (v:=v.2) ae ak
theorem SX{f:aU→et→aF}{i:Nat}: ∀{ps:fK} {e ay:Env},Env.at e i=Env.at ay i→Env.at (fR e f ps) i=Env.at (fR ay f ps) i
 |[],_,_,h=>h
 |(j,r,p)::l,e,ay,h=>by
  simp only[fR];refine SX (ps:=l) ?_
  rw[Env.h7,Env.h7,h]
theorem zfc{c:Code}{R A:Type}{n:Nat}{b:Nat→A→Step R A}{a0:A}{hd:Nat→A→aO}{Q:Exit→aO→Prop}{dq:aO}{I:Nat→A→Prop}
    (aP:cl dq (hd 0 a0))(hi:I 0 a0)
    (ag: ∀k a,k<n→I k a→bo b 0 n a0=bo b k (n-k) a→b2 P G c (fun e st=>match e with
      | .normal=>∃bc,b k a= .bq bc∧I (k+1) bc∧cl st (hd (k+1) bc)
      |e=>Q e st) (hd k a))
    (he: ∀a,I n a→bo b 0 n a0= .inr a→b2 P G c (fun e st=>match e with
      | .normal=>False
      |e=>Q e st) (hd n a)):b2 P G (.loop c) Q dq:=by
  refine b2.loop (ι:=Nat × A) (fun x=>hd x.1 x.2) (fun x=>x.1≤n∧bo b 0 n a0=bo b x.1 (n-x.1) x.2∧I x.1 x.2) (fun x=>n-x.1) (0,a0) aP ⟨Nat.zero_le _,rfl,hi⟩ ?_
  rintro⟨k,a⟩ ⟨aj,fJ,bW⟩
  simp only at aj fJ bW⊢
  by_cases oz:k<n
  · refine b2.mono (ag k a oz bW fJ) fun e st ai=>?_
    cases e with
    |normal=>
      obtain⟨bc,aa,av,ae⟩:=ai;exact⟨(k+1,bc),⟨oz,zcE fJ oz aa,av⟩,by show n-(k+1)<n-k;omega,ae⟩
    |_=>exact ai
  · have:k=n:=by omega
    subst this;refine b2.mono (he a bW (zcH fJ (Nat.le_refl _))) fun e st ai=>?_
    cases e with
    |normal=>exact ai.elim
    |_=>exact ai
theorem cl.low{aM:List aC}{h:Heap}{m n b:Nat}(aa:kP n aM=true)(ae:kQ n h=true)(av:b≤n):cl ⟨aM,h,m,b⟩ ⟨aM,h,n,b⟩:=by
 intro E G a w ⟨β,ro,ag⟩
 refine⟨β,ro,ag.defers,ag.size,fun i x hx=>?_,⟨fun id o ah=>?_,ag.heap.inj,ag.heap.fe,ag.heap.lt⟩,ag.h3,?_,ag.base⟩
 ·exact(ag.slot i x hx).lower (qO aa hx)
 ·have an:=ag.heap.c6 id o ah
  obtain⟨_,yP⟩:=qP ae ah
  cases an with
  |box t cs b arr aA bh ct e1=>exact .box t cs b arr aA bh ct fun j x af=>(e1 j x af).lower (qO (yP t cs rfl) af)
  |row t n es xs aA bh ct=>exact .row t n es xs aA bh ct
  |gb t n es aA=>exact .gb t n es aA
  |bK bM b o aA bh ct=>exact .bK bM b o aA bh ct
 ·have t:=ag.trans
  exact⟨t.os,t.tape,t.output,t.size,t.frame,t.jb,t.jR,t.gY,t.dJ,fun id o ah=>(qP ae ah).1,Nat.le_trans ag.base av⟩
theorem LI{n:Nat}{e:Env}{l:ba ab}(h: ∀i x,l.get i=some x→ab.rk n x=true): ∀(k i:Nat),kP n (j2 G e l i k)=true
 |0,_=>rfl
 |k+1,i=>by
  simp only[j2,kP,LI h k (i+1),Bool.and_true]
  cases ah:l.get i with
  |none=>rfl
  |some x=>exact DO (h i x ah)
theorem LJ{n:Nat}: ∀{l:List (Nat × ab)},uM n l=true→∀{i:Nat} {x:ab},(i,x)∈l→ab.rk n x=true
 |(_,_)::r,h,i,x,hm=>by
  simp only[uM,Bool.and_eq_true]at h
  rcases List.mem_cons.1 hm with q|q
  ·cases q;exact h.1
  ·exact LJ h.2 q
theorem SY{J:gq}{aX kx b1 j:Nat}{S0 aS:aq}{e aA:Env}{k:Nat}{g g':List b6}(ak:ia aX J.ps=true)(rp:kx=aX+J.ps.length)(ar:rj kx J.l=true)(bd:eE kx J.h=true)
 (lU: ∀c∈aS.g,c.ok aA)(h:jr (mg J (Nat.max aS.n J.n)) aX aS=true)(h6:uM J.n J.l=true)(oE:nI J.n J.h=true)(fy:B≤J.n)(uN:b1<N)(bS:bX aX e aA)(aw:(aS.at b1).den G aA= .au (.v (.int .i64 (j:Int)))):
 cl (aS.den G N B aA) ((aq.put ⟨fi J.l,J.h,J.n,k,g⟩ (some b1) (.aT (.int .i64) kx)).den G N B (bl (ba.put e kx ⟨.int .i64,(j:Int)⟩) (cm S0 J.ps) (b8 _ (fw aS aA (cm S0 J.ps))))):=by
 have aa:=KQ (G:=G) (N:=N) (B:=B) (J:=mg J (Nat.max aS.n J.n)) ak lU h (g:=g') bS
 have ae:=aa.put (i:=b1) (x:=.v (.int .i64 (j:Int))) (by rw[uh,if_pos uN,aw])
 refine ae.le.trans ?_
 rw[Ab,e9]
 have zfd:Env.at (fR (ba.put e kx ⟨.int .i64,(j:Int)⟩) (fun r p=>⟨r,(p.dg aS).get aA r⟩) J.ps) kx=⟨.int .i64,(j:Int)⟩:=by
  rw[←Ab (S0:=S0),xk ak (.inr (by omega)),Env.h7,if_pos rfl]
 have SZ:(ab.aT (.int .i64) kx).den G (fR (ba.put e kx ⟨.int .i64,(j:Int)⟩) (fun r p=>⟨r,(p.dg aS).get aA r⟩) J.ps)= .au (.v (.int .i64 (j:Int))):=by
  simp only[ab.den,zfd,cz,fF,jY]
 rw[SZ]
 have c8:bX kx (fR e (fun r p=>⟨r,(p.dg aS).get aA r⟩) J.ps) (fR (ba.put e kx ⟨.int .i64,(j:Int)⟩) (fun r p=>⟨r,(p.dg aS).get aA r⟩) J.ps):=fun i hi=>
  SX (by rw[Env.h7,if_neg (by omega)])
 have qf:(⟨fi J.l,J.h,J.n,kx,[]⟩:aq).cp:=⟨fun i x hx=>sC ar (oY hx),bd,rfl⟩
 have aj:=k1 (G:=G) (N:=N) (B:=B) (S:=⟨fi J.l,J.h,J.n,kx,[]⟩) c8 qf
 have av:(aq.mk (fi J.l) J.h J.n k g).den G N B (fR (ba.put e kx ⟨.int .i64,(j:Int)⟩) (fun r p=>⟨r,(p.dg aS).get aA r⟩) J.ps)=(aq.mk (fi J.l) J.h J.n kx []).den G N B (fR e (fun r p=>⟨r,(p.dg aS).get aA r⟩) J.ps):=aj
 rw[av]
 refine cl.low (m:=Nat.max aS.n J.n) ?_ ?_ fy
 ·have:=LI (G:=G) (e:=fR (ba.put e kx ⟨.int .i64,(j:Int)⟩) (fun r p=>⟨r,(p.dg aS).get aA r⟩) J.ps) (n:=J.n) (l:=(fi J.l).put b1 (.aT (.int .i64) kx)) (fun i x hx=>by
   rw[ba.hR]at hx
   split at hx
   ·cases hx;rfl
   ·exact LJ h6 (oY hx)) N 0
  rw[JO,SZ]at this
  have pN:j2 G (fR (ba.put e kx ⟨.int .i64,(j:Int)⟩) (fun r p=>⟨r,(p.dg aS).get aA r⟩) J.ps) (fi J.l) 0 N=j2 G (fR e (fun r p=>⟨r,(p.dg aS).get aA r⟩) J.ps) (fi J.l) 0 N:=congrArg aO.cO aj
  rw[pN]at this;exact this
 ·exact w7 oE
end
end Go.aK
namespace Go.aK
open Go
section
variable {P:Program} {G:a8} {N B:Nat} {M:List aR}
theorem S1{S:aq}{x:ab}: ∀{n:Nat},D3 S x n=true→∃i,i<n∧S.at i=x
 |n+1,h=>by
  simp only[D3,Bool.or_eq_true]at h
  rcases h with h|h
  ·exact⟨n,Nat.lt_succ_self n,eZ h⟩
  ·obtain⟨i,aa,ae⟩:=S1 h
   exact⟨i,by omega,ae⟩
theorem Ac{j:Nat}{c:bF}{x:ab}{e:Env}: ∀{l:List b6},lenOf j l=some (c,x)→(∀c∈l,c.ok e)→Env.at e j=⟨.int .i64,(List.length (x.az e (.li c)):Int)⟩
 | .d1 i f y::r,h,hc=>by
  have ag: ∀{c x},lenOf j r=some (c,x)→Env.at e j=⟨.int .i64,(List.length (x.az e (.li c)):Int)⟩:=fun h=>Ac h fun c hm=>hc c (by simp[hm])
  have aP:=hc (.d1 i f y) (by simp)
  cases f with
  |iJ d=>
   simp only[lenOf]at h
   split at h
   ·rename_i ad
    cases h;rw[←Nat.eq_of_beq_eq_true ad];exact aP
   ·exact ag h
  |_=>exact ag h
 | .d2 _ _ _ _::r,h,hc=>Ac (l:=r) h fun c hm=>hc c (by simp[hm])
 | .rg _ _::r,h,hc=>Ac (l:=r) h fun c hm=>hc c (by simp[hm])
 | .dR _ _::r,h,hc=>Ac (l:=r) h fun c hm=>hc c (by simp[hm])
theorem zfe{S:aq}{y:ab}{e:Env}{S2:Entry}{a:Act}{w:World}(hf:S.cq e)(h: ∀n∈Aa N S y,n.ok M e)(ag:Rel S2 G (S.den G N B e) a w):0≤ck (y.dyn e)∧ck (y.dyn e)<9223372036854775808:=by
 have key:(fc.nth 9223372036854775808 y).ok M e→0≤ck (y.dyn e)∧ck (y.dyn e)<9223372036854775808:=fun h=>h
 unfold Aa at h
 split at h
 ·rename_i n
  split at h
  ·rename_i hd
   exact of_decide_eq_true hd
  ·exact key (h _ (by simp))
 ·rename_i j
  split at h
  ·rename_i c x ar
   split at h
   ·rename_i ad
    simp only[Bool.and_eq_true]at ad;obtain⟨i,hi,hx⟩:=S1 ad.1
    have aa:=Ac ar hf
    have zff:x.rt=some (.li c):=by
     have:=ad.2
     unfold zg at this
     split at this
     ·rename_i d hd
      rw[hd,of_decide_eq_true this]
     ·cases this
    have ae:=fX (G:=G) (e:=e) zff
    have uO:aI G (S.den G N B e) (.tmp i)= .au (.li c (x.az e (.li c))):=by
     simp only[aI,List.getD_eq_getElem?_getD,uh,if_pos hi,hx,ae]
     rfl
    have:=zc3 ag uO
    have hd:ck ((ab.aT (.int .i64) j).dyn e)=(List.length (x.az e (.li c)):Int):=by
     simp only[ab.dyn,aa,cz,ck]
    rw[hd];omega
   ·exact key (h _ (by simp))
  ·exact key (h _ (by simp))
 ·exact key (h _ (by simp))
theorem Ad{kx j:Nat}{e:Env}: ∀{l:List b6},xh kx j l=true→(∀c∈l,c.ok e)→Env.at e j=⟨.int .i64,IntKind.i64.wrap (((Env.at e kx).aG (.int .i64):Int)+1)⟩
 | .d2 i f x y::r,h,hc=>by
  have ag:xh kx j r=true→Env.at e j=⟨.int .i64,IntKind.i64.wrap (((Env.at e kx).aG (.int .i64):Int)+1)⟩:=fun h=>Ad h fun c hm=>hc c (by simp[hm])
  have aP:=hc (.d2 i f x y) (by simp)
  unfold xh at h
  split at h
  ·cases h
  ·rename_i heq
   cases heq
   split at h
   ·rename_i ad
    simp only[Bool.and_eq_true]at ad;rw[←Nat.eq_of_beq_eq_true ad.1]
    have aP:Env.at e i=_:=aP
    rw[aP,eZ ad.2.1,eZ ad.2.2];simp only[cA.den,ab.az,ab.fo,ab.dyn,cz,bu]
   ·exact ag h
  ·rename_i heq
   cases heq;exact ag h
 | .d1 _ _ _::r,h,hc=>Ad (l:=r) h fun c hm=>hc c (by simp[hm])
 | .rg _ _::r,h,hc=>Ad (l:=r) h fun c hm=>hc c (by simp[hm])
 | .dR _ _::r,h,hc=>Ad (l:=r) h fun c hm=>hc c (by simp[hm])
theorem zfg{kx b1:Nat}{aS:aq}{e:Env}{i:Nat}(h:D0 kx b1 aS=true)(hf:aS.cq e)(aj:Env.at e kx=⟨.int .i64,(i:Int)⟩)(hi:(i:Int)<9223372036854775807):(aS.at b1).den G e= .au (.v (.int .i64 ((i+1:Nat):Int))):=by
 unfold D0 at h
 split at h
 ·rename_i j hx
  have:=Ad h hf
  rw[hx];simp only[ab.den,this,cz,aj,fF,jY];rw[zcp (by omega)]
 ·cases h
theorem S3{cur:Nat}: ∀{t:aB} {e:Env} {S:aq},t.xi cur=some S→t.safe M e∧∃ay,run M t e=some (.ext cur,S,ay)
 | .lt _ _ t,e,S,h=>S3 (t:=t) h
 | .cG x S0,e,S,h=>by
  refine⟨trivial,?_⟩
  unfold aB.xi at h
  split at h
  ·rename_i heq;cases heq
  ·rename_i m df heq
   cases heq
   split at h
   ·rename_i ad
    cases h;rw[←Nat.eq_of_beq_eq_true ad];exact⟨e,rfl⟩
   ·cases h
  ·cases h
 | .eD _ _,_,_,h=>by cases h
 | .it _ _ _,_,_,h=>by cases h
 | .dz _ _ _ _,_,_,h=>by cases h
 | .ei _ _ _ _ _ _ _,_,_,h=>by cases h
 | .eY _ _ _ _ _,_,_,h=>by cases h
 | .bad _,_,_,h=>by cases h
theorem S4{dM:aq}: ∀{ps:fK},D2 dM ps=true→∀{i:Nat} {r:aU} {p:et},iM ps i=some (r,p)→p.dg dM= .aT r i
 |(j,eP,fW)::l,h,i,r,p,ak=>by
  simp only[D2,Bool.and_eq_true]at h;simp only[iM]at ak
  split at ak
  ·rename_i ad
   cases ak;rw[eZ h.1,Nat.eq_of_beq_eq_true ad]
  ·exact S4 h.2 ak
theorem S5{J cf:gq}{aX kx b1 cur:Nat}: ∀{l:List (b0 × aq)},sJ J cf aX kx b1 cur l=true→∀{x:b0} {aS:aq},(x,aS)∈l→(x= .cj→D1 J aX kx b1 aS=true)∧(x= .ext cur→jr cf aX aS=true)
 |(y,dM)::r,h,x,aS,hm=>by
  have bd:sJ J cf aX kx b1 cur r=true∧(y= .cj→D1 J aX kx b1 dM=true)∧(y= .ext cur→jr cf aX dM=true):=by
   cases y with
   |cj=>
    simp only[sJ,Bool.and_eq_true]at h;exact⟨h.2,fun _=>h.1,fun e=>(by cases e)⟩
   |ext m=>
    simp only[sJ,Bool.and_eq_true]at h;refine⟨h.2,fun e=>(by cases e),fun e=>?_⟩
    cases e
    have aa:=h.1
    rw[Nat.beq_refl]at aa;exact aa
   |ret=>exact⟨h,fun e=>(by cases e),fun e=>(by cases e)⟩
   |kZ m=>exact⟨h,fun e=>(by cases e),fun e=>(by cases e)⟩
  rcases List.mem_cons.1 hm with q|q
  ·cases q;exact bd.2
  ·exact S5 bd.1 q
theorem b2.rel{c:Code}{Q:Exit→aO→Prop}{s:aO}(h:(∃E a w,Rel E G s a w)→b2 P G c Q s):b2 P G c Q s:=fun E a w ag=>h ⟨E,a,w,ag⟩ E a w ag
theorem zfh{ps:fK}: ∀{k i:Nat},ia k ps=true→k≤i→i<k+ps.length→∃r p,iM ps i=some (r,p):=by
 induction ps with
 |nil=>intro k i _ aa ae;simp at ae;omega
 |cons q l aZ=>
  obtain⟨j,r,p⟩:=q;intro k i h aa ae;simp only[ia,Bool.and_eq_true]at h
  have af:=Nat.eq_of_beq_eq_true h.1
  simp only[iM]
  split
  ·exact⟨r,p,rfl⟩
  ·rename_i ad
   refine aZ h.2.2 ?_ (by simp only[List.length_cons]at ae;omega)
   have:j≠i:=fun e=>by rw[e,Nat.beq_refl]at ad;cases ad
   omega
theorem S6{i:Nat}: ∀{ca:List hy} {e ay:Env} {ds:List aF},Env.at e i=Env.at ay i→Env.at (q7 e ca ds) i=Env.at (q7 ay ca ds) i
 |[],_,_,[],h=>h
 |[],_,_,_::_,h=>h
 |_::_,_,_,[],h=>h
 |a::l,e,ay,d::ds,h=>by
  simp only[q7];refine S6 (ca:=l) ?_
  rw[Env.h7,Env.h7,h]
theorem LK{c:Code}{f:aq→aB}(hf:iT P G N B M c f){cur:Nat}{S:aq}{I:o8}{e:Env}(ad:S.cp)(e7:S.cq e)(ai:(xj N B f cur S I).safe M e):b2 P G (.loop c) (js G N B M (xj N B f cur S I) e S.k) (S.den G N B e):=by
 unfold xj SR at ai⊢
 split at ai
 rotate_left
 ·exact ai.elim
 rename_i sK
 generalize Ae:f (I.H S)=t1 at ai sK⊢
 generalize S7:f (I.E S)=t2 at sK
 simp only[SQ,Bool.and_eq_true]at sK
 obtain⟨⟨aW,dp,c9⟩,⟨gl,iC,ki⟩,⟨jy,vG,vH⟩,⟨yw,pJ⟩,r1,⟨BV,BW⟩,vI⟩:=sK
 have yw:=e6 yw
 have pJ:=Nat.le_of_ble_eq_true pJ
 obtain⟨gL,gu⟩:=me ai
 have gu:(aB.ei (t1.lvl+1) cur (.q3 (.int .i64) I.y) (I.kx S) (cm S I.J.ps) (t1.rel (fI (t1.lvl+1))) (.cG (.ext cur) ⟨fi I.cf.l,I.cf.h,I.cf.n,I.kx S,S.g⟩)).safe M e:=gu
 refine b2.rel fun⟨S2,ac,w,dy⟩=>?_
 obtain⟨rM,z2⟩:=zfe (M:=M) (e:=e) e7 gL dy
 have LL:I.y.rt=some (.int .i64):=by
  unfold isInt at iC
  split at iC
  ·assumption
  ·cases iC
 generalize fL:aB.ei (t1.lvl+1) cur (.q3 (.int .i64) I.y) (I.kx S) (cm S I.J.ps) (t1.rel (fI (t1.lvl+1))) (.cG (.ext cur) ⟨fi I.cf.l,I.cf.h,I.cf.n,I.kx S,S.g⟩)=qh at gu
 have zfi:run M (emit S.k [] (Aa N S I.y) qh) e=run M qh e:=ly
 refine b2.mono (Q':=js G N B M (emit S.k [] (Aa N S I.y) qh) e S.k) ?_ fun ex st h=>h
 refine b2.mono (Q:=js G N B M qh e S.k) ?_ fun ex st h=>h.sub zfi (bX.refl _ _) (Nat.le_refl _)
 have rp:I.kx S=S.k+I.J.ps.length:=rfl
 have xl:I.H S=aq.put ⟨fi I.J.l,I.J.h,I.J.n,I.kx S+1,.rg (I.kx S) I.y::S.g⟩ (some I.b1) (.aT (.int .i64) (I.kx S)):=rfl
 have D4:I.E S=aq.put ⟨fi I.J.l,I.J.h,I.J.n,I.kx S,S.g⟩ (some I.b1) I.y:=rfl
 generalize gM:I.kx S=kx at*
 have qf:ck ((bJ.q3 (.int .i64) I.y).den M e)=ck (I.y.dyn e):=by
  rw[lv LL];rfl
 generalize r0:ck (I.y.dyn e)=Z at*
 have LM:t1.lvl<t1.lvl+1:=Nat.lt_succ_self _
 have nH:=JI LM
 subst fL
 obtain⟨⟨Inv,LN,D5⟩,aj⟩:=gu
 rw[qf]at D5
 have cn: ∀L,bo (fun i (v:bY (cm S I.J.ps))=>c4 M (t1.lvl+1) cur (cm S I.J.ps) (t1.rel (fI (t1.lvl+1))) (bl (ba.put e kx ⟨.int .i64,(i:Int)⟩) (cm S I.J.ps) v) v) 0 Z.toNat (b8 _ (dC e (cm S I.J.ps)))=L→
  run M (aB.ei (t1.lvl+1) cur (.q3 (.int .i64) I.y) kx (cm S I.J.ps) (t1.rel (fI (t1.lvl+1))) (.cG (.ext cur) ⟨fi I.cf.l,I.cf.h,I.cf.n,kx,S.g⟩)) e=Sum.elim (fun r=>r) (fun v=>some (.ext cur,⟨fi I.cf.l,I.cf.h,I.cf.n,kx,S.g⟩,bl e (cm S I.J.ps) v)) L:=fun L fJ=>by
  rw[Dt,qf,fJ];rfl
 generalize zfj:aB.ei (t1.lvl+1) cur (.q3 (.int .i64) I.y) kx (cm S I.J.ps) (t1.rel (fI (t1.lvl+1))) (.cG (.ext cur) ⟨fi I.cf.l,I.cf.h,I.cf.n,kx,S.g⟩)=qh at cn

 have xm: ∀(i:Nat) (v:bY (cm S I.J.ps)),bX S.k e (bl (ba.put e kx ⟨.int .i64,(i:Int)⟩) (cm S I.J.ps) v):=fun i v j af=>by
  rw[xk aW (.inl af),Env.h7,if_neg (by omega)]
 have LO: ∀(i:Nat) (v:bY (cm S I.J.ps)),Env.at (bl (ba.put e kx ⟨.int .i64,(i:Int)⟩) (cm S I.J.ps) v) kx=⟨.int .i64,(i:Int)⟩:=fun i v=>by
  rw[xk aW (.inr (by omega)),Env.h7,if_pos rfl]
 have zfk: ∀(i:Nat) (v:bY (cm S I.J.ps)),bX kx (bl (ba.put e kx ⟨.int .i64,(i:Int)⟩) (cm S I.J.ps) v) (bl e (cm S I.J.ps) v):=fun i v j af=>by
  refine S6 ?_
  rw[Env.h7,if_neg (by omega)]
 have sL: ∀(v:bY (cm S I.J.ps)),bX S.k e (bl e (cm S I.J.ps) v):=fun v j af=>xk aW (.inl af)
 have zfl:(I.H S).k=kx+1:=by rw[xl,iW]
 have zfm:(I.E S).k=kx:=by rw[D4,iW]
 have S8:I.y.lt kx=true:=gB (by omega) ki
 have LP:(I.H S).cp:=by
  rw[xl];refine iU ⟨fun i x hx=>gB (Nat.le_succ kx) (sC dp (oY hx)),ss (Nat.le_succ kx) c9,?_⟩ (jI (Nat.lt_succ_self kx))
  show(b6.lt (kx+1) (.rg kx I.y)&&fh (kx+1) S.g)=true;simp only[b6.lt,gB (Nat.le_succ kx) S8,jI (Nat.lt_succ_self kx),nD (show S.k≤kx+1 by omega) ad.g,Bool.and_self]
 have zfn:(I.E S).cp:=by
  rw[D4];exact iU ⟨fun i x hx=>sC dp (oY hx),c9,nD (show S.k≤kx by omega) ad.g⟩ S8
 have S9: ∀ay,bX S.k e ay→ck (I.y.dyn ay)=Z:=fun ay h=>by rw[q1 h ki,r0]
 have LQ: ∀(i:Nat) (v:bY (cm S I.J.ps)),i<Z.toNat→(I.H S).cq (bl (ba.put e kx ⟨.int .i64,(i:Int)⟩) (cm S I.J.ps) v):=fun i v hi=>by
  rw[xl];refine iV fun d hd=>?_
  rcases List.mem_cons.1 hd with rfl|hd
  ·show 0≤ck (Env.at _ kx)∧ck (Env.at _ kx)<ck (I.y.dyn _)
   rw[LO,S9 _ (xm i v)];show 0≤(i:Int)∧(i:Int)<Z;omega
  ·exact h8 (xm i v) ad.g e7 d hd
 have zfo: ∀(i:Nat) (v:bY (cm S I.J.ps)),(I.E S).cq (bl (ba.put e kx ⟨.int .i64,(i:Int)⟩) (cm S I.J.ps) v):=fun i v=>by
  rw[D4];exact iV (h8 (xm i v) ad.g e7)
 have D6: ∀df:aq,df=⟨fi I.cf.l,I.cf.h,I.cf.n,kx,S.g⟩→df.cp:=fun df h=>by
  subst h;exact⟨fun i x hx=>sC BV (oY hx),BW,nD (show S.k≤kx by omega) ad.g⟩

 have lA: ∀(v:bY (cm S I.J.ps)) (st:aO),run M qh e=some (.ext cur,⟨fi I.cf.l,I.cf.h,I.cf.n,kx,S.g⟩,bl e (cm S I.J.ps) v)→cl st ((aq.mk (fi I.cf.l) I.cf.h I.cf.n kx S.g).den G N B (bl e (cm S I.J.ps) v))→js G N B M qh e S.k (.exit cur) st:=fun v st aa ae=>
  ⟨.ext cur,_,_,aa,rfl,ae,D6 _ rfl,h8 (sL v) ad.g e7,sL v,(show S.k≤kx by omega)⟩
 refine zfc (n:=Z.toNat) (b:=fun i (v:bY (cm S I.J.ps))=>c4 M (t1.lvl+1) cur (cm S I.J.ps) (t1.rel (fI (t1.lvl+1))) (bl (ba.put e kx ⟨.int .i64,(i:Int)⟩) (cm S I.J.ps) v) v) (a0:=b8 _ (dC e (cm S I.J.ps)))
  (hd:=fun i v=>(I.H S).den G N B (bl (ba.put e kx ⟨.int .i64,(i:Int)⟩) (cm S I.J.ps) v)) (I:=Inv) ?_ LN (fun k v oz bW fJ=>?_) (fun v bW fJ=>?_)
 ·rw[LH,xl]
  exact SY (g':=S.g) aW rp dp c9 e7 jy vG vH pJ yw (bX.refl _ _) (by rw[eZ gl];rfl)
 ·obtain⟨c1,di⟩:=D5 k v oz bW
  have xn:=hf (I.H S) (bl (ba.put e kx ⟨.int .i64,(k:Int)⟩) (cm S I.J.ps) v) LP (LQ k v oz) (by rw[Ae];exact(kL nH).1 c1)
  refine b2.mono xn fun ex st ⟨x,aS,aA,aa,ae,av,aQ,bL,cT,fr⟩=>?_
  rw[Ae]at aa;rw[zfl]at cT fr;obtain⟨LR,LS⟩:=S5 r1 (nK aa)
  have oO:run M (t1.rel (fI (t1.lvl+1))) (bl (ba.put e kx ⟨.int .i64,(k:Int)⟩) (cm S I.J.ps) v)=some (fI (t1.lvl+1) x,aS,aA):=by rw[vC nH,aa];rfl
  have lB:c4 M (t1.lvl+1) cur (cm S I.J.ps) (t1.rel (fI (t1.lvl+1))) (bl (ba.put e kx ⟨.int .i64,(k:Int)⟩) (cm S I.J.ps) v) v=ee (t1.lvl+1) cur (cm S I.J.ps) (fun x S e=>some (x,S,e)) (fI (t1.lvl+1) x) aS aA:=by
   unfold c4;rw[oO]
  have uP:bX S.k e aA:=bX.trans (xm k v) cT (by omega)
  have out: ∀ex,zS x ex→fI (t1.lvl+1) x=x→x.bT (t1.lvl+1)=false→x.cX cur=false→js G N B M qh e S.k ex st:=fun ex ae hm af hx=>by
   rw[hm,j3 af hx]at lB
   have:=cn _ (zcF fJ oz lB)
   exact⟨x,aS,aA,this,ae,av,aQ,bL,uP,by omega⟩
  cases x with
  |kZ m=>cases ex<;>exact ae.elim
  |ret=>cases ex<;>first|exact ae.elim|exact out _ ae rfl rfl rfl
  |cj=>
   cases ex with
   |normal=>
    have hx:=LR rfl
    simp only[D1,Bool.and_eq_true]at hx;rw[nA (x:=fI (t1.lvl+1) .cj) (show b0.bT (t1.lvl+1) (.kZ (t1.lvl+1))=true from Nat.beq_refl _)]at lB
    refine⟨_,lB,di _ (by rw[iL,lB];rfl),av.trans ?_⟩
    simp only[xl];refine SY (g':=S.g) aW rp dp c9 bL hx.1 vG vH pJ yw uP (zfg hx.2 bL ?_ (by omega))
    rw[cT kx (Nat.lt_succ_self kx),LO]
   |_=>exact ae.elim
  |ext m=>
   cases ex with
   |exit uQ=>
    have ae:m=uQ:=ae
    subst ae
    cases hm:Nat.beq m cur with
    |false=>exact out _ rfl rfl rfl hm
    |true=>
     have:=Nat.eq_of_beq_eq_true hm
     subst this;rw[nB (x:=fI (t1.lvl+1) (.ext m)) (show b0.bT (t1.lvl+1) (.ext m)=false from rfl) (show b0.cX m (.ext m)=true from hm)]at lB
     have mh:=cn _ (zcG fJ oz lB)
     refine lA _ st mh (av.trans ?_)
     rw[Ab];exact DB (J:=⟨I.cf.l,I.cf.h,I.cf.n,I.J.ps⟩) aW bL (LS rfl) (g:=S.g) uP
   |_=>exact ae.elim
 ·cases LU:t2.xi cur with
  |none=>rw[LU]at vI;cases vI
  |some dM=>
   rw[LU]at vI;simp only[Bool.and_eq_true]at vI;obtain⟨ri,o6⟩:=vI;obtain⟨s1,bh,s2⟩:=S3 (M:=M) (e:=bl (ba.put e kx ⟨.int .i64,(Z.toNat:Int)⟩) (cm S I.J.ps) v) LU
   have xn:=hf (I.E S) (bl (ba.put e kx ⟨.int .i64,(Z.toNat:Int)⟩) (cm S I.J.ps) v) zfn (zfo _ v) (by rw[S7];exact s1)
   have mq:(I.E S).den G N B (bl (ba.put e kx ⟨.int .i64,(Z.toNat:Int)⟩) (cm S I.J.ps) v)=(I.H S).den G N B (bl (ba.put e kx ⟨.int .i64,(Z.toNat:Int)⟩) (cm S I.J.ps) v):=by
    rw[D4,xl,e9,e9]
    have aa:I.y.den G (bl (ba.put e kx ⟨.int .i64,(Z.toNat:Int)⟩) (cm S I.J.ps) v)= .au (.v (.int .i64 Z)):=by
     rw[jn LL,←lv LL,S9 _ (xm _ v)]
    have ae:(ab.aT (.int .i64) kx).den G (bl (ba.put e kx ⟨.int .i64,(Z.toNat:Int)⟩) (cm S I.J.ps) v)= .au (.v (.int .i64 Z)):=by
     simp only[ab.den,LO,cz,fF,jY];rw[Int.toNat_of_nonneg rM]
    rw[aa,ae];rfl
   rw[mq]at xn;refine b2.mono xn fun ex st ⟨x,aS,aA,aa,ae,av,aQ,bL,cT,fr⟩=>?_
   rw[S7,s2]at aa;cases aa;rw[zfm]at cT
   cases ex with
   |exit m=>
    have ae:cur=m:=ae
    subst ae;refine lA v st (cn _ fJ) (av.trans ?_)
    have hle:=DB (G:=G) (N:=N) (B:=B) (J:=⟨I.cf.l,I.cf.h,I.cf.n,I.J.ps⟩) aW bL ri (g:=S.g) (bX.trans (xm _ v) cT (by omega):bX S.k e bh)
    refine hle.trans ?_
    have c8:bX kx (fR e (fun r p=>⟨r,(p.dg dM).get bh r⟩) I.J.ps) (bl e (cm S I.J.ps) v):=fun i hi=>by
     rcases Nat.lt_or_ge i S.k with bI|h0
     ·rw[zL aW i bI,sL v i bI]
     ·obtain⟨r,p,ak⟩:=zfh aW h0 (by omega)
      rw[KP aW ak,S4 o6 ak]
      have ot:=(R7 aW ak).2.2
      have ah:(ab.aT r i).get bh r=(Env.at bh i).aG r:=by
       cases r<;>first|(simp only[ab.get,ab.az,ab.fo,ab.dyn,cz];done)|cases ot
      rw[ah,cT i hi,←zfk Z.toNat v i hi]
      have uR:=SW (S:=S) (e:=e) (v:=v) aW ak
      generalize Env.at (bl e (cm S I.J.ps) v) i=d at uR⊢;obtain⟨eP,iB⟩:=d;simp only at uR;subst uR;rw[cz]
    have Lp:=D6 ⟨fi I.cf.l,I.cf.h,I.cf.n,kx,S.g⟩ rfl
    have zfp:=k1 (G:=G) (N:=N) (B:=B) (S:=⟨fi I.cf.l,I.cf.h,I.cf.n,kx,S.g⟩) c8 Lp
    rw[zfp];exact cl.refl _
   |_=>exact ae.elim
end
end Go.aK
namespace Go.aK
open Go
def sM(J cf:gq)(aX cur:Nat):List (b0 × aq)→Bool
 |[]=>true
 |(.cj,aS)::r=>jr (mg J (Nat.max aS.n J.n)) aX aS&&sM J cf aX cur r
 |(.ext m,aS)::r=>(match Nat.beq m cur with
  |true=>jr cf aX aS
  |false=>true)&&sM J cf aX cur r
 |_::r=>sM J cf aX cur r
def Ta(B cur:Nat)(S:aq)(J cf:gq)(t1:aB):Bool:=
 (ia S.k J.ps&&(rj (S.k+J.ps.length) J.l&&eE (S.k+J.ps.length) J.h))&&((jr (mg J (Nat.max S.n J.n)) S.k S&&(uM J.n J.l&&nI J.n J.h))&&(Nat.ble B J.n&&(sM J ⟨cf.l,cf.h,cf.n,J.ps⟩ S.k cur t1.ends&&(rj (S.k+J.ps.length) cf.l&&eE (S.k+J.ps.length) cf.h))))
def Tb(B cur:Nat)(S:aq)(J cf:gq)(t1:aB):aB:=
 match Ta B cur S J cf t1 with
 |true=>.eY (t1.lvl+1) cur (cm S J.ps) (t1.rel (fI (t1.lvl+1))) (.cG (.ext cur) ⟨fi cf.l,cf.h,cf.n,S.k+J.ps.length,S.g⟩)
 |false=>.bad (xg t1.mW 61)
def D7(B:Nat)(f:aq→aB)(cur:Nat)(S:aq)(J cf:gq):aB:=Tb B cur S J cf (f (J.S S.k S.g))
def Af(cur:Nat):List (b0 × aq)→List aq × List aq
 |[]=>([],[])
 |(.cj,S)::r=>match Af cur r with
  |(a,b)=>(S::a,b)
 |(.ext m,S)::r=>match Af cur r with
  |(a,b)=>match Nat.beq m cur with
   |true=>(a,S::b)
   |false=>(a,b)
 |_::r=>Af cur r
def D8(S:aq):Nat→Nat→List (Nat × ab)
 |0,_=>[]
 |n+1,i=>match S.at i with
  | .top=>D8 S n (i+1)
  |x=>(i,x)::D8 S n (i+1)
def zfq(N aX cur:Nat)(S:aq)(t:aB):gq:=
 match Af cur t.ends with
 |(a,b)=>mg (zM N aX S (a++b)) S.n
def Tc:fK→fK→Bool
 |[],[]=>true
 |(i,r,p)::l,(j,q,u)::m=>(Nat.beq i j&&hJ r q)&&(nG p u&&Tc l m)
 |_,_=>false
def Ag{α:Type}:List α→Nat
 |[]=>0
 |_::r=>Nat.succ (Ag r)
def zfr(J K:gq):Bool:=Tc J.ps K.ps&&(Nat.beq (Ag J.l) (Ag K.l)&&Nat.beq (Ag J.h) (Ag K.h))
def LV(N:Nat)(f:aq→aB)(cur:Nat)(S:aq):Nat→gq→aB→gq × aB
 |0,J,t=>(J,t)
 |n+1,J,t=>match zfq N S.k cur S t with
  |K=>match zfr J K with
   |true=>(K,t)
   |false=>LV N f cur S n K (f (K.S S.k S.g))
def LW(j:Nat):List (Nat × bJ)→Option bJ
 |[]=>none
 |(i,x)::r=>match Nat.beq i j with
  |true=>some x
  |false=>LW j r
inductive LX where
 |dg (y:ab)
 |ex (x:bJ)
 |none
def zfs(aX:Nat)(ds:List (Nat × bJ))(y:ab):LX:=
 match y.lt aX with
 |true=>.dg y
 |false=>match y with
  | .aT (.int .i64) j=>match LW j ds with
   |some (.f1 .nz x)=>match x.lt aX with
    |true=>.ex (.f1 .nz x)
    |false=>.none
   |some (.f1 (.iJ c) x)=>match x.lt aX with
    |true=>.ex (.f1 (.iJ c) x)
    |false=>.none
   |_=>.none
  |_=>.none
def Td(aX cur i:Nat):aB→List (Nat × bJ)→LX
 | .lt j x t,ds=>Td aX cur i t ((j,x)::ds)
 | .it (.aT .bool g) _ b,ds=>match LW g ds with
  |some (.f2 (.oK .lss .i64) (.aT (.int .i64) yR) y)=>match Nat.beq yR i with
   |true=>match b.xi cur with
    |some _=>zfs aX ds y
    |none=>.none
   |false=>.none
  |_=>.none
 |_,_=>.none
def Te(i s:Nat):List aq→Bool
 |[]=>true
 |S::r=>D0 i s S&&Te i s r
def zft(x:ab):Bool:=eF x (.cs (.int .i64 0))
def D9(S:aq)(cur:Nat)(t:aB)(Ea:List aq):fK→Option (Nat × LX)
 |[]=>none
 |(i,.int .i64,.slot s [])::l=>match zft (S.at s)&&Te i s Ea with
  |true=>match Td S.k cur i t []with
   | .none=>D9 S cur t Ea l
   |b=>some (s,b)
  |false=>D9 S cur t Ea l
 |_::l=>D9 S cur t Ea l
def Tf(s:Nat):List aq→List aq
 |[]=>[]
 |S::r=>S.put (some s) .top::Tf s r
def LY(N aX:Nat)(S:aq)(s:Nat)(y:ab)(a b:List aq):o8:=
 match mg (zM N aX (S.put (some s) .top) (Tf s (a++b))) S.n with
 |J=>⟨J,mg J (DD S.n b),s,y⟩
def Eb(N:Nat)(f:aq→aB):Nat→aq→aB
 |0,_=>.bad 63
 |n+1,S=>iA N S (f S) (Eb N f n)
def zfu(y:ab):Option Nat:=
 match y with
 | .cs (.int .i64 (.ofNat n))=>match Nat.ble n 16 with
  |true=>some (n+1)
  |false=>none
 |_=>none
def aB.o9:aB→Bool
 | .cG _ _=>false
 | .lt _ _ t=>t.o9
 | .eD _ t=>t.o9
 | .it _ a b=>a.o9||b.o9
 | .dz _ a _ k=>a.o9||k.o9
 | .ei _ _ _ _ _ a k=>a.o9||k.o9
 | .eY _ _ _ a k=>a.o9||k.o9
 | .bad _=>true
def Tg(t:aB)(u:Unit→aB):aB:=
 match t.o9 with
 |true=>u ()
 |false=>t
def Th(N B:Nat)(f:aq→aB)(cur:Nat)(S:aq):gq × aB→aB
 |(J,t)=>match Af cur t.ends with
  |(a,b)=>match D9 S cur t a J.ps with
   |some (s,.dg y)=>match zfu y with
    |some n=>Tg (xj N B f cur S (LY N S.k S s y a b)) fun _=>Eb N f n S
    |none=>xj N B f cur S (LY N S.k S s y a b)
   |some (s,.ex x)=>match ho S.k [x]with
    |true=>emit S.k [x] [] (xj N B f cur (S.e0 S.k [x]) (LY N (S.k+1) S s (.aT (.int .i64) S.k) a b))
    |false=>.bad 62
   |_=>D7 B f cur S J (mg J (DD S.n b))
def Ec(x:ab):Bool:=eF x (.cs (.slice none 0 0))
def zfv(n i:Nat)(S:aq):Option (TypeId × bF):=
 match S.at i with
 | .aM id=>match Nat.ble n id,da S.h id with
  |true,some (.rw t c _)=>some (t,c)
  |_,_=>none
 |_=>none
def Ti(n i:Nat):List aq→Option (TypeId × bF)
 |[]=>none
 |S::r=>match zfv n i S with
  |some x=>some x
  |none=>Ti n i r
def Ed(S:aq)(a:List aq):Nat→Nat→List (Nat × TypeId × bF)
 |0,_=>[]
 |k+1,i=>match Ec (S.at i)with
  |true=>match Ti S.n i a with
   |some (t,c)=>(i,t,c)::Ed S a k (i+1)
   |none=>Ed S a k (i+1)
  |false=>Ed S a k (i+1)
def mX(N B:Nat):List (Nat × TypeId × bF)→aq→aq
 |[],S=>S
 |(i,t,c)::r,S=>match Ec (S.at i)&&(Nat.blt i N&&Nat.ble B S.n)with
  |true=>mX N B r ⟨S.l.put i (.aM S.n),(S.n,.rw t c (.cs (.slice none 0 0)))::S.h,S.n+1,S.k,S.g⟩
  |false=>mX N B r S
def rq(N B:Nat)(f:aq→aB)(cur:Nat)(S:aq)(t:aB):aB:=
 Th N B f cur S (LV N f cur S 6 ⟨D8 S N 0,S.h,S.n,[]⟩ t)
def aB.lC:aB→List aq
 | .cG _ S=>[S]
 | .lt _ _ t=>t.lC
 | .eD _ t=>t.lC
 | .it _ a b=>a.lC++b.lC
 | .dz _ a _ k=>a.lC++k.lC
 | .ei _ _ _ _ _ a k=>a.lC++k.lC
 | .eY _ _ _ a k=>a.lC++k.lC
 | .bad _=>[]
def zfw(n id off:Nat)(S:aq):Option (TypeId × bF):=
 match da S.h id with
 |some (.dm _ l)=>match eT .top l off with
  | .aM k=>match Nat.ble n k,da S.h k with
   |true,some (.rw t c _)=>some (t,c)
   |_,_=>none
  |_=>none
 |_=>none
def Tj(n id off:Nat):List aq→Option (TypeId × bF)
 |[]=>none
 |S::r=>match zfw n id off S with
  |some x=>some x
  |none=>Tj n id off r
def Ee(S:aq)(a:List aq)(id:Nat):Nat→List ab→List (Nat × Nat × TypeId × bF)
 |_,[]=>[]
 |off,x::r=>match Ec x with
  |true=>match Tj S.n id off a with
   |some (t,c)=>(id,off,t,c)::Ee S a id (off+1) r
   |none=>Ee S a id (off+1) r
  |false=>Ee S a id (off+1) r
def xo(S:aq)(a:List aq):List (Nat × bB)→List (Nat × Nat × TypeId × bF)
 |[]=>[]
 |(id,.dm _ l)::r=>Ee S a id 0 l++xo S a r
 |_::r=>xo S a r
def j7(B:Nat):List (Nat × Nat × TypeId × bF)→aq→aq
 |[],S=>S
 |(id,off,t,c)::r,S=>match da S.h id with
  |some (.dm bt l)=>match(match l[off]? with|some x=>Ec x|none=>false)&&Nat.ble B S.n with
   |true=>j7 B r ⟨S.l,jl ((S.n,.rw t c (.cs (.slice none 0 0)))::S.h) id (.dm bt (l.set off (.aM S.n))),S.n+1,S.k,S.g⟩
   |false=>j7 B r S
  |_=>j7 B r S
def Tk(N B:Nat)(f:aq→aB)(cur:Nat)(S:aq)(t:aB):aB:=
 match Ed S t.lC N 0 with
 |[]=>match xo S t.lC S.h with
  |[]=>rq N B f cur S t
  |q::qs=>rq N B f cur (j7 B (q::qs) S) (f (j7 B (q::qs) S))
 |p::r=>rq N B f cur (j7 B (xo S t.lC S.h) (mX N B (p::r) S)) (f (j7 B (xo S t.lC S.h) (mX N B (p::r) S)))
def LZ(N B:Nat)(f:aq→aB)(cur:Nat)(S:aq):aB:=Tk N B f cur S (f S)
section
variable {P:Program} {G:a8} {N B:Nat} {M:List aR}
theorem Tl{J cf:gq}{aX cur:Nat}: ∀{l:List (b0 × aq)},sM J cf aX cur l=true→∀{x:b0} {aS:aq},(x,aS)∈l→(x= .cj→jr (mg J (Nat.max aS.n J.n)) aX aS=true)∧(x= .ext cur→jr cf aX aS=true)
 |(y,dM)::r,h,x,aS,hm=>by
  have bd:sM J cf aX cur r=true∧(y= .cj→jr (mg J (Nat.max dM.n J.n)) aX dM=true)∧(y= .ext cur→jr cf aX dM=true):=by
   cases y with
   |cj=>
    simp only[sM,Bool.and_eq_true]at h;exact⟨h.2,fun _=>h.1,fun e=>(by cases e)⟩
   |ext m=>
    simp only[sM,Bool.and_eq_true]at h;refine⟨h.2,fun e=>(by cases e),fun e=>?_⟩
    cases e
    have aa:=h.1
    rw[Nat.beq_refl]at aa;exact aa
   |ret=>exact⟨h,fun e=>(by cases e),fun e=>(by cases e)⟩
   |kZ m=>exact⟨h,fun e=>(by cases e),fun e=>(by cases e)⟩
  rcases List.mem_cons.1 hm with q|q
  ·cases q;exact bd.2
  ·exact Tl bd.1 q
theorem zfx{c:Code}{R A:Type}{n:Nat}{b:A→Step R A}{a0:A}{hd:A→aO}{Q:Exit→aO→Prop}{dq:aO}{I:A→Prop}
    (aP:cl dq (hd a0))(hi:I a0)(he:j0 b n a0)
    (ag: ∀a,I a→(∀r,b a= .ret r→c5 b n a0= .inl r)→(∀v,b a= .cK v→c5 b n a0= .inr v)→b2 P G c (fun e st=>match e with
      | .normal=>∃bc,b a= .bq bc∧I bc∧cl st (hd bc)
      |e=>Q e st) (hd a)):b2 P G (.loop c) Q dq:=by
  refine b2.loop (ι:=Nat × A) (fun x=>hd x.2) (fun x=>(c5 b n a0=c5 b x.1 x.2∧j0 b x.1 x.2)∧I x.2) (fun x=>x.1) (n,a0) aP ⟨⟨rfl,he⟩,hi⟩ ?_
  rintro⟨k,a⟩ ⟨fJ,bW⟩
  refine b2.mono (ag a bW (fun r ad=>zcR fJ ad) (fun v ad=>zcS fJ ad)) fun e st ai=>?_
  cases e with
  |normal=>
    obtain⟨bc,aa,av,ae⟩:=ai;obtain⟨m,aQ,bL⟩:=zcQ fJ aa;exact⟨(m,bc),⟨bL,av⟩,by show m<k;omega,ae⟩
  |_=>exact ai
theorem Tm{J:gq}{aX kx:Nat}{S0 aS:aq}{e aA:Env}{k:Nat}{g g':List b6}(ak:ia aX J.ps=true)(lU: ∀c∈aS.g,c.ok aA)(h:jr (mg J (Nat.max aS.n J.n)) aX aS=true)(h6:uM J.n J.l=true)(oE:nI J.n J.h=true)(fy:B≤J.n)(bS:bX aX e aA):
 cl (aS.den G N B aA) ((aq.mk (fi J.l) J.h J.n k g).den G N B (bl e (cm S0 J.ps) (b8 _ (fw aS aA (cm S0 J.ps))))):=by
 have aa:=KQ (G:=G) (N:=N) (B:=B) (J:=mg J (Nat.max aS.n J.n)) ak lU h (g:=g') bS
 refine aa.le.trans ?_
 rw[Ab]
 refine cl.low (m:=Nat.max aS.n J.n) ?_ ?_ fy
 ·exact LI (n:=J.n) (l:=fi J.l) (fun i x hx=>LJ h6 (oY hx)) N 0
 ·exact w7 oE
theorem zfy{c:Code}{f:aq→aB}(hf:iT P G N B M c f){cur:Nat}{S:aq}{J cf:gq}{e:Env}(ad:S.cp)(e7:S.cq e)(ai:(D7 B f cur S J cf).safe M e):b2 P G (.loop c) (js G N B M (D7 B f cur S J cf) e S.k) (S.den G N B e):=by
 unfold D7 Tb at ai⊢
 split at ai
 rotate_left
 ·exact ai.elim
 rename_i sK
 generalize Ae:f (J.S S.k S.g)=t1 at ai sK⊢
 simp only[Ta,Bool.and_eq_true]at sK
 obtain⟨⟨aW,dp,c9⟩,⟨jy,vG,vH⟩,pJ,r1,BV,BW⟩:=sK
 have pJ:=Nat.le_of_ble_eq_true pJ
 have LM:t1.lvl<t1.lvl+1:=Nat.lt_succ_self _
 have nH:=JI LM
 obtain⟨⟨Inv,LN,D5⟩,L0,aj⟩:=ai
 generalize rp:S.k+J.ps.length=kx at*
 have hle:S.k≤kx:=by rw[←rp];exact Nat.le_add_right _ _
 have cn: ∀L,c5 (fun(v:bY (cm S J.ps))=>c4 M (t1.lvl+1) cur (cm S J.ps) (t1.rel (fI (t1.lvl+1))) (bl e (cm S J.ps) v) v) dT (b8 _ (dC e (cm S J.ps)))=L→
  run M (aB.eY (t1.lvl+1) cur (cm S J.ps) (t1.rel (fI (t1.lvl+1))) (.cG (.ext cur) ⟨fi cf.l,cf.h,cf.n,kx,S.g⟩)) e=Sum.elim (fun r=>r) (fun v=>some (.ext cur,⟨fi cf.l,cf.h,cf.n,kx,S.g⟩,bl e (cm S J.ps) v)) L:=fun L fJ=>by
  rw[Du,fJ];rfl
 have zfz:j0 (fun(v:bY (cm S J.ps))=>c4 M (t1.lvl+1) cur (cm S J.ps) (t1.rel (fI (t1.lvl+1))) (bl e (cm S J.ps) v) v) dT (b8 _ (dC e (cm S J.ps))):=
  (JG (fun _=>()) (fun v=>iL _ _ _ _ _ v) _ _).1 L0
 generalize zfj:aB.eY (t1.lvl+1) cur (cm S J.ps) (t1.rel (fI (t1.lvl+1))) (.cG (.ext cur) ⟨fi cf.l,cf.h,cf.n,kx,S.g⟩)=qh at cn
 have sL: ∀(v:bY (cm S J.ps)),bX S.k e (bl e (cm S J.ps) v):=fun v j af=>xk aW (.inl af)
 have LP:(J.S S.k S.g).cp:=⟨fun i x hx=>by show x.lt (S.k+J.ps.length)=true;rw[rp];exact sC dp (oY hx),by show eE (S.k+J.ps.length) J.h=true;rw[rp];exact c9,by show fh (S.k+J.ps.length) S.g=true;rw[rp];exact nD hle ad.g⟩
 have LQ: ∀(v:bY (cm S J.ps)),(J.S S.k S.g).cq (bl e (cm S J.ps) v):=fun v=>h8 (sL v) ad.g e7
 have D6: ∀df:aq,df=⟨fi cf.l,cf.h,cf.n,kx,S.g⟩→df.cp:=fun df h=>by
  subst h;exact⟨fun i x hx=>sC BV (oY hx),BW,nD hle ad.g⟩
 refine zfx (n:=dT) (b:=fun(v:bY (cm S J.ps))=>c4 M (t1.lvl+1) cur (cm S J.ps) (t1.rel (fI (t1.lvl+1))) (bl e (cm S J.ps) v) v) (a0:=b8 _ (dC e (cm S J.ps)))
  (hd:=fun v=>(J.S S.k S.g).den G N B (bl e (cm S J.ps) v)) (I:=Inv) ?_ LN zfz (fun v bW zfA zfB=>?_)
 ·rw[LH]
  exact Tm (kx:=kx) (g':=S.g) aW e7 jy vG vH pJ (bX.refl _ _)
 ·obtain⟨c1,di⟩:=D5 v bW
  have xn:=hf (J.S S.k S.g) (bl e (cm S J.ps) v) LP (LQ v) (by rw[Ae];exact(kL nH).1 c1)
  refine b2.mono xn fun ex st ⟨x,aS,aA,aa,ae,av,aQ,bL,cT,fr⟩=>?_
  rw[Ae]at aa
  have zfC:(J.S S.k S.g).k=kx:=rp
  rw[zfC]at cT fr;obtain⟨LR,LS⟩:=Tl r1 (nK aa)
  have oO:run M (t1.rel (fI (t1.lvl+1))) (bl e (cm S J.ps) v)=some (fI (t1.lvl+1) x,aS,aA):=by rw[vC nH,aa];rfl
  have lB:c4 M (t1.lvl+1) cur (cm S J.ps) (t1.rel (fI (t1.lvl+1))) (bl e (cm S J.ps) v) v=ee (t1.lvl+1) cur (cm S J.ps) (fun x S e=>some (x,S,e)) (fI (t1.lvl+1) x) aS aA:=by
   unfold c4;rw[oO]
  have uP:bX S.k e aA:=bX.trans (sL v) cT hle
  have out: ∀ex,zS x ex→fI (t1.lvl+1) x=x→x.bT (t1.lvl+1)=false→x.cX cur=false→js G N B M qh e S.k ex st:=fun ex ae hm af hx=>by
   rw[hm,j3 af hx]at lB;exact⟨x,aS,aA,cn _ (zfA _ lB),ae,av,aQ,bL,uP,Nat.le_trans hle fr⟩
  cases x with
  |kZ m=>cases ex<;>exact ae.elim
  |ret=>cases ex<;>first|exact ae.elim|exact out _ ae rfl rfl rfl
  |cj=>
   cases ex with
   |normal=>
    rw[nA (x:=fI (t1.lvl+1) .cj) (show b0.bT (t1.lvl+1) (.kZ (t1.lvl+1))=true from Nat.beq_refl _)]at lB
    exact⟨_,lB,di _ (by rw[iL,lB];rfl),av.trans (Tm (kx:=kx) (g':=S.g) aW bL (LR rfl) vG vH pJ uP)⟩
   |_=>exact ae.elim
  |ext m=>
   cases ex with
   |exit uQ=>
    have ae:m=uQ:=ae
    subst ae
    cases hm:Nat.beq m cur with
    |false=>exact out _ rfl rfl rfl hm
    |true=>
     have:=Nat.eq_of_beq_eq_true hm
     subst this;rw[nB (x:=fI (t1.lvl+1) (.ext m)) (show b0.bT (t1.lvl+1) (.ext m)=false from rfl) (show b0.cX m (.ext m)=true from hm)]at lB
     refine⟨.ext m,_,_,cn _ (zfB _ lB),rfl,av.trans ?_,D6 _ rfl,h8 (sL _) ad.g e7,sL _,hle⟩
     rw[Ab];exact DB (J:=⟨cf.l,cf.h,cf.n,J.ps⟩) aW bL (LS rfl) (g:=S.g) uP
   |_=>exact ae.elim
theorem Tn{c:Code}{f:aq→aB}(hf:iT P G N B M c f){Q:Exit→aO→Prop}: ∀(n:Nat) {S:aq} {e:Env},S.cp→S.cq e→(Eb N f n S).safe M e→(∀ex st,js G N B M (Eb N f n S) e S.k ex st→Q ex st)→we P G c Q n (S.den G N B e)
 |0,_,_,_,_,ai,_=>ai.elim
 |n+1,S,e,ad,e7,ai,eo=>by
  obtain⟨t1,t2,t3⟩:=DF (G:=G) (B:=B) ad e7 ai;refine we.rd n (b2.mono (hf S e ad e7 t1) fun ex st ak=>?_)
  obtain⟨x,df,ay,aa,ae,av,aQ,bL,cT,fr⟩:=ak
  have other:x≠ .cj→Q ex st:=fun b7=>eo ex st ⟨x,df,ay,t2 x df ay aa b7 (Sv ae),ae,av,aQ,bL,cT,fr⟩
  cases x with
  |cj=>
   cases ex with
   |normal=>
    obtain⟨dM,bh,s1,s2,o1,o2,o3,o4,o5⟩:=t3 df ay aa aQ bL cT fr
    have:=Tn hf n s2 o1 o4 (Q:=Q) fun ex st ak=>eo ex st (ak.sub o5 o2 o3)
    exact fun E a w ag=>this E a w (s1 E G a w (av E G a w ag))
   |_=>exact ae.elim
  |ret=>cases ex<;>first|exact ae.elim|exact other (by simp)
  |ext n=>cases ex<;>first|exact ae.elim|exact other (by simp)
  |kZ n=>cases ex<;>exact ae.elim
theorem L1{c:Code}{Q:Exit→aO→Prop}{e:Env}: ∀(l:List (Nat × TypeId × bF)) {S:aq},S.cp→S.cq e→(mX N B l S).cp∧(mX N B l S).cq e∧(mX N B l S).k=S.k∧(b2 P G c Q ((mX N B l S).den G N B e)→b2 P G c Q (S.den G N B e))
 |[],_,ad,hf=>⟨ad,hf,rfl,fun h=>h⟩
 |(i,t,d)::r,S,ad,hf=>by
  unfold mX
  split
  ·rename_i hc
   simp only[Bool.and_eq_true]at hc;obtain⟨aW,dp,c9⟩:=hc
   have fT:(⟨S.l.put i (.aM S.n),(S.n,.rw t d (.cs (.slice none 0 0)))::S.h,S.n+1,S.k,S.g⟩:aq).cp:=by
    refine⟨fun j x hx=>?_,?_,ad.g⟩
    ·simp only[ba.hR]at hx
     split at hx
     ·cases hx;rfl
     ·exact ad.l j x hx
    ·show(bB.lt S.k (.rw t d (.cs (.slice none 0 0)))&&eE S.k S.h)=true
     rw[ad.h];rfl
   obtain⟨aa,ae,av,aQ⟩:=L1 r fT hf;refine⟨aa,ae,av,fun h=>?_⟩
   refine b2.Jh i t (bZ d) ?_ (by rw[uh,if_pos (e6 dp),eZ aW];rfl) c9
   have:=aQ h
   have hd:(⟨S.l.put i (.aM S.n),(S.n,.rw t d (.cs (.slice none 0 0)))::S.h,S.n+1,S.k,S.g⟩:aq).den G N B e={S.den G N B e with cO:=(S.den G N B e).cO.set i (.aM (S.den G N B e).next),heap:=((S.den G N B e).next,.row false t (bZ d) [])::(S.den G N B e).heap,next:=(S.den G N B e).next+1}:=by
    simp only[aq.den,JO,cw,ab.den,bB.den,ab.az,ab.fo,cz];rfl
   rw[hd]at this;exact this
  ·exact L1 r ad hf
theorem Ah{c:Code}{Q:Exit→aO→Prop}{e:Env}: ∀(l:List (Nat × Nat × TypeId × bF)) {S:aq},S.cp→S.cq e→(j7 B l S).cp∧(j7 B l S).cq e∧(j7 B l S).k=S.k∧(b2 P G c Q ((j7 B l S).den G N B e)→b2 P G c Q (S.den G N B e))
 |[],_,ad,hf=>⟨ad,hf,rfl,fun h=>h⟩
 |(id,off,t,d)::r,S,ad,hf=>by
  unfold j7
  split
  ·rename_i bt l ah
   split
   ·rename_i hc
    simp only[Bool.and_eq_true]at hc;obtain⟨aW,c9⟩:=hc
    have ar:=uK ad.h ah
    have fT:(⟨S.l,jl ((S.n,.rw t d (.cs (.slice none 0 0)))::S.h) id (.dm bt (l.set off (.aM S.n))),S.n+1,S.k,S.g⟩:aq).cp:=by
     refine⟨ad.l,DQ (o:=.dm bt (l.set off (.aM S.n))) (Le (x:=.aM S.n) rfl ar) ?_,ad.g⟩
     show(bB.lt S.k (.rw t d (.cs (.slice none 0 0)))&&eE S.k S.h)=true;rw[ad.h];rfl
    obtain⟨aa,ae,av,aQ⟩:=Ah r fT hf;refine⟨aa,ae,av,fun h=>?_⟩
    have:=aQ h
    have bb:aD (S.den G N B e).heap id=some (.box bt (ab.bO G e l)):=by simp only[aq.den,ef,ah,Option.map_some,bB.den]
    have aj:(ab.bO G e l)[off]? =some (.au (.v (.slice none 0 0))):=by
     rw[e5,List.getElem?_map]
     cases hx:l[off]? with
     |none=>rw[hx]at aW;cases aW
     |some x=>
      rw[hx]at aW
      have:=eZ aW
      subst this;rfl
    refine b2.le (cl.zcX (s:=S.den G N B e) id off t (bZ d) bb aj (Nat.le_of_ble_eq_true c9) rfl) ?_
    have hd:(⟨S.l,jl ((S.n,.rw t d (.cs (.slice none 0 0)))::S.h) id (.dm bt (l.set off (.aM S.n))),S.n+1,S.k,S.g⟩:aq).den G N B e={S.den G N B e with heap:=eL (((S.den G N B e).next,.row false t (bZ d) [])::(S.den G N B e).heap) id (.box bt ((ab.bO G e l).set off (.aM (S.den G N B e).next))),next:=(S.den G N B e).next+1}:=by
     simp only[aq.den,sr,cw,bB.den,Lf,ab.den,ab.az,ab.fo,cz];rfl
    rw[hd]at this;exact this
   ·exact Ah r ad hf
  ·exact Ah r ad hf
theorem L2{c:Code}{f:aq→aB}{cur:Nat}{S:aq}{e:Env}{t:aB}(hf:iT P G N B M c f)(ad:S.cp)(e7:S.cq e)(ai:(rq N B f cur S t).safe M e):b2 P G (.loop c) (js G N B M (rq N B f cur S t) e S.k) (S.den G N B e):=by
 unfold rq at ai⊢
 generalize LV N f cur S 6 ⟨D8 S N 0,S.h,S.n,[]⟩ t=zfD at ai⊢
 obtain⟨J,t⟩:=zfD
 simp only[Th]at ai⊢
 split at ai
 ·split at ai
  ·unfold Tg at ai⊢
   split at ai
   ·exact b2.rounds _ (Tn hf _ ad e7 ai fun _ _ h=>h)
   ·exact LK hf ad e7 ai
  ·exact LK hf ad e7 ai
 ·rename_i s x _
  split at ai
  ·rename_i hx
   obtain⟨_,gu⟩:=me ai;obtain⟨cb,a2,a3⟩:=rn (M:=M) (G:=G) (N:=N) (B:=B) ad e7 hx
   have:=LK hf cb a2 gu
   rw[a3]at this;exact b2.mono this fun ex st ak=>ak.sub (by rw[ly]) (jJ (Nat.le_refl _)) (Nat.le_add_right _ _)
  ·exact ai.elim
 ·exact zfy hf ad e7 ai
theorem zfE:Ly P G N B M (LZ N B):=by
 intro c f cur hf S e ad e7 ai
 unfold LZ Tk at ai⊢
 generalize f S=t at ai⊢
 split at ai
 ·split at ai
  ·exact L2 hf ad e7 ai
  ·rename_i q qs _
   obtain⟨aa,ae,av,aQ⟩:=Ah (P:=P) (G:=G) (N:=N) (B:=B) (c:=.loop c) (Q:=js G N B M (rq N B f cur (j7 B (q::qs) S) (f (j7 B (q::qs) S))) e S.k) (e:=e) (q::qs) ad e7;refine aQ ?_
   have:=L2 hf aa ae ai
   rw[av]at this;exact this
 ·rename_i p r _
  generalize xo S t.lC S.h=cM at ai⊢;obtain⟨g1,g2,g3,g4⟩:=L1 (P:=P) (G:=G) (N:=N) (B:=B) (c:=.loop c) (Q:=js G N B M (rq N B f cur (j7 B cM (mX N B (p::r) S)) (f (j7 B cM (mX N B (p::r) S)))) e S.k) (e:=e) (p::r) ad e7;obtain⟨aa,ae,av,aQ⟩:=Ah (P:=P) (G:=G) (N:=N) (B:=B) (c:=.loop c) (Q:=js G N B M (rq N B f cur (j7 B cM (mX N B (p::r) S)) (f (j7 B cM (mX N B (p::r) S)))) e S.k) (e:=e) cM g1 g2;refine g4 (aQ ?_)
  have:=L2 hf aa ae ai
  rw[av,g3]at this;exact this
end
end Go.aK
namespace Go.aK
open Go
def L3(ops:Array Oper)(m:List Bool)(i:Nat)(D:List Nat)(j:Nat):Bool:=
 !(m.toArray.getD j true)&&(!(Nat.beq j i)&&match ops[j]? with
  |some o=>o.after.any fun e=>Region.binds .any e&&(e.on==i||D.contains e.on)
  |none=>false)
def Ef(ops:Array Oper)(m:List Bool)(i:Nat):List Nat→List Nat→List Nat
 |[],D=>D
 |j::r,D=>match L3 ops m i D j with
  |true=>Ef ops m i r (j::D)
  |false=>Ef ops m i r D
def Eg(ops:Array Oper)(wr:List Bool)(m:List Bool)(i:Nat):Bool:=
 match Ef ops m i (List.range ops.size) []with
 |D=>!(wr.getD i false)&&(D.all (L3 ops m i D)&&(List.range ops.size).all fun j=>!(wr.getD j false)||(m.toArray.getD j true||D.contains j))
section
variable {P:Program} {ops:Array Oper} {Q:Exit→Act→World→Prop} {S:World→Prop} {wr:Nat→Bool}
theorem zfF{i:Nat}{oi:Oper}{v:Value}(hi:ops[i]? =some oi)(sf:wr i=false)(kX: ∀(j:Nat) (o:Oper) cs b,ops[j]? =some o→o.op≠ .select cs b)
 (eo: ∀c a w,Q (.panic c) (a.put oi.dst v) w→Q (.panic c) a w)(D:Nat→Prop):
 ∀(fuel:Nat) (listed:Array Bool) (a:Act) (w:World),
  (∀j e4,ops[j]? =some e4→j≠i→listed.getD j true=false→(∀e∈e4.after,Region.binds .any e=true→e.on≠i)→oi.apart ops e4=true)→
  (∀j e4,ops[j]? =some e4→wr j=true→listed.getD j true=false→D j)→
  (∀j,D j→listed.getD j true=false∧j≠i∧∃e4,ops[j]? =some e4∧∃e∈e4.after,Region.binds .any e=true∧(e.on=i∨D e.on))→
  i∈Region.ready .any ops listed→YieldsIf P ops S oi v a→S w→
  kW P ops Q S wr fuel (listed.setIfInBounds i true) (a.put oi.dst v) w→kW P ops Q S wr (fuel+1) listed a w:=by
 intro fuel
 induction fuel with
 |zero=>
  intro listed a w _ _ _ ag ax hS H;refine⟨fun h=>(by rw[h]at ag;cases ag),fun j af=>?_⟩
  by_cases gr:j=i
  ·subst gr;exact ax.wpOp hi hS (.inr ⟨sf,hS,H⟩)
  ·have:=ready_mono af gr
   rw[H.1]at this
   cases this
 |succ fuel aZ=>
  intro listed a w sg zc kf ag ax hS H;refine⟨fun h=>(by rw[h]at ag;cases ag),fun j af=>?_⟩
  by_cases gr:j=i
  ·subst gr;exact ax.wpOp hi hS (.inr ⟨sf,hS,H⟩)
  ·have aa:=H.2 j (ready_mono af gr)
   obtain⟨p0,e4,im,dZ⟩:=mem_ready.1 af
   have un: ∀k,listed.getD k true=false→∀e∈e4.after,Region.binds .any e=true→e.on≠k:=fun k aj e he ad heq=>by
    have aa:=dZ e he ad
    rw[heq]at aa
    rcases Nat.lt_or_ge k listed.size with h'|h'
    ·simp[h']at aj aa;rw[aj]at aa;cases aa
    ·simp[Array.getElem?_eq_none h']at aa
   have tY: ∀e∈e4.after,Region.binds .any e=true→e.on≠i:=un i (mem_ready.1 ag).1
   have To: ¬D j:=fun hd=>by
    obtain⟨_,_,zix,Tp,e,he,ad,bd⟩:=kf j hd;rw[im]at Tp
    cases Tp
    rcases bd with bd|bd
    ·exact tY e he ad bd
    ·exact un e.on (kf _ bd).1 e he ad rfl
   have tZ:wr j=false:=by
    cases hw:wr j with
    |false=>rfl
    |true=>exact absurd (zc j e4 im hw p0) To
   have aa:=wpOp_mono (K':=fun bc w'=>S w'∧kW P ops Q S wr fuel ((listed.setIfInBounds i true).setIfInBounds j true) bc w') (fun bc w' h'=>by
    rcases h' with⟨h',_⟩|⟨_,h'⟩
    ·rw[tZ]at h';cases h'
    ·exact h') aa
   have ae:=wpOp_putIf im (sg j e4 im gr p0 tY) (fun cs b=>kX i oi cs b hi) (fun cs b=>kX j e4 cs b im) eo ax aa
   have low: ∀k,(listed.setIfInBounds j true).getD k true=false→listed.getD k true=false:=fun k hI=>by
    by_cases p1:j=k
    ·subst p1;exact p0
    ·rw[getD_set_ne true p1]at hI;exact hI
   have wk: ∀k ok,ops[k]? =some ok→k≠i→(listed.setIfInBounds j true).getD k true=false→
    (∀e∈ok.after,Region.binds .any e=true→e.on≠i)→oi.apart ops ok=true:=fun k ok aj br hI gf=>sg k ok aj br (low k hI) gf
   have zfG: ∀k,D k→(listed.setIfInBounds j true).getD k true=false∧k≠i∧∃ok,ops[k]? =some ok∧∃e∈ok.after,Region.binds .any e=true∧(e.on=i∨D e.on):=fun k aj=>by
    obtain⟨g1,g2⟩:=kf k aj;refine⟨?_,g2⟩
    have p1:j≠k:=fun bd=>To (by rw[bd];exact aj)
    rw[getD_set_ne true p1];exact g1
   refine wpOp_mono (fun bc w' av=>.inr ⟨tZ,av.2.1,aZ (listed.setIfInBounds j true) bc w' wk (fun k ok aj hw hI=>zc k ok aj hw (low k hI)) zfG (ready_mono ag (Ne.symm gr)) av.1 av.2.1 ?_⟩) ae
   rw[Array.setIfInBounds_comm _ _ gr];exact av.2.2
theorem zfH{i:Nat}{oi:Oper}{v:Value}(hi:ops[i]? =some oi)(sf:wr i=false)(kX: ∀(j:Nat) (o:Oper) cs b,ops[j]? =some o→o.op≠ .select cs b)
 (eo: ∀c a w,Q (.panic c) (a.put oi.dst v) w→Q (.panic c) a w):
 ∀(fuel:Nat) (listed:Array Bool) (a:Act) (w:World),
  (∀j e4,ops[j]? =some e4→j≠i→listed.getD j true=false→(∀e∈e4.after,Region.binds .any e=true→e.on≠i)→oi.apart ops e4=true)→
  i∈Region.ready .any ops listed→Yields P ops oi v a→S w→
  kW P ops Q S wr fuel (listed.setIfInBounds i true) (a.put oi.dst v) w→kW P ops Q S wr (fuel+1) listed a w:=by
 intro fuel
 induction fuel with
 |zero=>
  intro listed a w _ ag ax hS H;refine⟨fun h=>(by rw[h]at ag;cases ag),fun j af=>?_⟩
  by_cases gr:j=i
  ·subst gr;exact ax.yieldsIf.wpOp hi hS (.inr ⟨sf,hS,H⟩)
  ·have:=ready_mono af gr
   rw[H.1]at this
   cases this
 |succ fuel aZ=>
  intro listed a w sg ag ax hS H;refine⟨fun h=>(by rw[h]at ag;cases ag),fun j af=>?_⟩
  by_cases gr:j=i
  ·subst gr;exact ax.yieldsIf.wpOp hi hS (.inr ⟨sf,hS,H⟩)
  ·have aa:=H.2 j (ready_mono af gr)
   obtain⟨p0,e4,im,dZ⟩:=mem_ready.1 af
   have tY: ∀e∈e4.after,Region.binds .any e=true→e.on≠i:=fun e he ad heq=>by
    have aa:=dZ e he ad
    have aP:=(mem_ready.1 ag).1
    rw[heq]at aa
    rcases Nat.lt_or_ge i listed.size with h'|h'
    ·simp[h']at aP aa;rw[aP]at aa;cases aa
    ·simp[Array.getElem?_eq_none h']at aa
   have ae:=wpOp_put im (sg j e4 im gr p0 tY) (fun cs b=>kX i oi cs b hi) (fun cs b=>kX j e4 cs b im) eo ax aa
   have low: ∀k,(listed.setIfInBounds j true).getD k true=false→listed.getD k true=false:=fun k hI=>by
    by_cases p1:j=k
    ·subst p1;exact p0
    ·rw[getD_set_ne true p1]at hI;exact hI
   have wk: ∀k ok,ops[k]? =some ok→k≠i→(listed.setIfInBounds j true).getD k true=false→
    (∀e∈ok.after,Region.binds .any e=true→e.on≠i)→oi.apart ops ok=true:=fun k ok aj br hI gf=>sg k ok aj br (low k hI) gf
   refine wpOp_mono (fun bc w' ⟨mb,av⟩=>?_) ae
   rcases av with⟨hw,av⟩|⟨hw,Tq,av⟩
   ·refine .inl ⟨hw,wpAny_first hi kX eo fuel _ bc w' wk (ready_mono ag (Ne.symm gr)) mb ?_⟩
    rw[Array.setIfInBounds_comm _ _ gr];exact av
   ·refine .inr ⟨hw,Tq,aZ (listed.setIfInBounds j true) bc w' wk (ready_mono ag (Ne.symm gr)) mb Tq ?_⟩
    rw[Array.setIfInBounds_comm _ _ gr];exact av
end
section
variable {P:Program} {G:a8} {Q:Exit→aO→Prop} {L:List Oper} {wr:List Bool}
theorem fG.zfI{fuel:Nat}{m:List Bool}{s bn:aO}(i:Nat){o:Oper}(an:L[i]? =some o)(ak:jH P G L.toArray o s bn)(k:fG P G L Q wr fuel (m.set i true) bn)(ai:Region.noSelect L.toArray=true)
 (hf:Region.free .any L.toArray m.toArray i=true)(ag:(Region.ready .any L.toArray m.toArray).contains i=true)(hw:Eg L.toArray wr m i=true):fG P G L Q wr (fuel+1) m s:=by
 intro E a w dy
 obtain⟨v,aw,qQ⟩:=ak E a w dy
 unfold Eg at hw
 simp only at hw
 generalize kf:Ef L.toArray m i (List.range L.toArray.size) []=D at hw
 simp only[Bool.and_eq_true]at hw
 obtain⟨aa,ae,av⟩:=hw
 refine zfF (i:=i) (oi:=o) (v:=v) (by simpa using an) (by simpa using aa) (Region.noSelect_spec ai) (fun c a w aJ=>?_) (fun j=>D.contains j=true) fuel m.toArray a w (Region.free_spec (by simpa using an) hf) (fun j e4 im tZ hI=>?_) (fun j af=>?_) (by simpa using ag) aw (gd.refl w) (by simpa using k E _ w qQ)
 ·obtain⟨_,⟨h,_⟩,_⟩:=aJ
  cases h
 ·have:=List.all_eq_true.1 av j (List.mem_range.2 (Array.getElem?_eq_some_iff.1 im).1)
  rw[tZ,hI]at this;simpa using this
 ·have hm:j∈D:=by simpa using af
  have:=List.all_eq_true.1 ae j hm
  unfold L3 at this;simp only[Bool.and_eq_true,Bool.not_eq_true']at this;obtain⟨g1,g2,g3⟩:=this;refine⟨g1,fun bd=>(by rw[bd,Nat.beq_refl]at g2;cases g2),?_⟩
  cases im:L.toArray[j]? with
  |none=>rw[im]at g3;cases g3
  |some e4=>
   rw[im]at g3;obtain⟨e,he,ad⟩:=Array.any_eq_true'.1 g3;simp only[Bool.and_eq_true,Bool.or_eq_true,beq_iff_eq]at ad;exact⟨e4,rfl,e,he,ad⟩
theorem fG.zfJ{fuel:Nat}{m:List Bool}{s bn:aO}(i:Nat){o:Oper}(an:L[i]? =some o)(ak:hh P G L.toArray o s bn)(k:fG P G L Q wr fuel (m.set i true) bn)(ai:Region.noSelect L.toArray=true)
 (hf:Region.free .any L.toArray m.toArray i=true)(ag:(Region.ready .any L.toArray m.toArray).contains i=true)(hw:wr.getD i false=false):fG P G L Q wr (fuel+1) m s:=by
 intro E a w dy
 obtain⟨v,aw,qQ⟩:=ak E a w dy
 refine zfH (i:=i) (oi:=o) (v:=v) (by simpa using an) hw (Region.noSelect_spec ai) (fun c a w aJ=>?_) fuel m.toArray a w (Region.free_spec (by simpa using an) hf) (by simpa using ag) aw (gd.refl w) (by simpa using k E _ w qQ)
 obtain⟨_,⟨h,_⟩,_⟩:=aJ
 cases h
theorem fG.any{fuel:Nat}{m:List Bool}{s:aO}(b7:Region.ready .any L.toArray m.toArray≠[])(h: ∀i∈Region.ready .any L.toArray m.toArray,∃o,L[i]? =some o∧∃A:aO→Prop,(∀t,A t→fG P G L Q wr fuel (m.set i true) t)∧
      ∀E a w,Rel E G s a w→(Region.wanted o (yielded L.toArray a.tmps)=true∧∀(K:Act→World→Prop) (Q:Exit→Act→World→Prop),(∀t,A t→∀bc w',Rel E G t bc w'→(wr.getD i false=true∨gd w w')→K bc w')→o.wp P a w K Q)∨(wr.getD i false=false∧Region.wanted o (yielded L.toArray a.tmps)=false∧∃t,A t∧Rel E G t (a.put o.dst undef) w)):fG P G L Q wr (fuel+1) m s:=by
  intro E a w ag;refine⟨fun hn=>absurd hn b7,fun j af=>?_⟩
  obtain⟨o,an,A,k,ai⟩:=h j af
  have eL:m.toArray.setIfInBounds j true=(m.set j true).toArray:=by simp
  have next: ∀t,A t→∀bc w',Rel E G t bc w'→(wr.getD j false=true∨gd w w')→(wr.getD j false=true∧wpAny P .any L.toArray (lift E G (nw Q)) fuel (m.toArray.setIfInBounds j true) bc w')∨(wr.getD j false=false∧gd w w'∧kW P L.toArray (lift E G (nw Q)) (gd w) (fun i=>wr.getD i false) fuel (m.toArray.setIfInBounds j true) bc w'):=fun t aH bc w' dV aj=>by
    rw[eL]
    cases hw:wr.getD j false with
    |true=>exact .inl ⟨rfl,(k t aH).cW E bc w' dV⟩
    |false=>
      rcases aj with aj|aj
      · rw[hw]at aj;cases aj
      · exact .inr ⟨rfl,aj,CF (fun eu ae=>aj.trans ae) _ _ _ _ (k t aH E bc w' dV)⟩
  unfold wpOp;rw[show L.toArray[j]? =some o from by simpa using an]
  simp only
  rcases ai E a w ag with⟨ff,av⟩|⟨hw,ff,t,aQ,av⟩
  · rw[if_pos ff]
    exact .inl (av _ _ next)
  · rw[if_neg (by rw[ff];decide)]
    exact next t aQ _ _ av (.inr (gd.refl w))
end
section
variable {P:Program} {G:a8} {N B:Nat} {M:List aR}
theorem c3.later{E:Entry}{s:aO}{a:Act}{w dk:World}{β:Nat→Value}{ro:Nat→Prop}(h:c3 E G s a w β ro)(aj:gd w dk):c3 ⟨dk,ro,s.heap,β,E.n⟩ G s a dk β ro:=by
 have bQ:w.heap.size≤dk.heap.size:=by
  rcases Nat.eq_zero_or_pos w.heap.size with aP|aP
  ·omega
  ·have aa:=aj (w.heap.size-1) (by omega)
   rcases Nat.lt_or_ge (w.heap.size-1) dk.heap.size with ae|ae
   ·omega
   ·rw[Array.getElem?_eq_none ae,Array.getElem?_eq_getElem (by omega)]at aa
    cases aa
 have hw: ∀b,ro b→dk.heap[b]? =w.heap[b]? :=fun b ad=>aj b (h.heap.lt b ad)
 refine⟨h.defers,h.size,fun i x hx=>(h.slot i x hx).keep hw (fun _ h=>h) (Nat.le_refl _) (fun _ t cs ah=>⟨rfl,t,cs,ah⟩) (fun _ z t _ es ah=>⟨rfl,z,t,es,ah⟩) (fun _ bM ah=>⟨rfl,bM,ah⟩),
  ⟨fun id h4 ah=>(h.heap.c6 id h4 ah).keep hw (fun _ h=>h) (Nat.le_refl _) bQ rfl (fun ar b ad=>aj b ((h.heap.c6 id h4 ah).hB ar ad)) (fun _ t cs ah=>⟨rfl,t,cs,ah⟩) (fun _ z t _ es ah=>⟨rfl,z,t,es,ah⟩) (fun _ bM ah=>⟨rfl,bM,ah⟩),h.heap.inj,h.heap.fe,fun b ad=>Nat.lt_of_lt_of_le (h.heap.lt b ad) bQ⟩,
  h.h3.keep hw fun _ h=>h,⟨rfl,rfl,rfl,Nat.le_refl _,fun _ _ _=>rfl,fun b ad=>.inl ad,fun b ad=>ad,fun b ad=>.inl ad,fun id hi o ah=>⟨by rw[ah];simp,rfl⟩,h.trans.new,h.trans.le⟩,h.base⟩
theorem Tr{w:World}{ro:Nat→Prop}{σ:Heap}{β:Nat→Value}{n:Nat}{x:Value}{c:Value}(h:bp w ro σ β n (.au (.v x)) c):c=x:=by
 cases h with
 |au _ _ h=>
  cases h;rfl
theorem jH.qX{ops:Array Oper}{o:Oper}{s:aO}{x:Value}(h:cL P G o s (.au (.v x)))(ah:dL ops s o=some true):jH P G ops o s (s.put o.dst (.au (.v x))):=by
 intro E a w ⟨β,ro,ag⟩
 have hw:=nv (ops:=ops) ⟨β,ro,ag⟩ ah
 obtain⟨c,_,ae⟩:=h E a w β ro ag
 refine⟨x,.inl ⟨hw,fun dk aj=>?_⟩,β,ro,ag.put _ _ _ (by rw[Tr ae]at ae;exact ae)⟩
 obtain⟨aW,av,aQ⟩:=h _ a dk β ro (ag.later aj)
 rw[Tr aQ]at av
 exact av
def j8(P:Program)(G:a8)(ops:Array Oper)(o:Oper)(s:aO)(A:aO→Prop):Prop:=∀E a w,Rel E G s a w→
 (Region.wanted o (yielded ops a.tmps)=true∧∀(K:Act→World→Prop) (Q:Exit→Act→World→Prop),(∀t,A t→∀bc w',Rel E G t bc w'→gd w w'→K bc w')→o.wp P a w K Q)∨
 (Region.wanted o (yielded ops a.tmps)=false∧∃t,A t∧Rel E G t (a.put o.dst undef) w)
theorem j8.v{ops:Array Oper}{o:Oper}{s:aO}{v:aC}{A:aO→Prop}(h:cL P G o s v)(ah:dL ops s o=some true)(c8:A (s.put o.dst v)):j8 P G ops o s A:=fun E a w ag=>
 .inl ⟨nv ag ah,fun K Q hK=>h.Pu E a w ag K Q fun bc w' dV aj=>hK _ c8 bc w' dV aj⟩
theorem j8.no{ops:Array Oper}{o:Oper}{s:aO}{A:aO→Prop}(ah:dL ops s o=some false)(c8:A (s.put o.dst (.tuple []))):j8 P G ops o s A:=fun E a w ag=>
 .inr ⟨nv ag ah,_,c8,ag.Cc o.dst⟩
theorem fG.one{L:List Oper}{Q:Exit→aO→Prop}{wr:List Bool}{fuel:Nat}{m:List Bool}{s:aO}{A:aO→Prop}{i:Nat}{o:Oper}(an:L[i]? =some o)(h:Region.ready .any L.toArray m.toArray=[i])(hw:wr.getD i false=false)
 (ai:j8 P G L.toArray o s A)(k: ∀t,A t→fG P G L Q wr fuel (m.set i true) t):fG P G L Q wr (fuel+1) m s:=by
 intro E a w ag
 refine⟨fun hn=>(by rw[h]at hn;cases hn),fun j af=>?_⟩
 rw[h]at af
 rcases List.mem_cons.1 af with rfl|af
 rotate_left
 ·cases af
 have eL:m.toArray.setIfInBounds j true=(m.set j true).toArray:=by simp
 have next: ∀t,A t→∀bc w',Rel E G t bc w'→gd w w'→wr.getD j false=false∧gd w w'∧kW P L.toArray (lift E G (nw Q)) (gd w) (fun i=>wr.getD i false) fuel (m.toArray.setIfInBounds j true) bc w':=fun t aH bc w' dV aj=>by
  rw[eL];exact⟨hw,aj,CF (fun eu ae=>aj.trans ae) _ _ _ _ (k t aH E bc w' dV)⟩
 unfold wpOp
 rw[show L.toArray[j]? =some o from by simpa using an]
 simp only
 rcases ai E a w ag with⟨ff,av⟩|⟨ff,t,aQ,av⟩
 ·rw[if_pos ff]
  exact .inl (av _ _ fun t aH bc w' dV aj=>.inr (next t aH bc w' dV aj))
 ·rw[if_neg (by rw[ff];decide)]
  exact .inr (next t aQ _ _ av (gd.refl w))
def L4(P:Program)(G:a8)(ops:Array Oper)(o:Oper)(s:aO)(A:aO→Prop):Prop:=∀E a w,Rel E G s a w→
 Region.wanted o (yielded ops a.tmps)=true∧∀(K:Act→World→Prop) (Q:Exit→Act→World→Prop),(∀t,A t→∀bc w',Rel E G t bc w'→K bc w')→o.wp P a w K Q
theorem fG.zfK{L:List Oper}{Q:Exit→aO→Prop}{wr:List Bool}{fuel:Nat}{m:List Bool}{s:aO}{A:aO→Prop}{i:Nat}{o:Oper}(an:L[i]? =some o)(h:Region.ready .any L.toArray m.toArray=[i])(hw:wr.getD i false=true)
 (ai:L4 P G L.toArray o s A)(k: ∀t,A t→fG P G L Q wr fuel (m.set i true) t):fG P G L Q wr (fuel+1) m s:=by
 intro E a w ag
 refine⟨fun hn=>(by rw[h]at hn;cases hn),fun j af=>?_⟩
 rw[h]at af
 rcases List.mem_cons.1 af with rfl|af
 rotate_left
 ·cases af
 have eL:m.toArray.setIfInBounds j true=(m.set j true).toArray:=by simp
 have next: ∀t,A t→∀bc w',Rel E G t bc w'→wr.getD j false=true∧wpAny P .any L.toArray (lift E G (nw Q)) fuel (m.toArray.setIfInBounds j true) bc w':=fun t aH bc w' dV=>by
  rw[eL];exact⟨hw,(k t aH).cW E bc w' dV⟩
 unfold wpOp
 rw[show L.toArray[j]? =some o from by simpa using an]
 simp only
 obtain⟨ff,av⟩:=ai E a w ag
 rw[if_pos ff]
 exact .inl (av _ _ fun t aH bc w' dV=>.inl (next t aH bc w' dV))
theorem j8.call{ops:Array Oper}{o:Oper}{s:aO}{xs:Array Operand}{f:FuncId}{p q:List aC}(uy:ux P G o s f p q xs)(gz:mE P f=true)
 (ah:dL ops s o=some true)(oy:e3 (p++xs.toList.map (aI G s)++q)=true){R:aC→Heap→Prop}(hc:dE P G f (p++xs.toList.map (aI G s)++q) [] 0 R){A:aO→Prop}(fQ: ∀r bU,R r bU→fD r=true∧A (s.put o.dst r)):j8 P G ops o s A:=by
 intro E a w ⟨β,ro,h⟩
 refine .inl ⟨nv ⟨β,ro,h⟩ ah,fun K Q hK=>?_⟩
 obtain⟨c,d,aa,ae,j5,uw,cn⟩:=uy E a w β ro h
 ·unfold Oper.wp
  rw[cn w,Cf gz]
  have hb:=hc w β ro (c++xs.map a.eval++d) (by simp[aa,ae,Nat.add_assoc]) (fun i y ax=>np (RV (x:=.const undef) (f:=.func f) h aa ae j5 uw i y ax) (mD oy ax))
   ⟨by simp[aD],by simp[aD],fun b _ ⟨_,_,ah,_⟩=>by simp[aD]at ah,h.heap.lt⟩ h.h3 (by simp[aD])
  refine Calls.mono hb fun e w' aJ=>?_
  obtain⟨v,r,bU,dK,ro',cH,rfl,ag,dy,hG,cD⟩:=aJ;obtain⟨zfL,c8⟩:=fQ r bU ag
  have kS: ∀b,¬Own ([]:Heap) β b:=fun b ⟨_,_,ah,_⟩=>by simp[aD]at ah
  have lh: ∀b,b<w.heap.size→w'.heap[b]? =w.heap[b]? :=fun b ad=>cD.frame b ad (kS b)
  have cQ:=h.grow (w':=w') (ro':=ro') cD.os cD.tape cD.output cD.size lh cD.jR (fun b ad=>by
   rcases cD.jb b ad with q|q|q
   ·exact .inl q
   ·exact absurd q (kS b)
   ·exact .inr ⟨q,hG.lt b ad⟩)
  exact hK _ c8 _ _ ⟨β,ro',cQ.put o.dst r v (np dy zfL)⟩ lh
theorem b2.zfM{id:Nat}{L:List Oper}{Q:Exit→aO→Prop}{wr:List Bool}{s:aO}(n:Nat)(h:fG P G L Q wr n (List.replicate n false) s)(qv:P.follows .mixedOrders=true)(hn:Nat.beq L.length n=true):b2 P G (.region id L.toArray true) Q s:=b2.zcI n h.cW qv hn
end
end Go.aK
