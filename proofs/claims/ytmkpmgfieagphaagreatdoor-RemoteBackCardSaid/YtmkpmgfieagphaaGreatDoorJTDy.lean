/- TD, part V: loops that count: how they are made, their parts. Conditions: none. -/
import Derived.Test.YtmkpmgfieagphaaGreatDoorJTDu
import Derived.Test.YtmkpmgfieagphaaGreatDoorJTDa
namespace Go.aM
open Go
def aB.ends:aB→List (b0 × aq)
 | .cH x S=>[(x,S)]
 | .lt _ _ t=>t.ends
 | .eG _ t=>t.ends
 | .it _ a b=>a.ends++b.ends
 | .dC _ a _ k=>a.ends++k.ends
 | .ej _ _ _ _ _ a k=>a.ends++k.ends
 | .e0 _ _ _ a k=>a.ends++k.ends
 | .bad _=>[]
def cn(S:aq):fG→List hD
 |[]=>[]
 |(i,r,p)::l=>⟨i,r,p.dh S,p⟩::cn S l
def xQ(kx j:Nat):List b6→Bool
 |[]=>false
 | .d2 i (.ju .add .i64 .i64) x y::r=>match Nat.beq i j&&(eI x (.aV (.int .i64) kx)&&eI y (.cs (.int .i64 1)))with
  |true=>true
  |false=>xQ kx j r
 |_::r=>xQ kx j r
def EP(kx b1:Nat)(aT:aq):Bool:=
 match aT.at b1 with
 | .aV (.int .i64) j=>xQ kx j aT.g
 |_=>false
def mJ(J:gp)(n:Nat):gp:=⟨J.l,J.h,n,J.ps⟩
def vt(n:Nat):List (Nat × ab)→Bool
 |[]=>true
 |(_,x)::r=>ab.rX n x&&vt n r
def ER(J:gp)(aX kx b1:Nat)(aT:aq):Bool:=jA (mJ J (Nat.max aT.n J.n)) aX aT&&EP kx b1 aT
def tv(J cf:gp)(aX kx b1 cur:Nat):List (b0 × aq)→Bool
 |[]=>true
 |(.cj,aT)::r=>ER J aX kx b1 aT&&tv J cf aX kx b1 cur r
 |(.ext m,aT)::r=>(match Nat.beq m cur with
  |true=>jA cf aX aT
  |false=>true)&&tv J cf aX kx b1 cur r
 |_::r=>tv J cf aX kx b1 cur r
def ES(dO:aq):fG→Bool
 |[]=>true
 |(i,r,p)::l=>eI (p.dh dO) (.aV r i)&&ES dO l
def aB.xR(cur:Nat):aB→Option aq
 | .lt _ _ t=>t.xR cur
 | .cH (.ext m) S=>match Nat.beq m cur with
  |true=>some S
  |false=>none
 |_=>none
structure pH where
 J:gp
 cf:gp
 b1:Nat
 y:ab
def pH.kx(I:pH)(S:aq):Nat:=S.k+I.J.ps.length
def pH.H(I:pH)(S:aq):aq:=aq.put ⟨fi I.J.l,I.J.h,I.J.n,I.kx S+1,.rg (I.kx S) I.y::S.g⟩ (some I.b1) (.aV (.int .i64) (I.kx S))
def pH.E(I:pH)(S:aq):aq:=aq.put ⟨fi I.J.l,I.J.h,I.J.n,I.kx S,S.g⟩ (some I.b1) I.y
def ET(S:aq)(x:ab):Nat→Bool
 |0=>false
 |n+1=>eI (S.at n) x||ET S x n
def lenOf(j:Nat):List b6→Option (bL × ab)
 |[]=>none
 | .d1 i (.iQ c) x::r=>match Nat.beq i j with
  |true=>some (c,x)
  |false=>lenOf j r
 |_::r=>lenOf j r
def zX(c:bL)(x:ab):Bool:=
 match x.rt with
 |some (.li d)=>decide (d=c)
 |_=>false
def AR(N:Nat)(S:aq)(y:ab):List fe:=
 match y with
 | .cs (.int .i64 n)=>match decide (0≤n∧n<9223372036854775808)with
  |true=>[]
  |false=>[.nth 9223372036854775808 y]
 | .aV (.int .i64) j=>match lenOf j S.g with
  |some (c,x)=>match ET S x N&&zX c x with
   |true=>[]
   |false=>[.nth 9223372036854775808 y]
  |none=>[.nth 9223372036854775808 y]
 |y=>[.nth 9223372036854775808 y]
def isInt(y:ab):Bool:=
 match y.rt with
 |some (.int .i64)=>true
 |_=>false
def TH(N B cur:Nat)(S:aq)(I:pH)(t1 t2:aB):Bool:=
 (im S.k I.J.ps&&(rW (I.kx S) I.J.l&&eH (I.kx S) I.J.h))&&((eI (S.at I.b1) (.cs (.int .i64 0))&&(isInt I.y&&I.y.lt S.k))&&
 ((jA (mJ I.J (Nat.max S.n I.J.n)) S.k S&&(vt I.J.n I.J.l&&og I.J.n I.J.h))&&((Nat.blt I.b1 N&&Nat.ble B I.J.n)&&
 (tv I.J ⟨I.cf.l,I.cf.h,I.cf.n,I.J.ps⟩ S.k (I.kx S) I.b1 cur t1.ends&&((rW (I.kx S) I.cf.l&&eH (I.kx S) I.cf.h)&&(match t2.xR cur with
  |some dO=>jA ⟨I.cf.l,I.cf.h,I.cf.n,I.J.ps⟩ S.k dO&&ES dO I.J.ps
  |none=>false))))))
def TI(N B cur:Nat)(S:aq)(I:pH)(t1 t2:aB):aB:=
 match TH N B cur S I t1 t2 with
 |true=>emit S.k [] (AR N S I.y) (.ej (t1.lvl+1) cur (.rJ (.int .i64) I.y) (I.kx S) (cn S I.J.ps) (t1.rel (fF (t1.lvl+1))) (.cH (.ext cur) ⟨fi I.cf.l,I.cf.h,I.cf.n,I.kx S,S.g⟩))
 |false=>.bad (xP t1.nw 60)
def xS(N B:Nat)(f:aq→aB)(cur:Nat)(S:aq)(I:pH):aB:=TI N B cur S I (f (I.H S)) (f (I.E S))
section
variable {P:Program} {G:a8} {N B:Nat} {M:List aS}
theorem oj: ∀{t:aB} {x:b0} {e ay:Env} {S:aq},run M t e=some (x,S,ay)→(x,S)∈t.ends
 | .cH x S0,_,e,ay,S,h=>by
  simp only[run,aB.fold]at h;cases h;simp[aB.ends]
 | .lt _ _ t,_,_,_,_,h=>oj (t:=t) h
 | .eG _ t,_,_,_,_,h=>oj (t:=t) h
 | .it c a b,_,e,ay,S,h=>by
  simp only[run,aB.fold]at h;simp only[aB.ends,List.mem_append]
  cases hc:c.aA e .bool with
  |true=>rw[hc]at h;exact .inl (oj (t:=a) h)
  |false=>rw[hc]at h;exact .inr (oj (t:=b) h)
 | .dC n a ps k,y,e,ay,S,h=>by
  simp only[aB.ends,List.mem_append]
  cases af:run M a e with
  |none=>unfold run at h;rw[s6 af]at h;cases h
  |some l=>
   obtain⟨x,aT,aC⟩:=l
   cases hx:x.bT n with
   |true=>
    unfold run at h;rw[qy af hx]at h;exact .inr (oj (t:=k) h)
   |false=>
    unfold run at h;rw[nn af hx]at h;cases h;exact .inl (oj (t:=a) af)
 | .ej m xid dp b1 ca a k,y,e,ay,S,h=>by
  rw[Ei]at h;simp only[aB.ends,List.mem_append]
  cases ar:bp (fun i (v:bY ca)=>c6 M m xid ca a (bm (ba.put e b1 ⟨.int .i64,(i:Int)⟩) ca v) v) 0 (ck (dp.den M e)).toNat (b9 _ (dE e ca))with
  |inl r=>
   rw[ar]at h
   have h:r=some (y,S,ay):=h
   subst h;obtain⟨i,v,ad⟩:=LM ar;exact .inl (oj (t:=a) (Eh ad))
  |inr v=>rw[ar]at h;exact .inr (oj (t:=k) h)
 | .e0 m xid ca a k,y,e,ay,S,h=>by
  rw[Ej]at h;simp only[aB.ends,List.mem_append]
  cases ar:c0 (fun(v:bY ca)=>c6 M m xid ca a (bm e ca v) v) dU (b9 _ (dE e ca))with
  |inl r=>
   rw[ar]at h
   have h:r=some (y,S,ay):=h
   subst h;obtain⟨v,ad⟩:=LN ar;exact .inl (oj (t:=a) (Eh ad))
  |inr v=>rw[ar]at h;exact .inr (oj (t:=k) h)
 | .bad _,_,_,_,_,h=>by cases h
theorem TJ(S:aq)(e:Env): ∀ca:List hD,dz (rM ca) (b9 (rM ca) (fw S e ca))=fw S e ca
 |[]=>rfl
 |[a]=>by simp only[rM,fw,b9,dz,cA]
 |a::b::l=>by
  have:=TJ S e (b::l)
  simp only[rM,fw]at this;simp only[rM,fw,b9,dz,cA,this]
theorem ME{S:aq}{e:Env}: ∀{ps:fG},dE e (cn S ps)=fw S e (cn S ps)
 |[]=>rfl
 |(_,_,_)::l=>by simp only[cn,dE,fw,ME (ps:=l)]
theorem AS{S0 aT:aq}{e aC:Env}{ps:fG}:bm e (cn S0 ps) (b9 _ (fw aT aC (cn S0 ps)))=fM e (fun r p=>⟨r,(p.dh aT).get aC r⟩) ps:=by
 unfold bm
 rw[TJ]
 induction ps generalizing e with
 |nil=>rfl
 |cons q l a1=>
  obtain⟨i,r,p⟩:=q;simp only[cn,fw,rN,fM];exact a1
theorem TK{i:Nat}: ∀{ca:List hD} {e:Env} {ds:List aF},(∀a∈ca,a.i≠i)→Env.at (rN e ca ds) i=Env.at e i
 |[],_,[],_=>rfl
 |[],_,_::_,_=>rfl
 |_::_,_,[],_=>rfl
 |a::l,e,d::ds,h=>by
  simp only[rN];rw[TK (ca:=l) fun b ad=>h b (by simp[ad]),Env.ij,if_neg (h a (by simp))]
theorem TL{S:aq}: ∀{ps:fG} {k:Nat},im k ps=true→∀a∈cn S ps,k≤a.i∧a.i<k+ps.length
 |(j,r,p)::l,k,h,a,aY=>by
  simp only[im,Bool.and_eq_true]at h
  have ag:=Nat.eq_of_beq_eq_true h.1
  simp only[cn]at aY
  rcases List.mem_cons.1 aY with rfl|aY
  ·simp only[List.length_cons];omega
  ·have:=TL (k:=k+1) h.2.2 a aY
   simp only[List.length_cons];omega
 |[],_,_,a,aY=>by cases aY
theorem xT{S:aq}{e:Env}{ps:fG}{k i:Nat}{v:bY (cn S ps)}(h:im k ps=true)(hi:i<k∨k+ps.length≤i):Env.at (bm e (cn S ps) v) i=Env.at e i:=
 TK fun a aY=>by have:=TL h a aY;omega
theorem TM{S:aq}: ∀{ps:fG} {k:Nat} {e:Env} {v:bY (cn S ps)},im k ps=true→∀{i:Nat} {r:aW} {p:ey},iT ps i=some (r,p)→(Env.at (bm e (cn S ps) v) i).r=r
 |[],_,_,_,_,_,_,_,ak=>by cases ak
 |[(j,eR,fV)],k,e,v,h,i,r,p,ak=>by
  simp only[iT]at ak
  split at ak
  ·rename_i ad
   cases ak;rw[←Nat.eq_of_beq_eq_true ad];simp only[bm,cn,rM,dz,rN];rw[Env.ij,if_pos rfl]
  ·cases ak
 |(j,eR,fV)::q::l,k,e,v,h,i,r,p,ak=>by
  simp only[im,Bool.and_eq_true]at h
  have ag:=Nat.eq_of_beq_eq_true h.1
  obtain⟨bO,en,pF⟩:=q
  have ai:bm e (cn S ((j,eR,fV)::(bO,en,pF)::l)) v=bm (ba.put e j ⟨eR,v.1⟩) (cn S ((bO,en,pF)::l)) v.2:=rfl
  have ae:im (k+1) ((bO,en,pF)::l)=true:=by
   simp only[im,Bool.and_eq_true];exact h.2.2
  simp only[iT]at ak
  split at ak
  ·rename_i ad
   cases ak
   have:=Nat.eq_of_beq_eq_true ad
   rw[ai];refine(congrArg aF.r (xT (S:=S) (e:=ba.put e j ⟨eR,v.1⟩) (ps:=(bO,en,pF)::l) (k:=k+1) (i:=i) (v:=v.2) ae (.inl (by omega)))).trans ?_
   rw[Env.ij,if_pos this]
  ·rw[ai]
   exact TM (S:=S) (e:=ba.put e j ⟨eR,v.1⟩) (ps:=(bO,en,pF)::l) (k:=k+1) (v:=v.2) ae ak
theorem TN{f:aW→ey→aF}{i:Nat}: ∀{ps:fG} {e ay:Env},Env.at e i=Env.at ay i→Env.at (fM e f ps) i=Env.at (fM ay f ps) i
 |[],_,_,h=>h
 |(j,r,p)::l,e,ay,h=>by
  simp only[fM];refine TN (ps:=l) ?_
  rw[Env.ij,Env.ij,h]
theorem zfD{c:Code}{R A:Type}{n:Nat}{b:Nat→A→Step R A}{a0:A}{hd:Nat→A→aP}{Q:Exit→aP→Prop}{dr:aP}{I:Nat→A→Prop}
    (aH:cm dr (hd 0 a0))(hi:I 0 a0)
    (af: ∀k a,k<n→I k a→bp b 0 n a0=bp b k (n-k) a→b2 P G c (fun e st=>match e with
      | .normal=>∃bc,b k a= .br bc∧I (k+1) bc∧cm st (hd (k+1) bc)
      |e=>Q e st) (hd k a))
    (he: ∀a,I n a→bp b 0 n a0= .inr a→b2 P G c (fun e st=>match e with
      | .normal=>False
      |e=>Q e st) (hd n a)):b2 P G (.loop c) Q dr:=by
  refine b2.loop (ι:=Nat × A) (fun x=>hd x.1 x.2) (fun x=>x.1≤n∧bp b 0 n a0=bp b x.1 (n-x.1) x.2∧I x.1 x.2) (fun x=>n-x.1) (0,a0) aH ⟨Nat.zero_le _,rfl,hi⟩ ?_
  rintro⟨k,a⟩ ⟨aj,fS,bU⟩
  simp only at aj fS bU⊢
  by_cases o3:k<n
  · refine b2.mono (af k a o3 bU fS) fun e st ai=>?_
    cases e with
    |normal=>
      obtain⟨bc,aa,au,ae⟩:=ai;exact⟨(k+1,bc),⟨o3,zc7 fS o3 aa,au⟩,by show n-(k+1)<n-k;omega,ae⟩
    |_=>exact ai
  · have:k=n:=by omega
    subst this;refine b2.mono (he a bU (zda fS (Nat.le_refl _))) fun e st ai=>?_
    cases e with
    |normal=>exact ai.elim
    |_=>exact ai
theorem cm.low{aO:List aD}{h:Heap}{m n b:Nat}(aa:k3 n aO=true)(ae:k4 n h=true)(au:b≤n):cm ⟨aO,h,m,b⟩ ⟨aO,h,n,b⟩:=by
 intro E G a w ⟨β,ro,af⟩
 refine⟨β,ro,af.defers,af.size,fun i x hx=>?_,⟨fun id o ah=>?_,af.heap.inj,af.heap.ff,af.heap.lt⟩,af.ic,?_,af.base⟩
 ·exact(af.slot i x hx).lower (rq aa hx)
 ·have an:=af.heap.c7 id o ah
  obtain⟨_,zx⟩:=rr ae ah
  cases an with
  |box t cs b arr aC bf cg ek=>exact .box t cs b arr aC bf cg fun j x ag=>(ek j x ag).lower (rq (zx t cs rfl) ag)
  |row t n es xs aC bf cg=>exact .row t n es xs aC bf cg
  |ga t n es aC=>exact .ga t n es aC
  |bM bN b o aC bf cg=>exact .bM bN b o aC bf cg
 ·have t:=af.trans
  exact⟨t.os,t.tape,t.output,t.size,t.frame,t.jk,t.j7,t.hg,t.dK,fun id o ah=>(rr ae ah).1,Nat.le_trans af.base au⟩
theorem MF{n:Nat}{e:Env}{l:ba ab}(h: ∀i x,l.get i=some x→ab.rX n x=true): ∀(k i:Nat),k3 n (ki G e l i k)=true
 |0,_=>rfl
 |k+1,i=>by
  simp only[ki,k3,MF h k (i+1),Bool.and_true]
  cases ah:l.get i with
  |none=>rfl
  |some x=>exact EE (h i x ah)
theorem MG{n:Nat}: ∀{l:List (Nat × ab)},vt n l=true→∀{i:Nat} {x:ab},(i,x)∈l→ab.rX n x=true
 |(_,_)::r,h,i,x,hm=>by
  simp only[vt,Bool.and_eq_true]at h
  rcases List.mem_cons.1 hm with q|q
  ·cases q;exact h.1
  ·exact MG h.2 q
theorem TO{J:gp}{aX kx b1 j:Nat}{S0 aT:aq}{e aC:Env}{k:Nat}{g g':List b6}(ak:im aX J.ps=true)(r0:kx=aX+J.ps.length)(ar:rW kx J.l=true)(bb:eH kx J.h=true)
 (mh: ∀c∈aT.g,c.ok aC)(h:jA (mJ J (Nat.max aT.n J.n)) aX aT=true)(ih:vt J.n J.l=true)(o8:og J.n J.h=true)(hy:B≤J.n)(vu:b1<N)(bS:bX aX e aC)(aw:(aT.at b1).den G aC= .av (.v (.int .i64 (j:Int)))):
 cm (aT.den G N B aC) ((aq.put ⟨fi J.l,J.h,J.n,k,g⟩ (some b1) (.aV (.int .i64) kx)).den G N B (bm (ba.put e kx ⟨.int .i64,(j:Int)⟩) (cn S0 J.ps) (b9 _ (fw aT aC (cn S0 J.ps))))):=by
 have aa:=LP (G:=G) (N:=N) (B:=B) (J:=mJ J (Nat.max aT.n J.n)) ak mh h (g:=g') bS
 have ae:=aa.put (i:=b1) (x:=.v (.int .i64 (j:Int))) (by rw[u3,if_pos vu,aw])
 refine ae.le.trans ?_
 rw[AS,fa]
 have zfE:Env.at (fM (ba.put e kx ⟨.int .i64,(j:Int)⟩) (fun r p=>⟨r,(p.dh aT).get aC r⟩) J.ps) kx=⟨.int .i64,(j:Int)⟩:=by
  rw[←AS (S0:=S0),xT ak (.inr (by omega)),Env.ij,if_pos rfl]
 have TP:(ab.aV (.int .i64) kx).den G (fM (ba.put e kx ⟨.int .i64,(j:Int)⟩) (fun r p=>⟨r,(p.dh aT).get aC r⟩) J.ps)= .av (.v (.int .i64 (j:Int))):=by
  simp only[ab.den,zfE,cA,fC,ke]
 rw[TP]
 have dq:bX kx (fM e (fun r p=>⟨r,(p.dh aT).get aC r⟩) J.ps) (fM (ba.put e kx ⟨.int .i64,(j:Int)⟩) (fun r p=>⟨r,(p.dh aT).get aC r⟩) J.ps):=fun i hi=>
  TN (by rw[Env.ij,if_neg (by omega)])
 have qJ:(⟨fi J.l,J.h,J.n,kx,[]⟩:aq).cr:=⟨fun i x hx=>tl ar (px hx),bb,rfl⟩
 have aj:=lh (G:=G) (N:=N) (B:=B) (S:=⟨fi J.l,J.h,J.n,kx,[]⟩) dq qJ
 have au:(aq.mk (fi J.l) J.h J.n k g).den G N B (fM (ba.put e kx ⟨.int .i64,(j:Int)⟩) (fun r p=>⟨r,(p.dh aT).get aC r⟩) J.ps)=(aq.mk (fi J.l) J.h J.n kx []).den G N B (fM e (fun r p=>⟨r,(p.dh aT).get aC r⟩) J.ps):=aj
 rw[au]
 refine cm.low (m:=Nat.max aT.n J.n) ?_ ?_ hy
 ·have:=MF (G:=G) (e:=fM (ba.put e kx ⟨.int .i64,(j:Int)⟩) (fun r p=>⟨r,(p.dh aT).get aC r⟩) J.ps) (n:=J.n) (l:=(fi J.l).put b1 (.aV (.int .i64) kx)) (fun i x hx=>by
   rw[ba.h0]at hx
   split at hx
   ·cases hx;rfl
   ·exact MG ih (px hx)) N 0
  rw[KK,TP]at this
  have qg:ki G (fM (ba.put e kx ⟨.int .i64,(j:Int)⟩) (fun r p=>⟨r,(p.dh aT).get aC r⟩) J.ps) (fi J.l) 0 N=ki G (fM e (fun r p=>⟨r,(p.dh aT).get aC r⟩) J.ps) (fi J.l) 0 N:=congrArg aP.cQ aj
  rw[qg]at this;exact this
 ·exact xG o8
end
end Go.aM
namespace Go.aM
open Go
section
variable {P:Program} {G:a8} {N B:Nat} {M:List aS}
theorem TQ{S:aq}{x:ab}: ∀{n:Nat},ET S x n=true→∃i,i<n∧S.at i=x
 |n+1,h=>by
  simp only[ET,Bool.or_eq_true]at h
  rcases h with h|h
  ·exact⟨n,Nat.lt_succ_self n,e1 h⟩
  ·obtain⟨i,aa,ae⟩:=TQ h
   exact⟨i,by omega,ae⟩
theorem AT{j:Nat}{c:bL}{x:ab}{e:Env}: ∀{l:List b6},lenOf j l=some (c,x)→(∀c∈l,c.ok e)→Env.at e j=⟨.int .i64,(List.length (x.aA e (.li c)):Int)⟩
 | .d1 i f y::r,h,hc=>by
  have af: ∀{c x},lenOf j r=some (c,x)→Env.at e j=⟨.int .i64,(List.length (x.aA e (.li c)):Int)⟩:=fun h=>AT h fun c hm=>hc c (by simp[hm])
  have aH:=hc (.d1 i f y) (by simp)
  cases f with
  |iQ d=>
   simp only[lenOf]at h
   split at h
   ·rename_i ad
    cases h;rw[←Nat.eq_of_beq_eq_true ad];exact aH
   ·exact af h
  |_=>exact af h
 | .d2 _ _ _ _::r,h,hc=>AT (l:=r) h fun c hm=>hc c (by simp[hm])
 | .rg _ _::r,h,hc=>AT (l:=r) h fun c hm=>hc c (by simp[hm])
 | .dT _ _::r,h,hc=>AT (l:=r) h fun c hm=>hc c (by simp[hm])
theorem zfF{S:aq}{y:ab}{e:Env}{TR:Entry}{a:Act}{w:World}(hf:S.ct e)(h: ∀n∈AR N S y,n.ok M e)(af:Rel TR G (S.den G N B e) a w):0≤ck (y.dyn e)∧ck (y.dyn e)<9223372036854775808:=by
 have key:(fe.nth 9223372036854775808 y).ok M e→0≤ck (y.dyn e)∧ck (y.dyn e)<9223372036854775808:=fun h=>h
 unfold AR at h
 split at h
 ·rename_i n
  split at h
  ·rename_i hd
   exact of_decide_eq_true hd
  ·exact key (h _ (by simp))
 ·rename_i j
  split at h
  ·rename_i c x ar
   split at h
   ·rename_i ad
    simp only[Bool.and_eq_true]at ad;obtain⟨i,hi,hx⟩:=TQ ad.1
    have aa:=AT ar hf
    have zfG:x.rt=some (.li c):=by
     have:=ad.2
     unfold zX at this
     split at this
     ·rename_i d hd
      rw[hd,of_decide_eq_true this]
     ·cases this
    have ae:=fW (G:=G) (e:=e) zfG
    have vv:aL G (S.den G N B e) (.tmp i)= .av (.li c (x.aA e (.li c))):=by
     simp only[aL,List.getD_eq_getElem?_getD,u3,if_pos hi,hx,ae]
     rfl
    have:=zdw af vv
    have hd:ck ((ab.aV (.int .i64) j).dyn e)=(List.length (x.aA e (.li c)):Int):=by
     simp only[ab.dyn,aa,cA,ck]
    rw[hd];omega
   ·exact key (h _ (by simp))
  ·exact key (h _ (by simp))
 ·exact key (h _ (by simp))
theorem AU{kx j:Nat}{e:Env}: ∀{l:List b6},xQ kx j l=true→(∀c∈l,c.ok e)→Env.at e j=⟨.int .i64,IntKind.i64.wrap (((Env.at e kx).aG (.int .i64):Int)+1)⟩
 | .d2 i f x y::r,h,hc=>by
  have af:xQ kx j r=true→Env.at e j=⟨.int .i64,IntKind.i64.wrap (((Env.at e kx).aG (.int .i64):Int)+1)⟩:=fun h=>AU h fun c hm=>hc c (by simp[hm])
  have aH:=hc (.d2 i f x y) (by simp)
  unfold xQ at h
  split at h
  ·cases h
  ·rename_i heq
   cases heq
   split at h
   ·rename_i ad
    simp only[Bool.and_eq_true]at ad;rw[←Nat.eq_of_beq_eq_true ad.1]
    have aH:Env.at e i=_:=aH
    rw[aH,e1 ad.2.1,e1 ad.2.2];simp only[cC.den,ab.aA,ab.fo,ab.dyn,cA,bD]
   ·exact af h
  ·rename_i heq
   cases heq;exact af h
 | .d1 _ _ _::r,h,hc=>AU (l:=r) h fun c hm=>hc c (by simp[hm])
 | .rg _ _::r,h,hc=>AU (l:=r) h fun c hm=>hc c (by simp[hm])
 | .dT _ _::r,h,hc=>AU (l:=r) h fun c hm=>hc c (by simp[hm])
theorem zfH{kx b1:Nat}{aT:aq}{e:Env}{i:Nat}(h:EP kx b1 aT=true)(hf:aT.ct e)(aj:Env.at e kx=⟨.int .i64,(i:Int)⟩)(hi:(i:Int)<9223372036854775807):(aT.at b1).den G e= .av (.v (.int .i64 ((i+1:Nat):Int))):=by
 unfold EP at h
 split at h
 ·rename_i j hx
  have:=AU h hf
  rw[hx];simp only[ab.den,this,cA,aj,fC,ke];rw[zcS (by omega)]
 ·cases h
theorem TS{cur:Nat}: ∀{t:aB} {e:Env} {S:aq},t.xR cur=some S→t.safe M e∧∃ay,run M t e=some (.ext cur,S,ay)
 | .lt _ _ t,e,S,h=>TS (t:=t) h
 | .cH x S0,e,S,h=>by
  refine⟨trivial,?_⟩
  unfold aB.xR at h
  split at h
  ·rename_i heq;cases heq
  ·rename_i m dg heq
   cases heq
   split at h
   ·rename_i ad
    cases h;rw[←Nat.eq_of_beq_eq_true ad];exact⟨e,rfl⟩
   ·cases h
  ·cases h
 | .eG _ _,_,_,h=>by cases h
 | .it _ _ _,_,_,h=>by cases h
 | .dC _ _ _ _,_,_,h=>by cases h
 | .ej _ _ _ _ _ _ _,_,_,h=>by cases h
 | .e0 _ _ _ _ _,_,_,h=>by cases h
 | .bad _,_,_,h=>by cases h
theorem TT{dO:aq}: ∀{ps:fG},ES dO ps=true→∀{i:Nat} {r:aW} {p:ey},iT ps i=some (r,p)→p.dh dO= .aV r i
 |(j,eR,fV)::l,h,i,r,p,ak=>by
  simp only[ES,Bool.and_eq_true]at h;simp only[iT]at ak
  split at ak
  ·rename_i ad
   cases ak;rw[e1 h.1,Nat.eq_of_beq_eq_true ad]
  ·exact TT h.2 ak
theorem TU{J cf:gp}{aX kx b1 cur:Nat}: ∀{l:List (b0 × aq)},tv J cf aX kx b1 cur l=true→∀{x:b0} {aT:aq},(x,aT)∈l→(x= .cj→ER J aX kx b1 aT=true)∧(x= .ext cur→jA cf aX aT=true)
 |(y,dO)::r,h,x,aT,hm=>by
  have bb:tv J cf aX kx b1 cur r=true∧(y= .cj→ER J aX kx b1 dO=true)∧(y= .ext cur→jA cf aX dO=true):=by
   cases y with
   |cj=>
    simp only[tv,Bool.and_eq_true]at h;exact⟨h.2,fun _=>h.1,fun e=>(by cases e)⟩
   |ext m=>
    simp only[tv,Bool.and_eq_true]at h;refine⟨h.2,fun e=>(by cases e),fun e=>?_⟩
    cases e
    have aa:=h.1
    rw[Nat.beq_refl]at aa;exact aa
   |ret=>exact⟨h,fun e=>(by cases e),fun e=>(by cases e)⟩
   |lf m=>exact⟨h,fun e=>(by cases e),fun e=>(by cases e)⟩
  rcases List.mem_cons.1 hm with q|q
  ·cases q;exact bb.2
  ·exact TU bb.1 q
theorem b2.rel{c:Code}{Q:Exit→aP→Prop}{s:aP}(h:(∃E a w,Rel E G s a w)→b2 P G c Q s):b2 P G c Q s:=fun E a w af=>h ⟨E,a,w,af⟩ E a w af
theorem zfI{ps:fG}: ∀{k i:Nat},im k ps=true→k≤i→i<k+ps.length→∃r p,iT ps i=some (r,p):=by
 induction ps with
 |nil=>intro k i _ aa ae;simp at ae;omega
 |cons q l a1=>
  obtain⟨j,r,p⟩:=q;intro k i h aa ae;simp only[im,Bool.and_eq_true]at h
  have ag:=Nat.eq_of_beq_eq_true h.1
  simp only[iT]
  split
  ·exact⟨r,p,rfl⟩
  ·rename_i ad
   refine a1 h.2.2 ?_ (by simp only[List.length_cons]at ae;omega)
   have:j≠i:=fun e=>by rw[e,Nat.beq_refl]at ad;cases ad
   omega
theorem TV{i:Nat}: ∀{ca:List hD} {e ay:Env} {ds:List aF},Env.at e i=Env.at ay i→Env.at (rN e ca ds) i=Env.at (rN ay ca ds) i
 |[],_,_,[],h=>h
 |[],_,_,_::_,h=>h
 |_::_,_,_,[],h=>h
 |a::l,e,ay,d::ds,h=>by
  simp only[rN];refine TV (ca:=l) ?_
  rw[Env.ij,Env.ij,h]
theorem MH{c:Code}{f:aq→aB}(hf:jc P G N B M c f){cur:Nat}{S:aq}{I:pH}{e:Env}(ad:S.cr)(e8:S.ct e)(ai:(xS N B f cur S I).safe M e):b2 P G (.loop c) (jB G N B M (xS N B f cur S I) e S.k) (S.den G N B e):=by
 unfold xS TI at ai⊢
 split at ai
 rotate_left
 ·exact ai.elim
 rename_i tw
 generalize AV:f (I.H S)=t1 at ai tw⊢
 generalize TW:f (I.E S)=t2 at tw
 simp only[TH,Bool.and_eq_true]at tw
 obtain⟨⟨aU,da,c9⟩,⟨gk,iJ,kC⟩,⟨jL,wo,wq⟩,⟨zb,qc⟩,sG,⟨CK,CL⟩,wu⟩:=tw
 have zb:=e7 zb
 have qc:=Nat.le_of_ble_eq_true qc
 obtain⟨gR,gw⟩:=mH ai
 have gw:(aB.ej (t1.lvl+1) cur (.rJ (.int .i64) I.y) (I.kx S) (cn S I.J.ps) (t1.rel (fF (t1.lvl+1))) (.cH (.ext cur) ⟨fi I.cf.l,I.cf.h,I.cf.n,I.kx S,S.g⟩)).safe M e:=gw
 refine b2.rel fun⟨TR,ac,w,dB⟩=>?_
 obtain⟨xm,z2⟩:=zfF (M:=M) (e:=e) e8 gR dB
 have MI:I.y.rt=some (.int .i64):=by
  unfold isInt at iJ
  split at iJ
  ·assumption
  ·cases iJ
 generalize gO:aB.ej (t1.lvl+1) cur (.rJ (.int .i64) I.y) (I.kx S) (cn S I.J.ps) (t1.rel (fF (t1.lvl+1))) (.cH (.ext cur) ⟨fi I.cf.l,I.cf.h,I.cf.n,I.kx S,S.g⟩)=qL at gw
 have zfJ:run M (emit S.k [] (AR N S I.y) qL) e=run M qL e:=lR
 refine b2.mono (Q':=jB G N B M (emit S.k [] (AR N S I.y) qL) e S.k) ?_ fun ex st h=>h
 refine b2.mono (Q:=jB G N B M qL e S.k) ?_ fun ex st h=>h.sub zfJ (bX.refl _ _) (Nat.le_refl _)
 have r0:I.kx S=S.k+I.J.ps.length:=rfl
 have xU:I.H S=aq.put ⟨fi I.J.l,I.J.h,I.J.n,I.kx S+1,.rg (I.kx S) I.y::S.g⟩ (some I.b1) (.aV (.int .i64) (I.kx S)):=rfl
 have EU:I.E S=aq.put ⟨fi I.J.l,I.J.h,I.J.n,I.kx S,S.g⟩ (some I.b1) I.y:=rfl
 generalize hT:I.kx S=kx at*
 have qJ:ck ((bJ.rJ (.int .i64) I.y).den M e)=ck (I.y.dyn e):=by
  rw[lP MI];rfl
 generalize sF:ck (I.y.dyn e)=Z at*
 have MJ:t1.lvl<t1.lvl+1:=Nat.lt_succ_self _
 have oe:=KE MJ
 subst gO
 obtain⟨⟨Inv,MK,EV⟩,aj⟩:=gw
 rw[qJ]at EV
 have cp: ∀L,bp (fun i (v:bY (cn S I.J.ps))=>c6 M (t1.lvl+1) cur (cn S I.J.ps) (t1.rel (fF (t1.lvl+1))) (bm (ba.put e kx ⟨.int .i64,(i:Int)⟩) (cn S I.J.ps) v) v) 0 Z.toNat (b9 _ (dE e (cn S I.J.ps)))=L→
  run M (aB.ej (t1.lvl+1) cur (.rJ (.int .i64) I.y) kx (cn S I.J.ps) (t1.rel (fF (t1.lvl+1))) (.cH (.ext cur) ⟨fi I.cf.l,I.cf.h,I.cf.n,kx,S.g⟩)) e=Sum.elim (fun r=>r) (fun v=>some (.ext cur,⟨fi I.cf.l,I.cf.h,I.cf.n,kx,S.g⟩,bm e (cn S I.J.ps) v)) L:=fun L fS=>by
  rw[Ei,qJ,fS];rfl
 generalize zfK:aB.ej (t1.lvl+1) cur (.rJ (.int .i64) I.y) kx (cn S I.J.ps) (t1.rel (fF (t1.lvl+1))) (.cH (.ext cur) ⟨fi I.cf.l,I.cf.h,I.cf.n,kx,S.g⟩)=qL at cp

 have xV: ∀(i:Nat) (v:bY (cn S I.J.ps)),bX S.k e (bm (ba.put e kx ⟨.int .i64,(i:Int)⟩) (cn S I.J.ps) v):=fun i v j ag=>by
  rw[xT aU (.inl ag),Env.ij,if_neg (by omega)]
 have ML: ∀(i:Nat) (v:bY (cn S I.J.ps)),Env.at (bm (ba.put e kx ⟨.int .i64,(i:Int)⟩) (cn S I.J.ps) v) kx=⟨.int .i64,(i:Int)⟩:=fun i v=>by
  rw[xT aU (.inr (by omega)),Env.ij,if_pos rfl]
 have zfL: ∀(i:Nat) (v:bY (cn S I.J.ps)),bX kx (bm (ba.put e kx ⟨.int .i64,(i:Int)⟩) (cn S I.J.ps) v) (bm e (cn S I.J.ps) v):=fun i v j ag=>by
  refine TV ?_
  rw[Env.ij,if_neg (by omega)]
 have tx: ∀(v:bY (cn S I.J.ps)),bX S.k e (bm e (cn S I.J.ps) v):=fun v j ag=>xT aU (.inl ag)
 have zfM:(I.H S).k=kx+1:=by rw[xU,jf]
 have zfN:(I.E S).k=kx:=by rw[EU,jf]
 have TX:I.y.lt kx=true:=gE (by omega) kC
 have MM:(I.H S).cr:=by
  rw[xU];refine jd ⟨fun i x hx=>gE (Nat.le_succ kx) (tl da (px hx)),s9 (Nat.le_succ kx) c9,?_⟩ (jV (Nat.lt_succ_self kx))
  show(b6.lt (kx+1) (.rg kx I.y)&&fh (kx+1) S.g)=true;simp only[b6.lt,gE (Nat.le_succ kx) TX,jV (Nat.lt_succ_self kx),oa (show S.k≤kx+1 by omega) ad.g,Bool.and_self]
 have zfO:(I.E S).cr:=by
  rw[EU];exact jd ⟨fun i x hx=>tl da (px hx),c9,oa (show S.k≤kx by omega) ad.g⟩ TX
 have TY: ∀ay,bX S.k e ay→ck (I.y.dyn ay)=Z:=fun ay h=>by rw[rH h kC,sF]
 have MN: ∀(i:Nat) (v:bY (cn S I.J.ps)),i<Z.toNat→(I.H S).ct (bm (ba.put e kx ⟨.int .i64,(i:Int)⟩) (cn S I.J.ps) v):=fun i v hi=>by
  rw[xU];refine je fun d hd=>?_
  rcases List.mem_cons.1 hd with rfl|hd
  ·show 0≤ck (Env.at _ kx)∧ck (Env.at _ kx)<ck (I.y.dyn _)
   rw[ML,TY _ (xV i v)];show 0≤(i:Int)∧(i:Int)<Z;omega
  ·exact ik (xV i v) ad.g e8 d hd
 have zfP: ∀(i:Nat) (v:bY (cn S I.J.ps)),(I.E S).ct (bm (ba.put e kx ⟨.int .i64,(i:Int)⟩) (cn S I.J.ps) v):=fun i v=>by
  rw[EU];exact je (ik (xV i v) ad.g e8)
 have EW: ∀dg:aq,dg=⟨fi I.cf.l,I.cf.h,I.cf.n,kx,S.g⟩→dg.cr:=fun dg h=>by
  subst h;exact⟨fun i x hx=>tl CK (px hx),CL,oa (show S.k≤kx by omega) ad.g⟩

 have lT: ∀(v:bY (cn S I.J.ps)) (st:aP),run M qL e=some (.ext cur,⟨fi I.cf.l,I.cf.h,I.cf.n,kx,S.g⟩,bm e (cn S I.J.ps) v)→cm st ((aq.mk (fi I.cf.l) I.cf.h I.cf.n kx S.g).den G N B (bm e (cn S I.J.ps) v))→jB G N B M qL e S.k (.exit cur) st:=fun v st aa ae=>
  ⟨.ext cur,_,_,aa,rfl,ae,EW _ rfl,ik (tx v) ad.g e8,tx v,(show S.k≤kx by omega)⟩
 refine zfD (n:=Z.toNat) (b:=fun i (v:bY (cn S I.J.ps))=>c6 M (t1.lvl+1) cur (cn S I.J.ps) (t1.rel (fF (t1.lvl+1))) (bm (ba.put e kx ⟨.int .i64,(i:Int)⟩) (cn S I.J.ps) v) v) (a0:=b9 _ (dE e (cn S I.J.ps)))
  (hd:=fun i v=>(I.H S).den G N B (bm (ba.put e kx ⟨.int .i64,(i:Int)⟩) (cn S I.J.ps) v)) (I:=Inv) ?_ MK (fun k v o3 bU fS=>?_) (fun v bU fS=>?_)
 ·rw[ME,xU]
  exact TO (g':=S.g) aU r0 da c9 e8 jL wo wq qc zb (bX.refl _ _) (by rw[e1 gk];rfl)
 ·obtain⟨c3,dj⟩:=EV k v o3 bU
  have xW:=hf (I.H S) (bm (ba.put e kx ⟨.int .i64,(k:Int)⟩) (cn S I.J.ps) v) MM (MN k v o3) (by rw[AV];exact(kY oe).1 c3)
  refine b2.mono xW fun ex st ⟨x,aT,aC,aa,ae,au,aR,bA,cB,dM⟩=>?_
  rw[AV]at aa;rw[zfM]at cB dM;obtain⟨MO,MP⟩:=TU sG (oj aa)
  have pj:run M (t1.rel (fF (t1.lvl+1))) (bm (ba.put e kx ⟨.int .i64,(k:Int)⟩) (cn S I.J.ps) v)=some (fF (t1.lvl+1) x,aT,aC):=by rw[wh oe,aa];rfl
  have lU:c6 M (t1.lvl+1) cur (cn S I.J.ps) (t1.rel (fF (t1.lvl+1))) (bm (ba.put e kx ⟨.int .i64,(k:Int)⟩) (cn S I.J.ps) v) v=ee (t1.lvl+1) cur (cn S I.J.ps) (fun x S e=>some (x,S,e)) (fF (t1.lvl+1) x) aT aC:=by
   unfold c6;rw[pj]
  have vw:bX S.k e aC:=bX.trans (xV k v) cB (by omega)
  have out: ∀ex,AF x ex→fF (t1.lvl+1) x=x→x.bT (t1.lvl+1)=false→x.cZ cur=false→jB G N B M qL e S.k ex st:=fun ex ae hm ag hx=>by
   rw[hm,kj ag hx]at lU
   have:=cp _ (zc8 fS o3 lU)
   exact⟨x,aT,aC,this,ae,au,aR,bA,vw,by omega⟩
  cases x with
  |lf m=>cases ex<;>exact ae.elim
  |ret=>cases ex<;>first|exact ae.elim|exact out _ ae rfl rfl rfl
  |cj=>
   cases ex with
   |normal=>
    have hx:=MO rfl
    simp only[ER,Bool.and_eq_true]at hx;rw[n7 (x:=fF (t1.lvl+1) .cj) (show b0.bT (t1.lvl+1) (.lf (t1.lvl+1))=true from Nat.beq_refl _)]at lU
    refine⟨_,lU,dj _ (by rw[iS,lU];rfl),au.trans ?_⟩
    simp only[xU];refine TO (g':=S.g) aU r0 da c9 bA hx.1 wo wq qc zb vw (zfH hx.2 bA ?_ (by omega))
    rw[cB kx (Nat.lt_succ_self kx),ML]
   |_=>exact ae.elim
  |ext m=>
   cases ex with
   |exit vx=>
    have ae:m=vx:=ae
    subst ae
    cases hm:Nat.beq m cur with
    |false=>exact out _ rfl rfl rfl hm
    |true=>
     have:=Nat.eq_of_beq_eq_true hm
     subst this;rw[n8 (x:=fF (t1.lvl+1) (.ext m)) (show b0.bT (t1.lvl+1) (.ext m)=false from rfl) (show b0.cZ m (.ext m)=true from hm)]at lU
     have jE:=cp _ (zc9 fS o3 lU)
     refine lT _ st jE (au.trans ?_)
     rw[AS];exact Er (J:=⟨I.cf.l,I.cf.h,I.cf.n,I.J.ps⟩) aU bA (MP rfl) (g:=S.g) vw
   |_=>exact ae.elim
 ·cases MQ:t2.xR cur with
  |none=>rw[MQ]at wu;cases wu
  |some dO=>
   rw[MQ]at wu;simp only[Bool.and_eq_true]at wu;obtain⟨rV,pF⟩:=wu;obtain⟨s1,bf,s2⟩:=TS (M:=M) (e:=bm (ba.put e kx ⟨.int .i64,(Z.toNat:Int)⟩) (cn S I.J.ps) v) MQ
   have xW:=hf (I.E S) (bm (ba.put e kx ⟨.int .i64,(Z.toNat:Int)⟩) (cn S I.J.ps) v) zfO (zfP _ v) (by rw[TW];exact s1)
   have mX:(I.E S).den G N B (bm (ba.put e kx ⟨.int .i64,(Z.toNat:Int)⟩) (cn S I.J.ps) v)=(I.H S).den G N B (bm (ba.put e kx ⟨.int .i64,(Z.toNat:Int)⟩) (cn S I.J.ps) v):=by
    rw[EU,xU,fa,fa]
    have aa:I.y.den G (bm (ba.put e kx ⟨.int .i64,(Z.toNat:Int)⟩) (cn S I.J.ps) v)= .av (.v (.int .i64 Z)):=by
     rw[jx MI,←lP MI,TY _ (xV _ v)]
    have ae:(ab.aV (.int .i64) kx).den G (bm (ba.put e kx ⟨.int .i64,(Z.toNat:Int)⟩) (cn S I.J.ps) v)= .av (.v (.int .i64 Z)):=by
     simp only[ab.den,ML,cA,fC,ke];rw[Int.toNat_of_nonneg xm]
    rw[aa,ae];rfl
   rw[mX]at xW;refine b2.mono xW fun ex st ⟨x,aT,aC,aa,ae,au,aR,bA,cB,dM⟩=>?_
   rw[TW,s2]at aa;cases aa;rw[zfN]at cB
   cases ex with
   |exit m=>
    have ae:cur=m:=ae
    subst ae;refine lT v st (cp _ fS) (au.trans ?_)
    have hle:=Er (G:=G) (N:=N) (B:=B) (J:=⟨I.cf.l,I.cf.h,I.cf.n,I.J.ps⟩) aU bA rV (g:=S.g) (bX.trans (xV _ v) cB (by omega):bX S.k e bf)
    refine hle.trans ?_
    have dq:bX kx (fM e (fun r p=>⟨r,(p.dh dO).get bf r⟩) I.J.ps) (bm e (cn S I.J.ps) v):=fun i hi=>by
     rcases Nat.lt_or_ge i S.k with bI|h9
     ·rw[Ax aU i bI,tx v i bI]
     ·obtain⟨r,p,ak⟩:=zfI aU h9 (by omega)
      rw[LO aU ak,TT pF ak]
      have oX:=(SX aU ak).2.2
      have ah:(ab.aV r i).get bf r=(Env.at bf i).aG r:=by
       cases r<;>first|(simp only[ab.get,ab.aA,ab.fo,ab.dyn,cA];done)|cases oX
      rw[ah,cB i hi,←zfL Z.toNat v i hi]
      have vy:=TM (S:=S) (e:=e) (v:=v) aU ak
      generalize Env.at (bm e (cn S I.J.ps) v) i=d at vy⊢;obtain⟨eR,iI⟩:=d;simp only at vy;subst vy;rw[cA]
    have Mp:=EW ⟨fi I.cf.l,I.cf.h,I.cf.n,kx,S.g⟩ rfl
    have Pl:=lh (G:=G) (N:=N) (B:=B) (S:=⟨fi I.cf.l,I.cf.h,I.cf.n,kx,S.g⟩) dq Mp
    rw[Pl];exact cm.refl _
   |_=>exact ae.elim
end
end Go.aM
namespace Go.aM
open Go
def tz(J cf:gp)(aX cur:Nat):List (b0 × aq)→Bool
 |[]=>true
 |(.cj,aT)::r=>jA (mJ J (Nat.max aT.n J.n)) aX aT&&tz J cf aX cur r
 |(.ext m,aT)::r=>(match Nat.beq m cur with
  |true=>jA cf aX aT
  |false=>true)&&tz J cf aX cur r
 |_::r=>tz J cf aX cur r
def TZ(B cur:Nat)(S:aq)(J cf:gp)(t1:aB):Bool:=
 (im S.k J.ps&&(rW (S.k+J.ps.length) J.l&&eH (S.k+J.ps.length) J.h))&&((jA (mJ J (Nat.max S.n J.n)) S.k S&&(vt J.n J.l&&og J.n J.h))&&(Nat.ble B J.n&&(tz J ⟨cf.l,cf.h,cf.n,J.ps⟩ S.k cur t1.ends&&(rW (S.k+J.ps.length) cf.l&&eH (S.k+J.ps.length) cf.h))))
def T0(B cur:Nat)(S:aq)(J cf:gp)(t1:aB):aB:=
 match TZ B cur S J cf t1 with
 |true=>.e0 (t1.lvl+1) cur (cn S J.ps) (t1.rel (fF (t1.lvl+1))) (.cH (.ext cur) ⟨fi cf.l,cf.h,cf.n,S.k+J.ps.length,S.g⟩)
 |false=>.bad (xP t1.nw 61)
def EX(B:Nat)(f:aq→aB)(cur:Nat)(S:aq)(J cf:gp):aB:=T0 B cur S J cf (f (J.S S.k S.g))
def AW(cur:Nat):List (b0 × aq)→List aq × List aq
 |[]=>([],[])
 |(.cj,S)::r=>match AW cur r with
  |(a,b)=>(S::a,b)
 |(.ext m,S)::r=>match AW cur r with
  |(a,b)=>match Nat.beq m cur with
   |true=>(a,S::b)
   |false=>(a,b)
 |_::r=>AW cur r
def EY(S:aq):Nat→Nat→List (Nat × ab)
 |0,_=>[]
 |n+1,i=>match S.at i with
  | .top=>EY S n (i+1)
  |x=>(i,x)::EY S n (i+1)
def zfQ(N aX cur:Nat)(S:aq)(t:aB):gp:=
 match AW cur t.ends with
 |(a,b)=>mJ (Ay N aX S (a++b)) S.n
def T1:fG→fG→Bool
 |[],[]=>true
 |(i,r,p)::l,(j,q,u)::m=>(Nat.beq i j&&hR r q)&&(od p u&&T1 l m)
 |_,_=>false
def AX{α:Type}:List α→Nat
 |[]=>0
 |_::r=>Nat.succ (AX r)
def zfR(J K:gp):Bool:=T1 J.ps K.ps&&(Nat.beq (AX J.l) (AX K.l)&&Nat.beq (AX J.h) (AX K.h))
def MR(N:Nat)(f:aq→aB)(cur:Nat)(S:aq):Nat→gp→aB→gp × aB
 |0,J,t=>(J,t)
 |n+1,J,t=>match zfQ N S.k cur S t with
  |K=>match zfR J K with
   |true=>(K,t)
   |false=>MR N f cur S n K (f (K.S S.k S.g))
def MS(j:Nat):List (Nat × bJ)→Option bJ
 |[]=>none
 |(i,x)::r=>match Nat.beq i j with
  |true=>some x
  |false=>MS j r
inductive MT where
 |dh (y:ab)
 |ex (x:bJ)
 |none
def zfS(aX:Nat)(ds:List (Nat × bJ))(y:ab):MT:=
 match y.lt aX with
 |true=>.dh y
 |false=>match y with
  | .aV (.int .i64) j=>match MS j ds with
   |some (.f1 .n6 x)=>match x.lt aX with
    |true=>.ex (.f1 .n6 x)
    |false=>.none
   |some (.f1 (.iQ c) x)=>match x.lt aX with
    |true=>.ex (.f1 (.iQ c) x)
    |false=>.none
   |_=>.none
  |_=>.none
def T2(aX cur i:Nat):aB→List (Nat × bJ)→MT
 | .lt j x t,ds=>T2 aX cur i t ((j,x)::ds)
 | .it (.aV .bool g) _ b,ds=>match MS g ds with
  |some (.f2 (.pe .lss .i64) (.aV (.int .i64) zz) y)=>match Nat.beq zz i with
   |true=>match b.xR cur with
    |some _=>zfS aX ds y
    |none=>.none
   |false=>.none
  |_=>.none
 |_,_=>.none
def T3(i s:Nat):List aq→Bool
 |[]=>true
 |S::r=>EP i s S&&T3 i s r
def zfT(x:ab):Bool:=eI x (.cs (.int .i64 0))
def EZ(S:aq)(cur:Nat)(t:aB)(E0:List aq):fG→Option (Nat × MT)
 |[]=>none
 |(i,.int .i64,.slot s [])::l=>match zfT (S.at s)&&T3 i s E0 with
  |true=>match T2 S.k cur i t []with
   | .none=>EZ S cur t E0 l
   |b=>some (s,b)
  |false=>EZ S cur t E0 l
 |_::l=>EZ S cur t E0 l
def T4(s:Nat):List aq→List aq
 |[]=>[]
 |S::r=>S.put (some s) .top::T4 s r
def MU(N aX:Nat)(S:aq)(s:Nat)(y:ab)(a b:List aq):pH:=
 match mJ (Ay N aX (S.put (some s) .top) (T4 s (a++b))) S.n with
 |J=>⟨J,mJ J (Et S.n b),s,y⟩
def E1(N:Nat)(f:aq→aB):Nat→aq→aB
 |0,_=>.bad 63
 |n+1,S=>iH N S (f S) (E1 N f n)
def zfU(y:ab):Option Nat:=
 match y with
 | .cs (.int .i64 (.ofNat n))=>match Nat.ble n 16 with
  |true=>some (n+1)
  |false=>none
 |_=>none
def aB.pI:aB→Bool
 | .cH _ _=>false
 | .lt _ _ t=>t.pI
 | .eG _ t=>t.pI
 | .it _ a b=>a.pI||b.pI
 | .dC _ a _ k=>a.pI||k.pI
 | .ej _ _ _ _ _ a k=>a.pI||k.pI
 | .e0 _ _ _ a k=>a.pI||k.pI
 | .bad _=>true
def T5(t:aB)(u:Unit→aB):aB:=
 match t.pI with
 |true=>u ()
 |false=>t
def T6(N B:Nat)(f:aq→aB)(cur:Nat)(S:aq):gp × aB→aB
 |(J,t)=>match AW cur t.ends with
  |(a,b)=>match EZ S cur t a J.ps with
   |some (s,.dh y)=>match zfU y with
    |some n=>T5 (xS N B f cur S (MU N S.k S s y a b)) fun _=>E1 N f n S
    |none=>xS N B f cur S (MU N S.k S s y a b)
   |some (s,.ex x)=>match hs S.k [x]with
    |true=>emit S.k [x] [] (xS N B f cur (S.e2 S.k [x]) (MU N (S.k+1) S s (.aV (.int .i64) S.k) a b))
    |false=>.bad 62
   |_=>EX B f cur S J (mJ J (Et S.n b))
def E2(x:ab):Bool:=eI x (.cs (.slice none 0 0))
def zfV(n i:Nat)(S:aq):Option (TypeId × bL):=
 match S.at i with
 | .aO id=>match Nat.ble n id,db S.h id with
  |true,some (.rw t c _)=>some (t,c)
  |_,_=>none
 |_=>none
def T7(n i:Nat):List aq→Option (TypeId × bL)
 |[]=>none
 |S::r=>match zfV n i S with
  |some x=>some x
  |none=>T7 n i r
def E3(S:aq)(a:List aq):Nat→Nat→List (Nat × TypeId × bL)
 |0,_=>[]
 |k+1,i=>match E2 (S.at i)with
  |true=>match T7 S.n i a with
   |some (t,c)=>(i,t,c)::E3 S a k (i+1)
   |none=>E3 S a k (i+1)
  |false=>E3 S a k (i+1)
def nx(N B:Nat):List (Nat × TypeId × bL)→aq→aq
 |[],S=>S
 |(i,t,c)::r,S=>match E2 (S.at i)&&(Nat.blt i N&&Nat.ble B S.n)with
  |true=>nx N B r ⟨S.l.put i (.aO S.n),(S.n,.rw t c (.cs (.slice none 0 0)))::S.h,S.n+1,S.k,S.g⟩
  |false=>nx N B r S
def r1(N B:Nat)(f:aq→aB)(cur:Nat)(S:aq)(t:aB):aB:=
 T6 N B f cur S (MR N f cur S 6 ⟨EY S N 0,S.h,S.n,[]⟩ t)
def aB.lV:aB→List aq
 | .cH _ S=>[S]
 | .lt _ _ t=>t.lV
 | .eG _ t=>t.lV
 | .it _ a b=>a.lV++b.lV
 | .dC _ a _ k=>a.lV++k.lV
 | .ej _ _ _ _ _ a k=>a.lV++k.lV
 | .e0 _ _ _ a k=>a.lV++k.lV
 | .bad _=>[]
def zfW(n id off:Nat)(S:aq):Option (TypeId × bL):=
 match db S.h id with
 |some (.dn _ l)=>match e3 .top l off with
  | .aO k=>match Nat.ble n k,db S.h k with
   |true,some (.rw t c _)=>some (t,c)
   |_,_=>none
  |_=>none
 |_=>none
def T8(n id off:Nat):List aq→Option (TypeId × bL)
 |[]=>none
 |S::r=>match zfW n id off S with
  |some x=>some x
  |none=>T8 n id off r
def E4(S:aq)(a:List aq)(id:Nat):Nat→List ab→List (Nat × Nat × TypeId × bL)
 |_,[]=>[]
 |off,x::r=>match E2 x with
  |true=>match T8 S.n id off a with
   |some (t,c)=>(id,off,t,c)::E4 S a id (off+1) r
   |none=>E4 S a id (off+1) r
  |false=>E4 S a id (off+1) r
def xX(S:aq)(a:List aq):List (Nat × bC)→List (Nat × Nat × TypeId × bL)
 |[]=>[]
 |(id,.dn _ l)::r=>E4 S a id 0 l++xX S a r
 |_::r=>xX S a r
def kn(B:Nat):List (Nat × Nat × TypeId × bL)→aq→aq
 |[],S=>S
 |(id,off,t,c)::r,S=>match db S.h id with
  |some (.dn bt l)=>match(match l[off]? with|some x=>E2 x|none=>false)&&Nat.ble B S.n with
   |true=>kn B r ⟨S.l,jv ((S.n,.rw t c (.cs (.slice none 0 0)))::S.h) id (.dn bt (l.set off (.aO S.n))),S.n+1,S.k,S.g⟩
   |false=>kn B r S
  |_=>kn B r S
def T9(N B:Nat)(f:aq→aB)(cur:Nat)(S:aq)(t:aB):aB:=
 match E3 S t.lV N 0 with
 |[]=>match xX S t.lV S.h with
  |[]=>r1 N B f cur S t
  |q::qs=>r1 N B f cur (kn B (q::qs) S) (f (kn B (q::qs) S))
 |p::r=>r1 N B f cur (kn B (xX S t.lV S.h) (nx N B (p::r) S)) (f (kn B (xX S t.lV S.h) (nx N B (p::r) S)))
def MV(N B:Nat)(f:aq→aB)(cur:Nat)(S:aq):aB:=T9 N B f cur S (f S)
section
variable {P:Program} {G:a8} {N B:Nat} {M:List aS}
theorem Ua{J cf:gp}{aX cur:Nat}: ∀{l:List (b0 × aq)},tz J cf aX cur l=true→∀{x:b0} {aT:aq},(x,aT)∈l→(x= .cj→jA (mJ J (Nat.max aT.n J.n)) aX aT=true)∧(x= .ext cur→jA cf aX aT=true)
 |(y,dO)::r,h,x,aT,hm=>by
  have bb:tz J cf aX cur r=true∧(y= .cj→jA (mJ J (Nat.max dO.n J.n)) aX dO=true)∧(y= .ext cur→jA cf aX dO=true):=by
   cases y with
   |cj=>
    simp only[tz,Bool.and_eq_true]at h;exact⟨h.2,fun _=>h.1,fun e=>(by cases e)⟩
   |ext m=>
    simp only[tz,Bool.and_eq_true]at h;refine⟨h.2,fun e=>(by cases e),fun e=>?_⟩
    cases e
    have aa:=h.1
    rw[Nat.beq_refl]at aa;exact aa
   |ret=>exact⟨h,fun e=>(by cases e),fun e=>(by cases e)⟩
   |lf m=>exact⟨h,fun e=>(by cases e),fun e=>(by cases e)⟩
  rcases List.mem_cons.1 hm with q|q
  ·cases q;exact bb.2
  ·exact Ua bb.1 q
theorem zfX{c:Code}{R A:Type}{n:Nat}{b:A→Step R A}{a0:A}{hd:A→aP}{Q:Exit→aP→Prop}{dr:aP}{I:A→Prop}
    (aH:cm dr (hd a0))(hi:I a0)(he:kg b n a0)
    (af: ∀a,I a→(∀r,b a= .ret r→c0 b n a0= .inl r)→(∀v,b a= .cI v→c0 b n a0= .inr v)→b2 P G c (fun e st=>match e with
      | .normal=>∃bc,b a= .br bc∧I bc∧cm st (hd bc)
      |e=>Q e st) (hd a)):b2 P G (.loop c) Q dr:=by
  refine b2.loop (ι:=Nat × A) (fun x=>hd x.2) (fun x=>(c0 b n a0=c0 b x.1 x.2∧kg b x.1 x.2)∧I x.2) (fun x=>x.1) (n,a0) aH ⟨⟨rfl,he⟩,hi⟩ ?_
  rintro⟨k,a⟩ ⟨fS,bU⟩
  refine b2.mono (af a bU (fun r ad=>zdk fS ad) (fun v ad=>zdl fS ad)) fun e st ai=>?_
  cases e with
  |normal=>
    obtain⟨bc,aa,au,ae⟩:=ai;obtain⟨m,aR,bA⟩:=zdj fS aa;exact⟨(m,bc),⟨bA,au⟩,by show m<k;omega,ae⟩
  |_=>exact ai
theorem Ub{J:gp}{aX kx:Nat}{S0 aT:aq}{e aC:Env}{k:Nat}{g g':List b6}(ak:im aX J.ps=true)(mh: ∀c∈aT.g,c.ok aC)(h:jA (mJ J (Nat.max aT.n J.n)) aX aT=true)(ih:vt J.n J.l=true)(o8:og J.n J.h=true)(hy:B≤J.n)(bS:bX aX e aC):
 cm (aT.den G N B aC) ((aq.mk (fi J.l) J.h J.n k g).den G N B (bm e (cn S0 J.ps) (b9 _ (fw aT aC (cn S0 J.ps))))):=by
 have aa:=LP (G:=G) (N:=N) (B:=B) (J:=mJ J (Nat.max aT.n J.n)) ak mh h (g:=g') bS
 refine aa.le.trans ?_
 rw[AS]
 refine cm.low (m:=Nat.max aT.n J.n) ?_ ?_ hy
 ·exact MF (n:=J.n) (l:=fi J.l) (fun i x hx=>MG ih (px hx)) N 0
 ·exact xG o8
theorem zfY{c:Code}{f:aq→aB}(hf:jc P G N B M c f){cur:Nat}{S:aq}{J cf:gp}{e:Env}(ad:S.cr)(e8:S.ct e)(ai:(EX B f cur S J cf).safe M e):b2 P G (.loop c) (jB G N B M (EX B f cur S J cf) e S.k) (S.den G N B e):=by
 unfold EX T0 at ai⊢
 split at ai
 rotate_left
 ·exact ai.elim
 rename_i tw
 generalize AV:f (J.S S.k S.g)=t1 at ai tw⊢
 simp only[TZ,Bool.and_eq_true]at tw
 obtain⟨⟨aU,da,c9⟩,⟨jL,wo,wq⟩,qc,sG,CK,CL⟩:=tw
 have qc:=Nat.le_of_ble_eq_true qc
 have MJ:t1.lvl<t1.lvl+1:=Nat.lt_succ_self _
 have oe:=KE MJ
 obtain⟨⟨Inv,MK,EV⟩,MW,aj⟩:=ai
 generalize r0:S.k+J.ps.length=kx at*
 have hle:S.k≤kx:=by rw[←r0];exact Nat.le_add_right _ _
 have cp: ∀L,c0 (fun(v:bY (cn S J.ps))=>c6 M (t1.lvl+1) cur (cn S J.ps) (t1.rel (fF (t1.lvl+1))) (bm e (cn S J.ps) v) v) dU (b9 _ (dE e (cn S J.ps)))=L→
  run M (aB.e0 (t1.lvl+1) cur (cn S J.ps) (t1.rel (fF (t1.lvl+1))) (.cH (.ext cur) ⟨fi cf.l,cf.h,cf.n,kx,S.g⟩)) e=Sum.elim (fun r=>r) (fun v=>some (.ext cur,⟨fi cf.l,cf.h,cf.n,kx,S.g⟩,bm e (cn S J.ps) v)) L:=fun L fS=>by
  rw[Ej,fS];rfl
 have zfZ:kg (fun(v:bY (cn S J.ps))=>c6 M (t1.lvl+1) cur (cn S J.ps) (t1.rel (fF (t1.lvl+1))) (bm e (cn S J.ps) v) v) dU (b9 _ (dE e (cn S J.ps))):=
  (KC (fun _=>()) (fun v=>iS _ _ _ _ _ v) _ _).1 MW
 generalize zfK:aB.e0 (t1.lvl+1) cur (cn S J.ps) (t1.rel (fF (t1.lvl+1))) (.cH (.ext cur) ⟨fi cf.l,cf.h,cf.n,kx,S.g⟩)=qL at cp
 have tx: ∀(v:bY (cn S J.ps)),bX S.k e (bm e (cn S J.ps) v):=fun v j ag=>xT aU (.inl ag)
 have MM:(J.S S.k S.g).cr:=⟨fun i x hx=>by show x.lt (S.k+J.ps.length)=true;rw[r0];exact tl da (px hx),by show eH (S.k+J.ps.length) J.h=true;rw[r0];exact c9,by show fh (S.k+J.ps.length) S.g=true;rw[r0];exact oa hle ad.g⟩
 have MN: ∀(v:bY (cn S J.ps)),(J.S S.k S.g).ct (bm e (cn S J.ps) v):=fun v=>ik (tx v) ad.g e8
 have EW: ∀dg:aq,dg=⟨fi cf.l,cf.h,cf.n,kx,S.g⟩→dg.cr:=fun dg h=>by
  subst h;exact⟨fun i x hx=>tl CK (px hx),CL,oa hle ad.g⟩
 refine zfX (n:=dU) (b:=fun(v:bY (cn S J.ps))=>c6 M (t1.lvl+1) cur (cn S J.ps) (t1.rel (fF (t1.lvl+1))) (bm e (cn S J.ps) v) v) (a0:=b9 _ (dE e (cn S J.ps)))
  (hd:=fun v=>(J.S S.k S.g).den G N B (bm e (cn S J.ps) v)) (I:=Inv) ?_ MK zfZ (fun v bU zf0 zf1=>?_)
 ·rw[ME]
  exact Ub (kx:=kx) (g':=S.g) aU e8 jL wo wq qc (bX.refl _ _)
 ·obtain⟨c3,dj⟩:=EV v bU
  have xW:=hf (J.S S.k S.g) (bm e (cn S J.ps) v) MM (MN v) (by rw[AV];exact(kY oe).1 c3)
  refine b2.mono xW fun ex st ⟨x,aT,aC,aa,ae,au,aR,bA,cB,dM⟩=>?_
  rw[AV]at aa
  have zf2:(J.S S.k S.g).k=kx:=r0
  rw[zf2]at cB dM;obtain⟨MO,MP⟩:=Ua sG (oj aa)
  have pj:run M (t1.rel (fF (t1.lvl+1))) (bm e (cn S J.ps) v)=some (fF (t1.lvl+1) x,aT,aC):=by rw[wh oe,aa];rfl
  have lU:c6 M (t1.lvl+1) cur (cn S J.ps) (t1.rel (fF (t1.lvl+1))) (bm e (cn S J.ps) v) v=ee (t1.lvl+1) cur (cn S J.ps) (fun x S e=>some (x,S,e)) (fF (t1.lvl+1) x) aT aC:=by
   unfold c6;rw[pj]
  have vw:bX S.k e aC:=bX.trans (tx v) cB hle
  have out: ∀ex,AF x ex→fF (t1.lvl+1) x=x→x.bT (t1.lvl+1)=false→x.cZ cur=false→jB G N B M qL e S.k ex st:=fun ex ae hm ag hx=>by
   rw[hm,kj ag hx]at lU;exact⟨x,aT,aC,cp _ (zf0 _ lU),ae,au,aR,bA,vw,Nat.le_trans hle dM⟩
  cases x with
  |lf m=>cases ex<;>exact ae.elim
  |ret=>cases ex<;>first|exact ae.elim|exact out _ ae rfl rfl rfl
  |cj=>
   cases ex with
   |normal=>
    rw[n7 (x:=fF (t1.lvl+1) .cj) (show b0.bT (t1.lvl+1) (.lf (t1.lvl+1))=true from Nat.beq_refl _)]at lU
    exact⟨_,lU,dj _ (by rw[iS,lU];rfl),au.trans (Ub (kx:=kx) (g':=S.g) aU bA (MO rfl) wo wq qc vw)⟩
   |_=>exact ae.elim
  |ext m=>
   cases ex with
   |exit vx=>
    have ae:m=vx:=ae
    subst ae
    cases hm:Nat.beq m cur with
    |false=>exact out _ rfl rfl rfl hm
    |true=>
     have:=Nat.eq_of_beq_eq_true hm
     subst this;rw[n8 (x:=fF (t1.lvl+1) (.ext m)) (show b0.bT (t1.lvl+1) (.ext m)=false from rfl) (show b0.cZ m (.ext m)=true from hm)]at lU
     refine⟨.ext m,_,_,cp _ (zf1 _ lU),rfl,au.trans ?_,EW _ rfl,ik (tx _) ad.g e8,tx _,hle⟩
     rw[AS];exact Er (J:=⟨cf.l,cf.h,cf.n,J.ps⟩) aU bA (MP rfl) (g:=S.g) vw
   |_=>exact ae.elim
theorem Uc{c:Code}{f:aq→aB}(hf:jc P G N B M c f){Q:Exit→aP→Prop}: ∀(n:Nat) {S:aq} {e:Env},S.cr→S.ct e→(E1 N f n S).safe M e→(∀ex st,jB G N B M (E1 N f n S) e S.k ex st→Q ex st)→wT P G c Q n (S.den G N B e)
 |0,_,_,_,_,ai,_=>ai.elim
 |n+1,S,e,ad,e8,ai,et=>by
  obtain⟨t1,t2,t3⟩:=Ev (G:=G) (B:=B) ad e8 ai;refine wT.rd n (b2.mono (hf S e ad e8 t1) fun ex st ak=>?_)
  obtain⟨x,dg,ay,aa,ae,au,aR,bA,cB,dM⟩:=ak
  have other:x≠ .cj→Q ex st:=fun b5=>et ex st ⟨x,dg,ay,t2 x dg ay aa b5 (Tm ae),ae,au,aR,bA,cB,dM⟩
  cases x with
  |cj=>
   cases ex with
   |normal=>
    obtain⟨dO,bf,s1,s2,pA,pB,pC,pD,pE⟩:=t3 dg ay aa aR bA cB dM
    have:=Uc hf n s2 pA pD (Q:=Q) fun ex st ak=>et ex st (ak.sub pE pB pC)
    exact fun E a w af=>this E a w (s1 E G a w (au E G a w af))
   |_=>exact ae.elim
  |ret=>cases ex<;>first|exact ae.elim|exact other (by simp)
  |ext n=>cases ex<;>first|exact ae.elim|exact other (by simp)
  |lf n=>cases ex<;>exact ae.elim
theorem MX{c:Code}{Q:Exit→aP→Prop}{e:Env}: ∀(l:List (Nat × TypeId × bL)) {S:aq},S.cr→S.ct e→(nx N B l S).cr∧(nx N B l S).ct e∧(nx N B l S).k=S.k∧(b2 P G c Q ((nx N B l S).den G N B e)→b2 P G c Q (S.den G N B e))
 |[],_,ad,hf=>⟨ad,hf,rfl,fun h=>h⟩
 |(i,t,d)::r,S,ad,hf=>by
  unfold nx
  split
  ·rename_i hc
   simp only[Bool.and_eq_true]at hc;obtain⟨aU,da,c9⟩:=hc
   have gz:(⟨S.l.put i (.aO S.n),(S.n,.rw t d (.cs (.slice none 0 0)))::S.h,S.n+1,S.k,S.g⟩:aq).cr:=by
    refine⟨fun j x hx=>?_,?_,ad.g⟩
    ·simp only[ba.h0]at hx
     split at hx
     ·cases hx;rfl
     ·exact ad.l j x hx
    ·show(bC.lt S.k (.rw t d (.cs (.slice none 0 0)))&&eH S.k S.h)=true
     rw[ad.h];rfl
   obtain⟨aa,ae,au,aR⟩:=MX r gz hf;refine⟨aa,ae,au,fun h=>?_⟩
   refine b2.Kd i t (bZ d) ?_ (by rw[u3,if_pos (e7 da),e1 aU];rfl) c9
   have:=aR h
   have hd:(⟨S.l.put i (.aO S.n),(S.n,.rw t d (.cs (.slice none 0 0)))::S.h,S.n+1,S.k,S.g⟩:aq).den G N B e={S.den G N B e with cQ:=(S.den G N B e).cQ.set i (.aO (S.den G N B e).next),heap:=((S.den G N B e).next,.row false t (bZ d) [])::(S.den G N B e).heap,next:=(S.den G N B e).next+1}:=by
    simp only[aq.den,KK,cx,ab.den,bC.den,ab.aA,ab.fo,cA];rfl
   rw[hd]at this;exact this
  ·exact MX r ad hf
theorem AY{c:Code}{Q:Exit→aP→Prop}{e:Env}: ∀(l:List (Nat × Nat × TypeId × bL)) {S:aq},S.cr→S.ct e→(kn B l S).cr∧(kn B l S).ct e∧(kn B l S).k=S.k∧(b2 P G c Q ((kn B l S).den G N B e)→b2 P G c Q (S.den G N B e))
 |[],_,ad,hf=>⟨ad,hf,rfl,fun h=>h⟩
 |(id,off,t,d)::r,S,ad,hf=>by
  unfold kn
  split
  ·rename_i bt l ah
   split
   ·rename_i hc
    simp only[Bool.and_eq_true]at hc;obtain⟨aU,c9⟩:=hc
    have ar:=vr ad.h ah
    have gz:(⟨S.l,jv ((S.n,.rw t d (.cs (.slice none 0 0)))::S.h) id (.dn bt (l.set off (.aO S.n))),S.n+1,S.k,S.g⟩:aq).cr:=by
     refine⟨ad.l,EF (o:=.dn bt (l.set off (.aO S.n))) (Me (x:=.aO S.n) rfl ar) ?_,ad.g⟩
     show(bC.lt S.k (.rw t d (.cs (.slice none 0 0)))&&eH S.k S.h)=true;rw[ad.h];rfl
    obtain⟨aa,ae,au,aR⟩:=AY r gz hf;refine⟨aa,ae,au,fun h=>?_⟩
    have:=aR h
    have bd:aE (S.den G N B e).heap id=some (.box bt (ab.bQ G e l)):=by simp only[aq.den,ef,ah,Option.map_some,bC.den]
    have aj:(ab.bQ G e l)[off]? =some (.av (.v (.slice none 0 0))):=by
     rw[e6,List.getElem?_map]
     cases hx:l[off]? with
     |none=>rw[hx]at aU;cases aU
     |some x=>
      rw[hx]at aU
      have:=e1 aU
      subst this;rfl
    refine b2.le (cm.zdq (s:=S.den G N B e) id off t (bZ d) bd aj (Nat.le_of_ble_eq_true c9) rfl) ?_
    have hd:(⟨S.l,jv ((S.n,.rw t d (.cs (.slice none 0 0)))::S.h) id (.dn bt (l.set off (.aO S.n))),S.n+1,S.k,S.g⟩:aq).den G N B e={S.den G N B e with heap:=eO (((S.den G N B e).next,.row false t (bZ d) [])::(S.den G N B e).heap) id (.box bt ((ab.bQ G e l).set off (.aO (S.den G N B e).next))),next:=(S.den G N B e).next+1}:=by
     simp only[aq.den,s8,cx,bC.den,Mf,ab.den,ab.aA,ab.fo,cA];rfl
    rw[hd]at this;exact this
   ·exact AY r ad hf
  ·exact AY r ad hf
theorem MY{c:Code}{f:aq→aB}{cur:Nat}{S:aq}{e:Env}{t:aB}(hf:jc P G N B M c f)(ad:S.cr)(e8:S.ct e)(ai:(r1 N B f cur S t).safe M e):b2 P G (.loop c) (jB G N B M (r1 N B f cur S t) e S.k) (S.den G N B e):=by
 unfold r1 at ai⊢
 generalize MR N f cur S 6 ⟨EY S N 0,S.h,S.n,[]⟩ t=zf3 at ai⊢
 obtain⟨J,t⟩:=zf3
 simp only[T6]at ai⊢
 split at ai
 ·split at ai
  ·unfold T5 at ai⊢
   split at ai
   ·exact b2.rounds _ (Uc hf _ ad e8 ai fun _ _ h=>h)
   ·exact MH hf ad e8 ai
  ·exact MH hf ad e8 ai
 ·rename_i s x _
  split at ai
  ·rename_i hx
   obtain⟨_,gw⟩:=mH ai;obtain⟨b7,a2,a3⟩:=rZ (M:=M) (G:=G) (N:=N) (B:=B) ad e8 hx
   have:=MH hf b7 a2 gw
   rw[a3]at this;exact b2.mono this fun ex st ak=>ak.sub (by rw[lR]) (jW (Nat.le_refl _)) (Nat.le_add_right _ _)
  ·exact ai.elim
 ·exact zfY hf ad e8 ai
theorem zf4:Mx P G N B M (MV N B):=by
 intro c f cur hf S e ad e8 ai
 unfold MV T9 at ai⊢
 generalize f S=t at ai⊢
 split at ai
 ·split at ai
  ·exact MY hf ad e8 ai
  ·rename_i q qs _
   obtain⟨aa,ae,au,aR⟩:=AY (P:=P) (G:=G) (N:=N) (B:=B) (c:=.loop c) (Q:=jB G N B M (r1 N B f cur (kn B (q::qs) S) (f (kn B (q::qs) S))) e S.k) (e:=e) (q::qs) ad e8;refine aR ?_
   have:=MY hf aa ae ai
   rw[au]at this;exact this
 ·rename_i p r _
  generalize xX S t.lV S.h=cO at ai⊢;obtain⟨g1,g2,g3,g4⟩:=MX (P:=P) (G:=G) (N:=N) (B:=B) (c:=.loop c) (Q:=jB G N B M (r1 N B f cur (kn B cO (nx N B (p::r) S)) (f (kn B cO (nx N B (p::r) S)))) e S.k) (e:=e) (p::r) ad e8;obtain⟨aa,ae,au,aR⟩:=AY (P:=P) (G:=G) (N:=N) (B:=B) (c:=.loop c) (Q:=jB G N B M (r1 N B f cur (kn B cO (nx N B (p::r) S)) (f (kn B cO (nx N B (p::r) S)))) e S.k) (e:=e) cO g1 g2;refine g4 (aR ?_)
  have:=MY hf aa ae ai
  rw[au,g3]at this;exact this
end
end Go.aM
namespace Go.aM
open Go
def MZ(ops:Array Oper)(m:List Bool)(i:Nat)(D:List Nat)(j:Nat):Bool:=
 !(m.toArray.getD j true)&&(!(Nat.beq j i)&&match ops[j]? with
  |some o=>o.after.any fun e=>Region.binds .any e&&(e.on==i||D.contains e.on)
  |none=>false)
def E5(ops:Array Oper)(m:List Bool)(i:Nat):List Nat→List Nat→List Nat
 |[],D=>D
 |j::r,D=>match MZ ops m i D j with
  |true=>E5 ops m i r (j::D)
  |false=>E5 ops m i r D
def E6(ops:Array Oper)(wr:List Bool)(m:List Bool)(i:Nat):Bool:=
 match E5 ops m i (List.range ops.size) []with
 |D=>!(wr.getD i false)&&(D.all (MZ ops m i D)&&(List.range ops.size).all fun j=>!(wr.getD j false)||(m.toArray.getD j true||D.contains j))
section
variable {P:Program} {ops:Array Oper} {Q:Exit→Act→World→Prop} {S:World→Prop} {wr:Nat→Bool}
theorem zf5{i:Nat}{oi:Oper}{v:Value}(hi:ops[i]? =some oi)(sV:wr i=false)(lb: ∀(j:Nat) (o:Oper) cs b,ops[j]? =some o→o.op≠ .select cs b)
 (et: ∀c a w,Q (.panic c) (a.put oi.dst v) w→Q (.panic c) a w)(D:Nat→Prop):
 ∀(fuel:Nat) (listed:Array Bool) (a:Act) (w:World),
  (∀j e5,ops[j]? =some e5→j≠i→listed.getD j true=false→(∀e∈e5.after,Region.binds .any e=true→e.on≠i)→oi.apart ops e5=true)→
  (∀j e5,ops[j]? =some e5→wr j=true→listed.getD j true=false→D j)→
  (∀j,D j→listed.getD j true=false∧j≠i∧∃e5,ops[j]? =some e5∧∃e∈e5.after,Region.binds .any e=true∧(e.on=i∨D e.on))→
  i∈Region.ready .any ops listed→YieldsIf P ops S oi v a→S w→
  la P ops Q S wr fuel (listed.setIfInBounds i true) (a.put oi.dst v) w→la P ops Q S wr (fuel+1) listed a w:=by
 intro fuel
 induction fuel with
 |zero=>
  intro listed a w _ _ _ af ax hS H;refine⟨fun h=>(by rw[h]at af;cases af),fun j ag=>?_⟩
  by_cases gr:j=i
  ·subst gr;exact ax.wpOp hi hS (.inr ⟨sV,hS,H⟩)
  ·have:=ready_mono ag gr
   rw[H.1]at this
   cases this
 |succ fuel a1=>
  intro listed a w sW zT ml af ax hS H;refine⟨fun h=>(by rw[h]at af;cases af),fun j ag=>?_⟩
  by_cases gr:j=i
  ·subst gr;exact ax.wpOp hi hS (.inr ⟨sV,hS,H⟩)
  ·have aa:=H.2 j (ready_mono ag gr)
   obtain⟨qu,e5,iy,dZ⟩:=mem_ready.1 ag
   have un: ∀k,listed.getD k true=false→∀e∈e5.after,Region.binds .any e=true→e.on≠k:=fun k aj e he ad heq=>by
    have aa:=dZ e he ad
    rw[heq]at aa
    rcases Nat.lt_or_ge k listed.size with h'|h'
    ·simp[h']at aj aa;rw[aj]at aa;cases aa
    ·simp[Array.getElem?_eq_none h']at aa
   have uU: ∀e∈e5.after,Region.binds .any e=true→e.on≠i:=un i (mem_ready.1 af).1
   have Ud: ¬D j:=fun hd=>by
    obtain⟨_,_,ziQ,Ue,e,he,ad,bb⟩:=ml j hd;rw[iy]at Ue
    cases Ue
    rcases bb with bb|bb
    ·exact uU e he ad bb
    ·exact un e.on (ml _ bb).1 e he ad rfl
   have uV:wr j=false:=by
    cases hw:wr j with
    |false=>rfl
    |true=>exact absurd (zT j e5 iy hw qu) Ud
   have aa:=wpOp_mono (K':=fun bc w'=>S w'∧la P ops Q S wr fuel ((listed.setIfInBounds i true).setIfInBounds j true) bc w') (fun bc w' h'=>by
    rcases h' with⟨h',_⟩|⟨_,h'⟩
    ·rw[uV]at h';cases h'
    ·exact h') aa
   have ae:=wpOp_putIf iy (sW j e5 iy gr qu uU) (fun cs b=>lb i oi cs b hi) (fun cs b=>lb j e5 cs b iy) et ax aa
   have low: ∀k,(listed.setIfInBounds j true).getD k true=false→listed.getD k true=false:=fun k hQ=>by
    by_cases qv:j=k
    ·subst qv;exact qu
    ·rw[getD_set_ne true qv]at hQ;exact hQ
   have wY: ∀k ok,ops[k]? =some ok→k≠i→(listed.setIfInBounds j true).getD k true=false→
    (∀e∈ok.after,Region.binds .any e=true→e.on≠i)→oi.apart ops ok=true:=fun k ok aj bu hQ gd=>sW k ok aj bu (low k hQ) gd
   have zf6: ∀k,D k→(listed.setIfInBounds j true).getD k true=false∧k≠i∧∃ok,ops[k]? =some ok∧∃e∈ok.after,Region.binds .any e=true∧(e.on=i∨D e.on):=fun k aj=>by
    obtain⟨g1,g2⟩:=ml k aj;refine⟨?_,g2⟩
    have qv:j≠k:=fun bb=>Ud (by rw[bb];exact aj)
    rw[getD_set_ne true qv];exact g1
   refine wpOp_mono (fun bc w' au=>.inr ⟨uV,au.2.1,a1 (listed.setIfInBounds j true) bc w' wY (fun k ok aj hw hQ=>zT k ok aj hw (low k hQ)) zf6 (ready_mono af (Ne.symm gr)) au.1 au.2.1 ?_⟩) ae
   rw[Array.setIfInBounds_comm _ _ gr];exact au.2.2
theorem zf7{i:Nat}{oi:Oper}{v:Value}(hi:ops[i]? =some oi)(sV:wr i=false)(lb: ∀(j:Nat) (o:Oper) cs b,ops[j]? =some o→o.op≠ .select cs b)
 (et: ∀c a w,Q (.panic c) (a.put oi.dst v) w→Q (.panic c) a w):
 ∀(fuel:Nat) (listed:Array Bool) (a:Act) (w:World),
  (∀j e5,ops[j]? =some e5→j≠i→listed.getD j true=false→(∀e∈e5.after,Region.binds .any e=true→e.on≠i)→oi.apart ops e5=true)→
  i∈Region.ready .any ops listed→Yields P ops oi v a→S w→
  la P ops Q S wr fuel (listed.setIfInBounds i true) (a.put oi.dst v) w→la P ops Q S wr (fuel+1) listed a w:=by
 intro fuel
 induction fuel with
 |zero=>
  intro listed a w _ af ax hS H;refine⟨fun h=>(by rw[h]at af;cases af),fun j ag=>?_⟩
  by_cases gr:j=i
  ·subst gr;exact ax.yieldsIf.wpOp hi hS (.inr ⟨sV,hS,H⟩)
  ·have:=ready_mono ag gr
   rw[H.1]at this
   cases this
 |succ fuel a1=>
  intro listed a w sW af ax hS H;refine⟨fun h=>(by rw[h]at af;cases af),fun j ag=>?_⟩
  by_cases gr:j=i
  ·subst gr;exact ax.yieldsIf.wpOp hi hS (.inr ⟨sV,hS,H⟩)
  ·have aa:=H.2 j (ready_mono ag gr)
   obtain⟨qu,e5,iy,dZ⟩:=mem_ready.1 ag
   have uU: ∀e∈e5.after,Region.binds .any e=true→e.on≠i:=fun e he ad heq=>by
    have aa:=dZ e he ad
    have aH:=(mem_ready.1 af).1
    rw[heq]at aa
    rcases Nat.lt_or_ge i listed.size with h'|h'
    ·simp[h']at aH aa;rw[aH]at aa;cases aa
    ·simp[Array.getElem?_eq_none h']at aa
   have ae:=wpOp_put iy (sW j e5 iy gr qu uU) (fun cs b=>lb i oi cs b hi) (fun cs b=>lb j e5 cs b iy) et ax aa
   have low: ∀k,(listed.setIfInBounds j true).getD k true=false→listed.getD k true=false:=fun k hQ=>by
    by_cases qv:j=k
    ·subst qv;exact qu
    ·rw[getD_set_ne true qv]at hQ;exact hQ
   have wY: ∀k ok,ops[k]? =some ok→k≠i→(listed.setIfInBounds j true).getD k true=false→
    (∀e∈ok.after,Region.binds .any e=true→e.on≠i)→oi.apart ops ok=true:=fun k ok aj bu hQ gd=>sW k ok aj bu (low k hQ) gd
   refine wpOp_mono (fun bc w' ⟨mF,au⟩=>?_) ae
   rcases au with⟨hw,au⟩|⟨hw,Uf,au⟩
   ·refine .inl ⟨hw,wpAny_first hi lb et fuel _ bc w' wY (ready_mono af (Ne.symm gr)) mF ?_⟩
    rw[Array.setIfInBounds_comm _ _ gr];exact au
   ·refine .inr ⟨hw,Uf,a1 (listed.setIfInBounds j true) bc w' wY (ready_mono af (Ne.symm gr)) mF Uf ?_⟩
    rw[Array.setIfInBounds_comm _ _ gr];exact au
end
section
variable {P:Program} {G:a8} {Q:Exit→aP→Prop} {L:List Oper} {wr:List Bool}
theorem fD.zf8{fuel:Nat}{m:List Bool}{s bq:aP}(i:Nat){o:Oper}(an:L[i]? =some o)(ak:jU P G L.toArray o s bq)(k:fD P G L Q wr fuel (m.set i true) bq)(ai:Region.noSelect L.toArray=true)
 (hf:Region.free .any L.toArray m.toArray i=true)(af:(Region.ready .any L.toArray m.toArray).contains i=true)(hw:E6 L.toArray wr m i=true):fD P G L Q wr (fuel+1) m s:=by
 intro E a w dB
 obtain⟨v,aw,ru⟩:=ak E a w dB
 unfold E6 at hw
 simp only at hw
 generalize ml:E5 L.toArray m i (List.range L.toArray.size) []=D at hw
 simp only[Bool.and_eq_true]at hw
 obtain⟨aa,ae,au⟩:=hw
 refine zf5 (i:=i) (oi:=o) (v:=v) (by simpa using an) (by simpa using aa) (Region.noSelect_spec ai) (fun c a w aJ=>?_) (fun j=>D.contains j=true) fuel m.toArray a w (Region.free_spec (by simpa using an) hf) (fun j e5 iy uV hQ=>?_) (fun j ag=>?_) (by simpa using af) aw (gb.refl w) (by simpa using k E _ w ru)
 ·obtain⟨_,⟨h,_⟩,_⟩:=aJ
  cases h
 ·have:=List.all_eq_true.1 au j (List.mem_range.2 (Array.getElem?_eq_some_iff.1 iy).1)
  rw[uV,hQ]at this;simpa using this
 ·have hm:j∈D:=by simpa using ag
  have:=List.all_eq_true.1 ae j hm
  unfold MZ at this;simp only[Bool.and_eq_true,Bool.not_eq_true']at this;obtain⟨g1,g2,g3⟩:=this;refine⟨g1,fun bb=>(by rw[bb,Nat.beq_refl]at g2;cases g2),?_⟩
  cases iy:L.toArray[j]? with
  |none=>rw[iy]at g3;cases g3
  |some e5=>
   rw[iy]at g3;obtain⟨e,he,ad⟩:=Array.any_eq_true'.1 g3;simp only[Bool.and_eq_true,Bool.or_eq_true,beq_iff_eq]at ad;exact⟨e5,rfl,e,he,ad⟩
theorem fD.zf9{fuel:Nat}{m:List Bool}{s bq:aP}(i:Nat){o:Oper}(an:L[i]? =some o)(ak:ho P G L.toArray o s bq)(k:fD P G L Q wr fuel (m.set i true) bq)(ai:Region.noSelect L.toArray=true)
 (hf:Region.free .any L.toArray m.toArray i=true)(af:(Region.ready .any L.toArray m.toArray).contains i=true)(hw:wr.getD i false=false):fD P G L Q wr (fuel+1) m s:=by
 intro E a w dB
 obtain⟨v,aw,ru⟩:=ak E a w dB
 refine zf7 (i:=i) (oi:=o) (v:=v) (by simpa using an) hw (Region.noSelect_spec ai) (fun c a w aJ=>?_) fuel m.toArray a w (Region.free_spec (by simpa using an) hf) (by simpa using af) aw (gb.refl w) (by simpa using k E _ w ru)
 obtain⟨_,⟨h,_⟩,_⟩:=aJ
 cases h
theorem fD.any{fuel:Nat}{m:List Bool}{s:aP}(b5:Region.ready .any L.toArray m.toArray≠[])(h: ∀i∈Region.ready .any L.toArray m.toArray,∃o,L[i]? =some o∧∃A:aP→Prop,(∀t,A t→fD P G L Q wr fuel (m.set i true) t)∧
      ∀E a w,Rel E G s a w→(Region.wanted o (yielded L.toArray a.tmps)=true∧∀(K:Act→World→Prop) (Q:Exit→Act→World→Prop),(∀t,A t→∀bc w',Rel E G t bc w'→(wr.getD i false=true∨gb w w')→K bc w')→o.wp P a w K Q)∨(wr.getD i false=false∧Region.wanted o (yielded L.toArray a.tmps)=false∧∃t,A t∧Rel E G t (a.put o.dst undef) w)):fD P G L Q wr (fuel+1) m s:=by
  intro E a w af;refine⟨fun hn=>absurd hn b5,fun j ag=>?_⟩
  obtain⟨o,an,A,k,ai⟩:=h j ag
  have eO:m.toArray.setIfInBounds j true=(m.set j true).toArray:=by simp
  have next: ∀t,A t→∀bc w',Rel E G t bc w'→(wr.getD j false=true∨gb w w')→(wr.getD j false=true∧wpAny P .any L.toArray (lift E G (n4 Q)) fuel (m.toArray.setIfInBounds j true) bc w')∨(wr.getD j false=false∧gb w w'∧la P L.toArray (lift E G (n4 Q)) (gb w) (fun i=>wr.getD i false) fuel (m.toArray.setIfInBounds j true) bc w'):=fun t aI bc w' dW aj=>by
    rw[eO]
    cases hw:wr.getD j false with
    |true=>exact .inl ⟨rfl,(k t aI).cY E bc w' dW⟩
    |false=>
      rcases aj with aj|aj
      · rw[hw]at aj;cases aj
      · exact .inr ⟨rfl,aj,Dv (fun eS ae=>aj.trans ae) _ _ _ _ (k t aI E bc w' dW)⟩
  unfold wpOp;rw[show L.toArray[j]? =some o from by simpa using an]
  simp only
  rcases ai E a w af with⟨fv,au⟩|⟨hw,fv,t,aR,au⟩
  · rw[if_pos fv]
    exact .inl (au _ _ next)
  · rw[if_neg (by rw[fv];decide)]
    exact next t aR _ _ au (.inr (gb.refl w))
end
section
variable {P:Program} {G:a8} {N B:Nat} {M:List aS}
theorem c5.later{E:Entry}{s:aP}{a:Act}{w dx:World}{β:Nat→Value}{ro:Nat→Prop}(h:c5 E G s a w β ro)(aj:gb w dx):c5 ⟨dx,ro,s.heap,β,E.n⟩ G s a dx β ro:=by
 have bP:w.heap.size≤dx.heap.size:=by
  rcases Nat.eq_zero_or_pos w.heap.size with aH|aH
  ·omega
  ·have aa:=aj (w.heap.size-1) (by omega)
   rcases Nat.lt_or_ge (w.heap.size-1) dx.heap.size with ae|ae
   ·omega
   ·rw[Array.getElem?_eq_none ae,Array.getElem?_eq_getElem (by omega)]at aa
    cases aa
 have hw: ∀b,ro b→dx.heap[b]? =w.heap[b]? :=fun b ad=>aj b (h.heap.lt b ad)
 refine⟨h.defers,h.size,fun i x hx=>(h.slot i x hx).keep hw (fun _ h=>h) (Nat.le_refl _) (fun _ t cs ah=>⟨rfl,t,cs,ah⟩) (fun _ z t _ es ah=>⟨rfl,z,t,es,ah⟩) (fun _ bN ah=>⟨rfl,bN,ah⟩),
  ⟨fun id ie ah=>(h.heap.c7 id ie ah).keep hw (fun _ h=>h) (Nat.le_refl _) bP rfl (fun ar b ad=>aj b ((h.heap.c7 id ie ah).hJ ar ad)) (fun _ t cs ah=>⟨rfl,t,cs,ah⟩) (fun _ z t _ es ah=>⟨rfl,z,t,es,ah⟩) (fun _ bN ah=>⟨rfl,bN,ah⟩),h.heap.inj,h.heap.ff,fun b ad=>Nat.lt_of_lt_of_le (h.heap.lt b ad) bP⟩,
  h.ic.keep hw fun _ h=>h,⟨rfl,rfl,rfl,Nat.le_refl _,fun _ _ _=>rfl,fun b ad=>.inl ad,fun b ad=>ad,fun b ad=>.inl ad,fun id hi o ah=>⟨by rw[ah];simp,rfl⟩,h.trans.new,h.trans.le⟩,h.base⟩
theorem Ug{w:World}{ro:Nat→Prop}{σ:Heap}{β:Nat→Value}{n:Nat}{x:Value}{c:Value}(h:bs w ro σ β n (.av (.v x)) c):c=x:=by
 cases h with
 |av _ _ h=>
  cases h;rfl
theorem jU.rD{ops:Array Oper}{o:Oper}{s:aP}{x:Value}(h:cN P G o s (.av (.v x)))(ah:dN ops s o=some true):jU P G ops o s (s.put o.dst (.av (.v x))):=by
 intro E a w ⟨β,ro,af⟩
 have hw:=n3 (ops:=ops) ⟨β,ro,af⟩ ah
 obtain⟨c,_,ae⟩:=h E a w β ro af
 refine⟨x,.inl ⟨hw,fun dx aj=>?_⟩,β,ro,af.put _ _ _ (by rw[Ug ae]at ae;exact ae)⟩
 obtain⟨aU,au,aR⟩:=h _ a dx β ro (af.later aj)
 rw[Ug aR]at au
 exact au
def ko(P:Program)(G:a8)(ops:Array Oper)(o:Oper)(s:aP)(A:aP→Prop):Prop:=∀E a w,Rel E G s a w→
 (Region.wanted o (yielded ops a.tmps)=true∧∀(K:Act→World→Prop) (Q:Exit→Act→World→Prop),(∀t,A t→∀bc w',Rel E G t bc w'→gb w w'→K bc w')→o.wp P a w K Q)∨
 (Region.wanted o (yielded ops a.tmps)=false∧∃t,A t∧Rel E G t (a.put o.dst undef) w)
theorem ko.v{ops:Array Oper}{o:Oper}{s:aP}{v:aD}{A:aP→Prop}(h:cN P G o s v)(ah:dN ops s o=some true)(dq:A (s.put o.dst v)):ko P G ops o s A:=fun E a w af=>
 .inl ⟨n3 af ah,fun K Q hK=>h.Qm E a w af K Q fun bc w' dW aj=>hK _ dq bc w' dW aj⟩
theorem ko.no{ops:Array Oper}{o:Oper}{s:aP}{A:aP→Prop}(ah:dN ops s o=some false)(dq:A (s.put o.dst (.tuple []))):ko P G ops o s A:=fun E a w af=>
 .inr ⟨n3 af ah,_,dq,af.C1 o.dst⟩
theorem fD.one{L:List Oper}{Q:Exit→aP→Prop}{wr:List Bool}{fuel:Nat}{m:List Bool}{s:aP}{A:aP→Prop}{i:Nat}{o:Oper}(an:L[i]? =some o)(h:Region.ready .any L.toArray m.toArray=[i])(hw:wr.getD i false=false)
 (ai:ko P G L.toArray o s A)(k: ∀t,A t→fD P G L Q wr fuel (m.set i true) t):fD P G L Q wr (fuel+1) m s:=by
 intro E a w af
 refine⟨fun hn=>(by rw[h]at hn;cases hn),fun j ag=>?_⟩
 rw[h]at ag
 rcases List.mem_cons.1 ag with rfl|ag
 rotate_left
 ·cases ag
 have eO:m.toArray.setIfInBounds j true=(m.set j true).toArray:=by simp
 have next: ∀t,A t→∀bc w',Rel E G t bc w'→gb w w'→wr.getD j false=false∧gb w w'∧la P L.toArray (lift E G (n4 Q)) (gb w) (fun i=>wr.getD i false) fuel (m.toArray.setIfInBounds j true) bc w':=fun t aI bc w' dW aj=>by
  rw[eO];exact⟨hw,aj,Dv (fun eS ae=>aj.trans ae) _ _ _ _ (k t aI E bc w' dW)⟩
 unfold wpOp
 rw[show L.toArray[j]? =some o from by simpa using an]
 simp only
 rcases ai E a w af with⟨fv,au⟩|⟨fv,t,aR,au⟩
 ·rw[if_pos fv]
  exact .inl (au _ _ fun t aI bc w' dW aj=>.inr (next t aI bc w' dW aj))
 ·rw[if_neg (by rw[fv];decide)]
  exact .inr (next t aR _ _ au (gb.refl w))
def M0(P:Program)(G:a8)(ops:Array Oper)(o:Oper)(s:aP)(A:aP→Prop):Prop:=∀E a w,Rel E G s a w→
 Region.wanted o (yielded ops a.tmps)=true∧∀(K:Act→World→Prop) (Q:Exit→Act→World→Prop),(∀t,A t→∀bc w',Rel E G t bc w'→K bc w')→o.wp P a w K Q
theorem fD.zga{L:List Oper}{Q:Exit→aP→Prop}{wr:List Bool}{fuel:Nat}{m:List Bool}{s:aP}{A:aP→Prop}{i:Nat}{o:Oper}(an:L[i]? =some o)(h:Region.ready .any L.toArray m.toArray=[i])(hw:wr.getD i false=true)
 (ai:M0 P G L.toArray o s A)(k: ∀t,A t→fD P G L Q wr fuel (m.set i true) t):fD P G L Q wr (fuel+1) m s:=by
 intro E a w af
 refine⟨fun hn=>(by rw[h]at hn;cases hn),fun j ag=>?_⟩
 rw[h]at ag
 rcases List.mem_cons.1 ag with rfl|ag
 rotate_left
 ·cases ag
 have eO:m.toArray.setIfInBounds j true=(m.set j true).toArray:=by simp
 have next: ∀t,A t→∀bc w',Rel E G t bc w'→wr.getD j false=true∧wpAny P .any L.toArray (lift E G (n4 Q)) fuel (m.toArray.setIfInBounds j true) bc w':=fun t aI bc w' dW=>by
  rw[eO];exact⟨hw,(k t aI).cY E bc w' dW⟩
 unfold wpOp
 rw[show L.toArray[j]? =some o from by simpa using an]
 simp only
 obtain⟨fv,au⟩:=ai E a w af
 rw[if_pos fv]
 exact .inl (au _ _ fun t aI bc w' dW=>.inl (next t aI bc w' dW))
theorem ko.call{ops:Array Oper}{o:Oper}{s:aP}{xs:Array Operand}{f:FuncId}{p q:List aD}(vg:vf P G o s f p q xs)(gC:m9 P f=true)
 (ah:dN ops s o=some true)(o2:e4 (p++xs.toList.map (aL G s)++q)=true){R:aD→Heap→Prop}(hc:dF P G f (p++xs.toList.map (aL G s)++q) [] 0 R){A:aP→Prop}(fL: ∀r bV,R r bV→fA r=true∧A (s.put o.dst r)):ko P G ops o s A:=by
 intro E a w ⟨β,ro,h⟩
 refine .inl ⟨n3 ⟨β,ro,h⟩ ah,fun K Q hK=>?_⟩
 obtain⟨c,d,aa,ae,kl,ve,cp⟩:=vg E a w β ro h
 ·unfold Oper.wp
  rw[cp w,C4 gC]
  have hk:=hc w β ro (c++xs.map a.eval++d) (by simp[aa,ae,Nat.add_assoc]) (fun i y ax=>nX (SL (x:=.const undef) (f:=.func f) h aa ae kl ve i y ax) (m8 o2 ax))
   ⟨by simp[aE],by simp[aE],fun b _ ⟨_,_,ah,_⟩=>by simp[aE]at ah,h.heap.lt⟩ h.ic (by simp[aE])
  refine Calls.mono hk fun e w' aJ=>?_
  obtain⟨v,r,bV,dL,ro',cJ,rfl,af,dB,hO,cE⟩:=aJ;obtain⟨zgb,dq⟩:=fL r bV af
  have k6: ∀b,¬Own ([]:Heap) β b:=fun b ⟨_,_,ah,_⟩=>by simp[aE]at ah
  have lI: ∀b,b<w.heap.size→w'.heap[b]? =w.heap[b]? :=fun b ad=>cE.frame b ad (k6 b)
  have cS:=h.grow (w':=w') (ro':=ro') cE.os cE.tape cE.output cE.size lI cE.j7 (fun b ad=>by
   rcases cE.jk b ad with q|q|q
   ·exact .inl q
   ·exact absurd q (k6 b)
   ·exact .inr ⟨q,hO.lt b ad⟩)
  exact hK _ dq _ _ ⟨β,ro',cS.put o.dst r v (nX dB zgb)⟩ lI
theorem b2.zgc{id:Nat}{L:List Oper}{Q:Exit→aP→Prop}{wr:List Bool}{s:aP}(n:Nat)(h:fD P G L Q wr n (List.replicate n false) s)(qY:P.follows .mixedOrders=true)(hn:Nat.beq L.length n=true):b2 P G (.region id L.toArray true) Q s:=b2.zdb n h.cY qY hn
end
end Go.aM
