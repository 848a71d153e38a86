/- TD, part V: loops that count: how they are made, their parts. Conditions: none. -/
import Derived.Test.YtmkpmgfieagphaaGreatDoorKTDu
import Derived.Test.YtmkpmgfieagphaaGreatDoorKTDa
namespace Go.aL
open Go
def aC.ends:aC→List (b0 × ao)
 | .cH x S=>[(x,S)]
 | .lt _ _ t=>t.ends
 | .eG _ t=>t.ends
 | .it _ a b=>a.ends++b.ends
 | .dC _ a _ k=>a.ends++k.ends
 | .eo _ _ _ _ _ a k=>a.ends++k.ends
 | .e0 _ _ _ a k=>a.ends++k.ends
 | .bad _=>[]
def cq(S:ao):fM→List hE
 |[]=>[]
 |(i,r,p)::l=>⟨i,r,p.de S,p⟩::cq S l
def x8(kx j:Nat):List b5→Bool
 |[]=>false
 | .d2 i (.ju .add .i64 .i64) x y::r=>match Nat.beq i j&&(eI x (.aU (.int .i64) kx)&&eI y (.cs (.int .i64 1)))with
  |true=>true
  |false=>x8 kx j r
 |_::r=>x8 kx j r
def Fg(kx b1:Nat)(aT:ao):Bool:=
 match aT.at b1 with
 | .aU (.int .i64) j=>x8 kx j aT.g
 |_=>false
def mI(J:gm)(n:Nat):gm:=⟨J.l,J.h,n,J.ps⟩
def vJ(n:Nat):List (Nat × ab)→Bool
 |[]=>true
 |(_,x)::r=>ab.r6 n x&&vJ n r
def Fh(J:gm)(aX kx b1:Nat)(aT:ao):Bool:=jA (mI J (Nat.max aT.n J.n)) aX aT&&Fg kx b1 aT
def tF(J cg:gm)(aX kx b1 cur:Nat):List (b0 × ao)→Bool
 |[]=>true
 |(.cj,aT)::r=>Fh J aX kx b1 aT&&tF J cg aX kx b1 cur r
 |(.ext m,aT)::r=>(match Nat.beq m cur with
  |true=>jA cg aX aT
  |false=>true)&&tF J cg aX kx b1 cur r
 |_::r=>tF J cg aX kx b1 cur r
def Fi(dP:ao):fM→Bool
 |[]=>true
 |(i,r,p)::l=>eI (p.de dP) (.aU r i)&&Fi dP l
def aC.x9(cur:Nat):aC→Option ao
 | .lt _ _ t=>t.x9 cur
 | .cH (.ext m) S=>match Nat.beq m cur with
  |true=>some S
  |false=>none
 |_=>none
structure pF where
 J:gm
 cg:gm
 b1:Nat
 y:ab
def pF.kx(I:pF)(S:ao):Nat:=S.k+I.J.ps.length
def pF.H(I:pF)(S:ao):ao:=ao.put ⟨fl I.J.l,I.J.h,I.J.n,I.kx S+1,.rg (I.kx S) I.y::S.g⟩ (some I.b1) (.aU (.int .i64) (I.kx S))
def pF.E(I:pF)(S:ao):ao:=ao.put ⟨fl I.J.l,I.J.h,I.J.n,I.kx S,S.g⟩ (some I.b1) I.y
def Fj(S:ao)(x:ab):Nat→Bool
 |0=>false
 |n+1=>eI (S.at n) x||Fj S x n
def lenOf(j:Nat):List b5→Option (bL × ab)
 |[]=>none
 | .d1 i (.iU c) x::r=>match Nat.beq i j with
  |true=>some (c,x)
  |false=>lenOf j r
 |_::r=>lenOf j r
def Ao(c:bL)(x:ab):Bool:=
 match x.rt with
 |some (.li d)=>decide (d=c)
 |_=>false
def Bc(N:Nat)(S:ao)(y:ab):List ff:=
 match y with
 | .cs (.int .i64 n)=>match decide (0≤n∧n<9223372036854775808)with
  |true=>[]
  |false=>[.nth 9223372036854775808 y]
 | .aU (.int .i64) j=>match lenOf j S.g with
  |some (c,x)=>match Fj S x N&&Ao c x with
   |true=>[]
   |false=>[.nth 9223372036854775808 y]
  |none=>[.nth 9223372036854775808 y]
 |y=>[.nth 9223372036854775808 y]
def isInt(y:ab):Bool:=
 match y.rt with
 |some (.int .i64)=>true
 |_=>false
def Uf(N B cur:Nat)(S:ao)(I:pF)(t1 t2:aC):Bool:=
 (im S.k I.J.ps&&(r5 (I.kx S) I.J.l&&eH (I.kx S) I.J.h))&&((eI (S.at I.b1) (.cs (.int .i64 0))&&(isInt I.y&&I.y.lt S.k))&&
 ((jA (mI I.J (Nat.max S.n I.J.n)) S.k S&&(vJ I.J.n I.J.l&&og I.J.n I.J.h))&&((Nat.blt I.b1 N&&Nat.ble B I.J.n)&&
 (tF I.J ⟨I.cg.l,I.cg.h,I.cg.n,I.J.ps⟩ S.k (I.kx S) I.b1 cur t1.ends&&((r5 (I.kx S) I.cg.l&&eH (I.kx S) I.cg.h)&&(match t2.x9 cur with
  |some dP=>jA ⟨I.cg.l,I.cg.h,I.cg.n,I.J.ps⟩ S.k dP&&Fi dP I.J.ps
  |none=>false))))))
def Ug(N B cur:Nat)(S:ao)(I:pF)(t1 t2:aC):aC:=
 match Uf N B cur S I t1 t2 with
 |true=>emit S.k [] (Bc N S I.y) (.eo (t1.lvl+1) cur (.rS (.int .i64) I.y) (I.kx S) (cq S I.J.ps) (t1.rel (fK (t1.lvl+1))) (.cH (.ext cur) ⟨fl I.cg.l,I.cg.h,I.cg.n,I.kx S,S.g⟩))
 |false=>.bad (x7 t1.nr 60)
def ya(N B:Nat)(f:ao→aC)(cur:Nat)(S:ao)(I:pF):aC:=Ug N B cur S I (f (I.H S)) (f (I.E S))
section
variable {P:Program} {G:a8} {N B:Nat} {M:List aR}
theorem oj: ∀{t:aC} {x:b0} {e ay:Env} {S:ao},run M t e=some (x,S,ay)→(x,S)∈t.ends
 | .cH x S0,_,e,ay,S,h=>by
  simp only[run,aC.fold]at h;cases h;simp[aC.ends]
 | .lt _ _ t,_,_,_,_,h=>oj (t:=t) h
 | .eG _ t,_,_,_,_,h=>oj (t:=t) h
 | .it c a b,_,e,ay,S,h=>by
  simp only[run,aC.fold]at h;simp only[aC.ends,List.mem_append]
  cases hc:c.az e .bool with
  |true=>rw[hc]at h;exact .inl (oj (t:=a) h)
  |false=>rw[hc]at h;exact .inr (oj (t:=b) h)
 | .dC n a ps k,y,e,ay,S,h=>by
  simp only[aC.ends,List.mem_append]
  cases ag:run M a e with
  |none=>unfold run at h;rw[th ag]at h;cases h
  |some l=>
   obtain⟨x,aT,aB⟩:=l
   cases hx:x.bT n with
   |true=>
    unfold run at h;rw[qE ag hx]at h;exact .inr (oj (t:=k) h)
   |false=>
    unfold run at h;rw[nh ag hx]at h;cases h;exact .inl (oj (t:=a) ag)
 | .eo m xid dk b1 ca a k,y,e,ay,S,h=>by
  rw[EI]at h;simp only[aC.ends,List.mem_append]
  cases aq:bo (fun i (v:bY ca)=>c4 M m xid ca a (bl (ba.put e b1 ⟨.int .i64,(i:Int)⟩) ca v) v) 0 (cm (dk.den M e)).toNat (b9 _ (dE e ca))with
  |inl r=>
   rw[aq]at h
   have h:r=some (y,S,ay):=h
   subst h;obtain⟨i,v,ad⟩:=Mg aq;exact .inl (oj (t:=a) (EH ad))
  |inr v=>rw[aq]at h;exact .inr (oj (t:=k) h)
 | .e0 m xid ca a k,y,e,ay,S,h=>by
  rw[EJ]at h;simp only[aC.ends,List.mem_append]
  cases aq:c5 (fun(v:bY ca)=>c4 M m xid ca a (bl e ca v) v) dV (b9 _ (dE e ca))with
  |inl r=>
   rw[aq]at h
   have h:r=some (y,S,ay):=h
   subst h;obtain⟨v,ad⟩:=Mh aq;exact .inl (oj (t:=a) (EH ad))
  |inr v=>rw[aq]at h;exact .inr (oj (t:=k) h)
 | .bad _,_,_,_,_,h=>by cases h
theorem Uh(S:ao)(e:Env): ∀ca:List hE,dy (rV ca) (b9 (rV ca) (fA S e ca))=fA S e ca
 |[]=>rfl
 |[a]=>by simp only[rV,fA,b9,dy,cB]
 |a::b::l=>by
  have:=Uh S e (b::l)
  simp only[rV,fA]at this;simp only[rV,fA,b9,dy,cB,this]
theorem M7{S:ao}{e:Env}: ∀{ps:fM},dE e (cq S ps)=fA S e (cq S ps)
 |[]=>rfl
 |(_,_,_)::l=>by simp only[cq,dE,fA,M7 (ps:=l)]
theorem Bd{S0 aT:ao}{e aB:Env}{ps:fM}:bl e (cq S0 ps) (b9 _ (fA aT aB (cq S0 ps)))=fR e (fun r p=>⟨r,(p.de aT).get aB r⟩) ps:=by
 unfold bl
 rw[Uh]
 induction ps generalizing e with
 |nil=>rfl
 |cons q l aY=>
  obtain⟨i,r,p⟩:=q;simp only[cq,fA,rW,fR];exact aY
theorem Ui{i:Nat}: ∀{ca:List hE} {e:Env} {ds:List aF},(∀a∈ca,a.i≠i)→Env.at (rW e ca ds) i=Env.at e i
 |[],_,[],_=>rfl
 |[],_,_::_,_=>rfl
 |_::_,_,[],_=>rfl
 |a::l,e,d::ds,h=>by
  simp only[rW];rw[Ui (ca:=l) fun b ad=>h b (by simp[ad]),Env.ij,if_neg (h a (by simp))]
theorem Uj{S:ao}: ∀{ps:fM} {k:Nat},im k ps=true→∀a∈cq S ps,k≤a.i∧a.i<k+ps.length
 |(j,r,p)::l,k,h,a,a1=>by
  simp only[im,Bool.and_eq_true]at h
  have af:=Nat.eq_of_beq_eq_true h.1
  simp only[cq]at a1
  rcases List.mem_cons.1 a1 with rfl|a1
  ·simp only[List.length_cons];omega
  ·have:=Uj (k:=k+1) h.2.2 a a1
   simp only[List.length_cons];omega
 |[],_,_,a,a1=>by cases a1
theorem yb{S:ao}{e:Env}{ps:fM}{k i:Nat}{v:bY (cq S ps)}(h:im k ps=true)(hi:i<k∨k+ps.length≤i):Env.at (bl e (cq S ps) v) i=Env.at e i:=
 Ui fun a a1=>by have:=Uj h a a1;omega
theorem Uk{S:ao}: ∀{ps:fM} {k:Nat} {e:Env} {v:bY (cq S ps)},im k ps=true→∀{i:Nat} {r:aV} {p:eA},iW ps i=some (r,p)→(Env.at (bl e (cq S ps) v) i).r=r
 |[],_,_,_,_,_,_,_,ak=>by cases ak
 |[(j,eQ,fX)],k,e,v,h,i,r,p,ak=>by
  simp only[iW]at ak
  split at ak
  ·rename_i ad
   cases ak;rw[←Nat.eq_of_beq_eq_true ad];simp only[bl,cq,rV,dy,rW];rw[Env.ij,if_pos rfl]
  ·cases ak
 |(j,eQ,fX)::q::l,k,e,v,h,i,r,p,ak=>by
  simp only[im,Bool.and_eq_true]at h
  have af:=Nat.eq_of_beq_eq_true h.1
  obtain⟨bO,eR,pD⟩:=q
  have ai:bl e (cq S ((j,eQ,fX)::(bO,eR,pD)::l)) v=bl (ba.put e j ⟨eQ,v.1⟩) (cq S ((bO,eR,pD)::l)) v.2:=rfl
  have ae:im (k+1) ((bO,eR,pD)::l)=true:=by
   simp only[im,Bool.and_eq_true];exact h.2.2
  simp only[iW]at ak
  split at ak
  ·rename_i ad
   cases ak
   have:=Nat.eq_of_beq_eq_true ad
   rw[ai];refine(congrArg aF.r (yb (S:=S) (e:=ba.put e j ⟨eQ,v.1⟩) (ps:=(bO,eR,pD)::l) (k:=k+1) (i:=i) (v:=v.2) ae (.inl (by omega)))).trans ?_
   rw[Env.ij,if_pos this]
  ·rw[ai]
   exact Uk (S:=S) (e:=ba.put e j ⟨eQ,v.1⟩) (ps:=(bO,eR,pD)::l) (k:=k+1) (v:=v.2) ae ak
theorem Ul{f:aV→eA→aF}{i:Nat}: ∀{ps:fM} {e ay:Env},Env.at e i=Env.at ay i→Env.at (fR e f ps) i=Env.at (fR ay f ps) i
 |[],_,_,h=>h
 |(j,r,p)::l,e,ay,h=>by
  simp only[fR];refine Ul (ps:=l) ?_
  rw[Env.ij,Env.ij,h]
theorem zgM{c:Code}{R A:Type}{n:Nat}{b:Nat→A→Step R A}{a0:A}{hd:Nat→A→aP}{Q:Exit→aP→Prop}{dr:aP}{I:Nat→A→Prop}
    (aM:cn dr (hd 0 a0))(hi:I 0 a0)
    (ag: ∀k a,k<n→I k a→bo b 0 n a0=bo b k (n-k) a→b2 P G c (fun e st=>match e with
      | .normal=>∃bc,b k a= .br bc∧I (k+1) bc∧cn st (hd (k+1) bc)
      |e=>Q e st) (hd k a))
    (he: ∀a,I n a→bo b 0 n a0= .inr a→b2 P G c (fun e st=>match e with
      | .normal=>False
      |e=>Q e st) (hd n a)):b2 P G (.loop c) Q dr:=by
  refine b2.loop (ι:=Nat × A) (fun x=>hd x.1 x.2) (fun x=>x.1≤n∧bo b 0 n a0=bo b x.1 (n-x.1) x.2∧I x.1 x.2) (fun x=>n-x.1) (0,a0) aM ⟨Nat.zero_le _,rfl,hi⟩ ?_
  rintro⟨k,a⟩ ⟨aj,fL,bW⟩
  simp only at aj fL bW⊢
  by_cases o6:k<n
  · refine b2.mono (ag k a o6 bW fL) fun e st ai=>?_
    cases e with
    |normal=>
      obtain⟨bc,aa,au,ae⟩:=ai;exact⟨(k+1,bc),⟨o6,zee fL o6 aa,au⟩,by show n-(k+1)<n-k;omega,ae⟩
    |_=>exact ai
  · have:k=n:=by omega
    subst this;refine b2.mono (he a bW (zeh fL (Nat.le_refl _))) fun e st ai=>?_
    cases e with
    |normal=>exact ai.elim
    |_=>exact ai
theorem cn.low{aO:List aD}{h:Heap}{m n b:Nat}(aa:lb n aO=true)(ae:ld n h=true)(au:b≤n):cn ⟨aO,h,m,b⟩ ⟨aO,h,n,b⟩:=by
 intro E G a w ⟨β,ro,ag⟩
 refine⟨β,ro,ag.defers,ag.size,fun i x hx=>?_,⟨fun id o ah=>?_,ag.heap.inj,ag.heap.fh,ag.heap.lt⟩,ag.ic,?_,ag.base⟩
 ·exact(ag.slot i x hx).lower (rE aa hx)
 ·have an:=ag.heap.c6 id o ah
  obtain⟨_,zT⟩:=rF ae ah
  cases an with
  |box t cs b arr aB bf ck ep=>exact .box t cs b arr aB bf ck fun j x af=>(ep j x af).lower (rE (zT t cs rfl) af)
  |row t n es xs aB bf ck=>exact .row t n es xs aB bf ck
  |gb t n es aB=>exact .gb t n es aB
  |bM bP b o aB bf ck=>exact .bM bP b o aB bf ck
 ·have t:=ag.trans
  exact⟨t.os,t.tape,t.output,t.size,t.frame,t.jl,t.j2,t.hk,t.dL,fun id o ah=>(rF ae ah).1,Nat.le_trans ag.base au⟩
theorem M8{n:Nat}{e:Env}{l:ba ab}(h: ∀i x,l.get i=some x→ab.r6 n x=true): ∀(k i:Nat),lb n (kd G e l i k)=true
 |0,_=>rfl
 |k+1,i=>by
  simp only[kd,lb,M8 h k (i+1),Bool.and_true]
  cases ah:l.get i with
  |none=>rfl
  |some x=>exact E4 (h i x ah)
theorem M9{n:Nat}: ∀{l:List (Nat × ab)},vJ n l=true→∀{i:Nat} {x:ab},(i,x)∈l→ab.r6 n x=true
 |(_,_)::r,h,i,x,hm=>by
  simp only[vJ,Bool.and_eq_true]at h
  rcases List.mem_cons.1 hm with q|q
  ·cases q;exact h.1
  ·exact M9 h.2 q
theorem Um{J:gm}{aX kx b1 j:Nat}{S0 aT:ao}{e aB:Env}{k:Nat}{g g':List b5}(ak:im aX J.ps=true)(r9:kx=aX+J.ps.length)(aq:r5 kx J.l=true)(bb:eH kx J.h=true)
 (mh: ∀c∈aT.g,c.ok aB)(h:jA (mI J (Nat.max aT.n J.n)) aX aT=true)(ih:vJ J.n J.l=true)(pb:og J.n J.h=true)(gS:B≤J.n)(vK:b1<N)(bR:bX aX e aB)(aw:(aT.at b1).den G aB= .av (.v (.int .i64 (j:Int)))):
 cn (aT.den G N B aB) ((ao.put ⟨fl J.l,J.h,J.n,k,g⟩ (some b1) (.aU (.int .i64) kx)).den G N B (bl (ba.put e kx ⟨.int .i64,(j:Int)⟩) (cq S0 J.ps) (b9 _ (fA aT aB (cq S0 J.ps))))):=by
 have aa:=Mj (G:=G) (N:=N) (B:=B) (J:=mI J (Nat.max aT.n J.n)) ak mh h (g:=g') bR
 have ae:=aa.put (i:=b1) (x:=.v (.int .i64 (j:Int))) (by rw[vk,if_pos vK,aw])
 refine ae.le.trans ?_
 rw[Bd,fb]
 have zgN:Env.at (fR (ba.put e kx ⟨.int .i64,(j:Int)⟩) (fun r p=>⟨r,(p.de aT).get aB r⟩) J.ps) kx=⟨.int .i64,(j:Int)⟩:=by
  rw[←Bd (S0:=S0),yb ak (.inr (by omega)),Env.ij,if_pos rfl]
 have Un:(ab.aU (.int .i64) kx).den G (fR (ba.put e kx ⟨.int .i64,(j:Int)⟩) (fun r p=>⟨r,(p.de aT).get aB r⟩) J.ps)= .av (.v (.int .i64 (j:Int))):=by
  simp only[ab.den,zgN,cB,fH,j9]
 rw[Un]
 have dp:bX kx (fR e (fun r p=>⟨r,(p.de aT).get aB r⟩) J.ps) (fR (ba.put e kx ⟨.int .i64,(j:Int)⟩) (fun r p=>⟨r,(p.de aT).get aB r⟩) J.ps):=fun i hi=>
  Ul (by rw[Env.ij,if_neg (by omega)])
 have qP:(⟨fl J.l,J.h,J.n,kx,[]⟩:ao).ct:=⟨fun i x hx=>tx aq (pA hx),bb,rfl⟩
 have aj:=lv (G:=G) (N:=N) (B:=B) (S:=⟨fl J.l,J.h,J.n,kx,[]⟩) dp qP
 have au:(ao.mk (fl J.l) J.h J.n k g).den G N B (fR (ba.put e kx ⟨.int .i64,(j:Int)⟩) (fun r p=>⟨r,(p.de aT).get aB r⟩) J.ps)=(ao.mk (fl J.l) J.h J.n kx []).den G N B (fR e (fun r p=>⟨r,(p.de aT).get aB r⟩) J.ps):=aj
 rw[au]
 refine cn.low (m:=Nat.max aT.n J.n) ?_ ?_ gS
 ·have:=M8 (G:=G) (e:=fR (ba.put e kx ⟨.int .i64,(j:Int)⟩) (fun r p=>⟨r,(p.de aT).get aB r⟩) J.ps) (n:=J.n) (l:=(fl J.l).put b1 (.aU (.int .i64) kx)) (fun i x hx=>by
   rw[ba.h0]at hx
   split at hx
   ·cases hx;rfl
   ·exact M9 ih (pA hx)) N 0
  rw[Ld,Un]at this
  have ql:kd G (fR (ba.put e kx ⟨.int .i64,(j:Int)⟩) (fun r p=>⟨r,(p.de aT).get aB r⟩) J.ps) (fl J.l) 0 N=kd G (fR e (fun r p=>⟨r,(p.de aT).get aB r⟩) J.ps) (fl J.l) 0 N:=congrArg aP.cS aj
  rw[ql]at this;exact this
 ·exact xX pb
end
end Go.aL
namespace Go.aL
open Go
section
variable {P:Program} {G:a8} {N B:Nat} {M:List aR}
theorem Uo{S:ao}{x:ab}: ∀{n:Nat},Fj S x n=true→∃i,i<n∧S.at i=x
 |n+1,h=>by
  simp only[Fj,Bool.or_eq_true]at h
  rcases h with h|h
  ·exact⟨n,Nat.lt_succ_self n,e1 h⟩
  ·obtain⟨i,aa,ae⟩:=Uo h
   exact⟨i,by omega,ae⟩
theorem Be{j:Nat}{c:bL}{x:ab}{e:Env}: ∀{l:List b5},lenOf j l=some (c,x)→(∀c∈l,c.ok e)→Env.at e j=⟨.int .i64,(List.length (x.az e (.li c)):Int)⟩
 | .d1 i f y::r,h,hc=>by
  have ag: ∀{c x},lenOf j r=some (c,x)→Env.at e j=⟨.int .i64,(List.length (x.az e (.li c)):Int)⟩:=fun h=>Be h fun c hm=>hc c (by simp[hm])
  have aM:=hc (.d1 i f y) (by simp)
  cases f with
  |iU d=>
   simp only[lenOf]at h
   split at h
   ·rename_i ad
    cases h;rw[←Nat.eq_of_beq_eq_true ad];exact aM
   ·exact ag h
  |_=>exact ag h
 | .d2 _ _ _ _::r,h,hc=>Be (l:=r) h fun c hm=>hc c (by simp[hm])
 | .rg _ _::r,h,hc=>Be (l:=r) h fun c hm=>hc c (by simp[hm])
 | .dU _ _::r,h,hc=>Be (l:=r) h fun c hm=>hc c (by simp[hm])
theorem zgO{S:ao}{y:ab}{e:Env}{Up:Entry}{a:Act}{w:World}(hf:S.cu e)(h: ∀n∈Bc N S y,n.ok M e)(ag:Rel Up G (S.den G N B e) a w):0≤cm (y.dyn e)∧cm (y.dyn e)<9223372036854775808:=by
 have key:(ff.nth 9223372036854775808 y).ok M e→0≤cm (y.dyn e)∧cm (y.dyn e)<9223372036854775808:=fun h=>h
 unfold Bc at h
 split at h
 ·rename_i n
  split at h
  ·rename_i hd
   exact of_decide_eq_true hd
  ·exact key (h _ (by simp))
 ·rename_i j
  split at h
  ·rename_i c x aq
   split at h
   ·rename_i ad
    simp only[Bool.and_eq_true]at ad;obtain⟨i,hi,hx⟩:=Uo ad.1
    have aa:=Be aq hf
    have zgP:x.rt=some (.li c):=by
     have:=ad.2
     unfold Ao at this
     split at this
     ·rename_i d hd
      rw[hd,of_decide_eq_true this]
     ·cases this
    have ae:=fY (G:=G) (e:=e) zgP
    have vL:aJ G (S.den G N B e) (.tmp i)= .av (.li c (x.az e (.li c))):=by
     simp only[aJ,List.getD_eq_getElem?_getD,vk,if_pos hi,hx,ae]
     rfl
    have:=zeD ag vL
    have hd:cm ((ab.aU (.int .i64) j).dyn e)=(List.length (x.az e (.li c)):Int):=by
     simp only[ab.dyn,aa,cB,cm]
    rw[hd];omega
   ·exact key (h _ (by simp))
  ·exact key (h _ (by simp))
 ·exact key (h _ (by simp))
theorem Bf{kx j:Nat}{e:Env}: ∀{l:List b5},x8 kx j l=true→(∀c∈l,c.ok e)→Env.at e j=⟨.int .i64,IntKind.i64.wrap (((Env.at e kx).aG (.int .i64):Int)+1)⟩
 | .d2 i f x y::r,h,hc=>by
  have ag:x8 kx j r=true→Env.at e j=⟨.int .i64,IntKind.i64.wrap (((Env.at e kx).aG (.int .i64):Int)+1)⟩:=fun h=>Bf h fun c hm=>hc c (by simp[hm])
  have aM:=hc (.d2 i f x y) (by simp)
  unfold x8 at h
  split at h
  ·cases h
  ·rename_i heq
   cases heq
   split at h
   ·rename_i ad
    simp only[Bool.and_eq_true]at ad;rw[←Nat.eq_of_beq_eq_true ad.1]
    have aM:Env.at e i=_:=aM
    rw[aM,e1 ad.2.1,e1 ad.2.2];simp only[cD.den,ab.az,ab.fr,ab.dyn,cB,bA]
   ·exact ag h
  ·rename_i heq
   cases heq;exact ag h
 | .d1 _ _ _::r,h,hc=>Bf (l:=r) h fun c hm=>hc c (by simp[hm])
 | .rg _ _::r,h,hc=>Bf (l:=r) h fun c hm=>hc c (by simp[hm])
 | .dU _ _::r,h,hc=>Bf (l:=r) h fun c hm=>hc c (by simp[hm])
theorem zgQ{kx b1:Nat}{aT:ao}{e:Env}{i:Nat}(h:Fg kx b1 aT=true)(hf:aT.cu e)(aj:Env.at e kx=⟨.int .i64,(i:Int)⟩)(hi:(i:Int)<9223372036854775807):(aT.at b1).den G e= .av (.v (.int .i64 ((i+1:Nat):Int))):=by
 unfold Fg at h
 split at h
 ·rename_i j hx
  have:=Bf h hf
  rw[hx];simp only[ab.den,this,cB,aj,fH,j9];rw[zdU (by omega)]
 ·cases h
theorem Uq{cur:Nat}: ∀{t:aC} {e:Env} {S:ao},t.x9 cur=some S→t.safe M e∧∃ay,run M t e=some (.ext cur,S,ay)
 | .lt _ _ t,e,S,h=>Uq (t:=t) h
 | .cH x S0,e,S,h=>by
  refine⟨trivial,?_⟩
  unfold aC.x9 at h
  split at h
  ·rename_i heq;cases heq
  ·rename_i m dc heq
   cases heq
   split at h
   ·rename_i ad
    cases h;rw[←Nat.eq_of_beq_eq_true ad];exact⟨e,rfl⟩
   ·cases h
  ·cases h
 | .eG _ _,_,_,h=>by cases h
 | .it _ _ _,_,_,h=>by cases h
 | .dC _ _ _ _,_,_,h=>by cases h
 | .eo _ _ _ _ _ _ _,_,_,h=>by cases h
 | .e0 _ _ _ _ _,_,_,h=>by cases h
 | .bad _,_,_,h=>by cases h
theorem Ur{dP:ao}: ∀{ps:fM},Fi dP ps=true→∀{i:Nat} {r:aV} {p:eA},iW ps i=some (r,p)→p.de dP= .aU r i
 |(j,eQ,fX)::l,h,i,r,p,ak=>by
  simp only[Fi,Bool.and_eq_true]at h;simp only[iW]at ak
  split at ak
  ·rename_i ad
   cases ak;rw[e1 h.1,Nat.eq_of_beq_eq_true ad]
  ·exact Ur h.2 ak
theorem Us{J cg:gm}{aX kx b1 cur:Nat}: ∀{l:List (b0 × ao)},tF J cg aX kx b1 cur l=true→∀{x:b0} {aT:ao},(x,aT)∈l→(x= .cj→Fh J aX kx b1 aT=true)∧(x= .ext cur→jA cg aX aT=true)
 |(y,dP)::r,h,x,aT,hm=>by
  have bb:tF J cg aX kx b1 cur r=true∧(y= .cj→Fh J aX kx b1 dP=true)∧(y= .ext cur→jA cg aX dP=true):=by
   cases y with
   |cj=>
    simp only[tF,Bool.and_eq_true]at h;exact⟨h.2,fun _=>h.1,fun e=>(by cases e)⟩
   |ext m=>
    simp only[tF,Bool.and_eq_true]at h;refine⟨h.2,fun e=>(by cases e),fun e=>?_⟩
    cases e
    have aa:=h.1
    rw[Nat.beq_refl]at aa;exact aa
   |ret=>exact⟨h,fun e=>(by cases e),fun e=>(by cases e)⟩
   |lr m=>exact⟨h,fun e=>(by cases e),fun e=>(by cases e)⟩
  rcases List.mem_cons.1 hm with q|q
  ·cases q;exact bb.2
  ·exact Us bb.1 q
theorem b2.rel{c:Code}{Q:Exit→aP→Prop}{s:aP}(h:(∃E a w,Rel E G s a w)→b2 P G c Q s):b2 P G c Q s:=fun E a w ag=>h ⟨E,a,w,ag⟩ E a w ag
theorem zgR{ps:fM}: ∀{k i:Nat},im k ps=true→k≤i→i<k+ps.length→∃r p,iW ps i=some (r,p):=by
 induction ps with
 |nil=>intro k i _ aa ae;simp at ae;omega
 |cons q l aY=>
  obtain⟨j,r,p⟩:=q;intro k i h aa ae;simp only[im,Bool.and_eq_true]at h
  have af:=Nat.eq_of_beq_eq_true h.1
  simp only[iW]
  split
  ·exact⟨r,p,rfl⟩
  ·rename_i ad
   refine aY h.2.2 ?_ (by simp only[List.length_cons]at ae;omega)
   have:j≠i:=fun e=>by rw[e,Nat.beq_refl]at ad;cases ad
   omega
theorem Ut{i:Nat}: ∀{ca:List hE} {e ay:Env} {ds:List aF},Env.at e i=Env.at ay i→Env.at (rW e ca ds) i=Env.at (rW ay ca ds) i
 |[],_,_,[],h=>h
 |[],_,_,_::_,h=>h
 |_::_,_,_,[],h=>h
 |a::l,e,ay,d::ds,h=>by
  simp only[rW];refine Ut (ca:=l) ?_
  rw[Env.ij,Env.ij,h]
theorem Na{c:Code}{f:ao→aC}(hf:jc P G N B M c f){cur:Nat}{S:ao}{I:pF}{e:Env}(ad:S.ct)(e8:S.cu e)(ai:(ya N B f cur S I).safe M e):b2 P G (.loop c) (jB G N B M (ya N B f cur S I) e S.k) (S.den G N B e):=by
 unfold ya Ug at ai⊢
 split at ai
 rotate_left
 ·exact ai.elim
 rename_i tG
 generalize Bg:f (I.H S)=t1 at ai tG⊢
 generalize Uu:f (I.E S)=t2 at tG
 simp only[Uf,Bool.and_eq_true]at tG
 obtain⟨⟨aW,dq,c8⟩,⟨gj,iO,kD⟩,⟨jI,wN,wO⟩,⟨zA,qh⟩,sP,⟨Da,Db⟩,wP⟩:=tG
 have zA:=e7 zA
 have qh:=Nat.le_of_ble_eq_true qh
 obtain⟨gV,gv⟩:=mG ai
 have gv:(aC.eo (t1.lvl+1) cur (.rS (.int .i64) I.y) (I.kx S) (cq S I.J.ps) (t1.rel (fK (t1.lvl+1))) (.cH (.ext cur) ⟨fl I.cg.l,I.cg.h,I.cg.n,I.kx S,S.g⟩)).safe M e:=gv
 refine b2.rel fun⟨Up,ac,w,dB⟩=>?_
 obtain⟨xE,z2⟩:=zgO (M:=M) (e:=e) e8 gV dB
 have Nb:I.y.rt=some (.int .i64):=by
  unfold isInt at iO
  split at iO
  ·assumption
  ·cases iO
 generalize gP:aC.eo (t1.lvl+1) cur (.rS (.int .i64) I.y) (I.kx S) (cq S I.J.ps) (t1.rel (fK (t1.lvl+1))) (.cH (.ext cur) ⟨fl I.cg.l,I.cg.h,I.cg.n,I.kx S,S.g⟩)=qR at gv
 have zgS:run M (emit S.k [] (Bc N S I.y) qR) e=run M qR e:=lV
 refine b2.mono (Q':=jB G N B M (emit S.k [] (Bc N S I.y) qR) e S.k) ?_ fun ex st h=>h
 refine b2.mono (Q:=jB G N B M qR e S.k) ?_ fun ex st h=>h.sub zgS (bX.refl _ _) (Nat.le_refl _)
 have r9:I.kx S=S.k+I.J.ps.length:=rfl
 have yc:I.H S=ao.put ⟨fl I.J.l,I.J.h,I.J.n,I.kx S+1,.rg (I.kx S) I.y::S.g⟩ (some I.b1) (.aU (.int .i64) (I.kx S)):=rfl
 have Fk:I.E S=ao.put ⟨fl I.J.l,I.J.h,I.J.n,I.kx S,S.g⟩ (some I.b1) I.y:=rfl
 generalize hU:I.kx S=kx at*
 have qP:cm ((bK.rS (.int .i64) I.y).den M e)=cm (I.y.dyn e):=by
  rw[lT Nb];rfl
 generalize sO:cm (I.y.dyn e)=Z at*
 have Nc:t1.lvl<t1.lvl+1:=Nat.lt_succ_self _
 have oe:=K7 Nc
 subst gP
 obtain⟨⟨Inv,Nd,Fl⟩,aj⟩:=gv
 rw[qP]at Fl
 have cr: ∀L,bo (fun i (v:bY (cq S I.J.ps))=>c4 M (t1.lvl+1) cur (cq S I.J.ps) (t1.rel (fK (t1.lvl+1))) (bl (ba.put e kx ⟨.int .i64,(i:Int)⟩) (cq S I.J.ps) v) v) 0 Z.toNat (b9 _ (dE e (cq S I.J.ps)))=L→
  run M (aC.eo (t1.lvl+1) cur (.rS (.int .i64) I.y) kx (cq S I.J.ps) (t1.rel (fK (t1.lvl+1))) (.cH (.ext cur) ⟨fl I.cg.l,I.cg.h,I.cg.n,kx,S.g⟩)) e=Sum.elim (fun r=>r) (fun v=>some (.ext cur,⟨fl I.cg.l,I.cg.h,I.cg.n,kx,S.g⟩,bl e (cq S I.J.ps) v)) L:=fun L fL=>by
  rw[EI,qP,fL];rfl
 generalize zgT:aC.eo (t1.lvl+1) cur (.rS (.int .i64) I.y) kx (cq S I.J.ps) (t1.rel (fK (t1.lvl+1))) (.cH (.ext cur) ⟨fl I.cg.l,I.cg.h,I.cg.n,kx,S.g⟩)=qR at cr

 have yd: ∀(i:Nat) (v:bY (cq S I.J.ps)),bX S.k e (bl (ba.put e kx ⟨.int .i64,(i:Int)⟩) (cq S I.J.ps) v):=fun i v j af=>by
  rw[yb aW (.inl af),Env.ij,if_neg (by omega)]
 have Nf: ∀(i:Nat) (v:bY (cq S I.J.ps)),Env.at (bl (ba.put e kx ⟨.int .i64,(i:Int)⟩) (cq S I.J.ps) v) kx=⟨.int .i64,(i:Int)⟩:=fun i v=>by
  rw[yb aW (.inr (by omega)),Env.ij,if_pos rfl]
 have zgU: ∀(i:Nat) (v:bY (cq S I.J.ps)),bX kx (bl (ba.put e kx ⟨.int .i64,(i:Int)⟩) (cq S I.J.ps) v) (bl e (cq S I.J.ps) v):=fun i v j af=>by
  refine Ut ?_
  rw[Env.ij,if_neg (by omega)]
 have tH: ∀(v:bY (cq S I.J.ps)),bX S.k e (bl e (cq S I.J.ps) v):=fun v j af=>yb aW (.inl af)
 have zgV:(I.H S).k=kx+1:=by rw[yc,jf]
 have zgW:(I.E S).k=kx:=by rw[Fk,jf]
 have Uv:I.y.lt kx=true:=gE (by omega) kD
 have Ng:(I.H S).ct:=by
  rw[yc];refine jd ⟨fun i x hx=>gE (Nat.le_succ kx) (tx dq (pA hx)),tk (Nat.le_succ kx) c8,?_⟩ (jS (Nat.lt_succ_self kx))
  show(b5.lt (kx+1) (.rg kx I.y)&&fk (kx+1) S.g)=true;simp only[b5.lt,gE (Nat.le_succ kx) Uv,jS (Nat.lt_succ_self kx),oa (show S.k≤kx+1 by omega) ad.g,Bool.and_self]
 have zgX:(I.E S).ct:=by
  rw[Fk];exact jd ⟨fun i x hx=>tx dq (pA hx),c8,oa (show S.k≤kx by omega) ad.g⟩ Uv
 have Uw: ∀ay,bX S.k e ay→cm (I.y.dyn ay)=Z:=fun ay h=>by rw[rQ h kD,sO]
 have Nh: ∀(i:Nat) (v:bY (cq S I.J.ps)),i<Z.toNat→(I.H S).cu (bl (ba.put e kx ⟨.int .i64,(i:Int)⟩) (cq S I.J.ps) v):=fun i v hi=>by
  rw[yc];refine je fun d hd=>?_
  rcases List.mem_cons.1 hd with rfl|hd
  ·show 0≤cm (Env.at _ kx)∧cm (Env.at _ kx)<cm (I.y.dyn _)
   rw[Nf,Uw _ (yd i v)];show 0≤(i:Int)∧(i:Int)<Z;omega
  ·exact ik (yd i v) ad.g e8 d hd
 have zgY: ∀(i:Nat) (v:bY (cq S I.J.ps)),(I.E S).cu (bl (ba.put e kx ⟨.int .i64,(i:Int)⟩) (cq S I.J.ps) v):=fun i v=>by
  rw[Fk];exact je (ik (yd i v) ad.g e8)
 have Fm: ∀dc:ao,dc=⟨fl I.cg.l,I.cg.h,I.cg.n,kx,S.g⟩→dc.ct:=fun dc h=>by
  subst h;exact⟨fun i x hx=>tx Da (pA hx),Db,oa (show S.k≤kx by omega) ad.g⟩

 have lX: ∀(v:bY (cq S I.J.ps)) (st:aP),run M qR e=some (.ext cur,⟨fl I.cg.l,I.cg.h,I.cg.n,kx,S.g⟩,bl e (cq S I.J.ps) v)→cn st ((ao.mk (fl I.cg.l) I.cg.h I.cg.n kx S.g).den G N B (bl e (cq S I.J.ps) v))→jB G N B M qR e S.k (.exit cur) st:=fun v st aa ae=>
  ⟨.ext cur,_,_,aa,rfl,ae,Fm _ rfl,ik (tH v) ad.g e8,tH v,(show S.k≤kx by omega)⟩
 refine zgM (n:=Z.toNat) (b:=fun i (v:bY (cq S I.J.ps))=>c4 M (t1.lvl+1) cur (cq S I.J.ps) (t1.rel (fK (t1.lvl+1))) (bl (ba.put e kx ⟨.int .i64,(i:Int)⟩) (cq S I.J.ps) v) v) (a0:=b9 _ (dE e (cq S I.J.ps)))
  (hd:=fun i v=>(I.H S).den G N B (bl (ba.put e kx ⟨.int .i64,(i:Int)⟩) (cq S I.J.ps) v)) (I:=Inv) ?_ Nd (fun k v o6 bW fL=>?_) (fun v bW fL=>?_)
 ·rw[M7,yc]
  exact Um (g':=S.g) aW r9 dq c8 e8 jI wN wO qh zA (bX.refl _ _) (by rw[e1 gj];rfl)
 ·obtain⟨c1,dg⟩:=Fl k v o6 bW
  have ye:=hf (I.H S) (bl (ba.put e kx ⟨.int .i64,(k:Int)⟩) (cq S I.J.ps) v) Ng (Nh k v o6) (by rw[Bg];exact(k7 oe).1 c1)
  refine b2.mono ye fun ex st ⟨x,aT,aB,aa,ae,au,aQ,bF,cG,ea⟩=>?_
  rw[Bg]at aa;rw[zgV]at cG ea;obtain⟨Ni,Nj⟩:=Us sP (oj aa)
  have po:run M (t1.rel (fK (t1.lvl+1))) (bl (ba.put e kx ⟨.int .i64,(k:Int)⟩) (cq S I.J.ps) v)=some (fK (t1.lvl+1) x,aT,aB):=by rw[wI oe,aa];rfl
  have lY:c4 M (t1.lvl+1) cur (cq S I.J.ps) (t1.rel (fK (t1.lvl+1))) (bl (ba.put e kx ⟨.int .i64,(k:Int)⟩) (cq S I.J.ps) v) v=eh (t1.lvl+1) cur (cq S I.J.ps) (fun x S e=>some (x,S,e)) (fK (t1.lvl+1) x) aT aB:=by
   unfold c4;rw[po]
  have vM:bX S.k e aB:=bX.trans (yd k v) cG (by omega)
  have out: ∀ex,A0 x ex→fK (t1.lvl+1) x=x→x.bT (t1.lvl+1)=false→x.cY cur=false→jB G N B M qR e S.k ex st:=fun ex ae hm af hx=>by
   rw[hm,ke af hx]at lY
   have:=cr _ (zef fL o6 lY)
   exact⟨x,aT,aB,this,ae,au,aQ,bF,vM,by omega⟩
  cases x with
  |lr m=>cases ex<;>exact ae.elim
  |ret=>cases ex<;>first|exact ae.elim|exact out _ ae rfl rfl rfl
  |cj=>
   cases ex with
   |normal=>
    have hx:=Ni rfl
    simp only[Fh,Bool.and_eq_true]at hx;rw[n7 (x:=fK (t1.lvl+1) .cj) (show b0.bT (t1.lvl+1) (.lr (t1.lvl+1))=true from Nat.beq_refl _)]at lY
    refine⟨_,lY,dg _ (by rw[iV,lY];rfl),au.trans ?_⟩
    simp only[yc];refine Um (g':=S.g) aW r9 dq c8 bF hx.1 wN wO qh zA vM (zgQ hx.2 bF ?_ (by omega))
    rw[cG kx (Nat.lt_succ_self kx),Nf]
   |_=>exact ae.elim
  |ext m=>
   cases ex with
   |exit vN=>
    have ae:m=vN:=ae
    subst ae
    cases hm:Nat.beq m cur with
    |false=>exact out _ rfl rfl rfl hm
    |true=>
     have:=Nat.eq_of_beq_eq_true hm
     subst this;rw[n8 (x:=fK (t1.lvl+1) (.ext m)) (show b0.bT (t1.lvl+1) (.ext m)=false from rfl) (show b0.cY m (.ext m)=true from hm)]at lY
     have mJ:=cr _ (zeg fL o6 lY)
     refine lX _ st mJ (au.trans ?_)
     rw[Bd];exact ER (J:=⟨I.cg.l,I.cg.h,I.cg.n,I.J.ps⟩) aW bF (Nj rfl) (g:=S.g) vM
   |_=>exact ae.elim
 ·cases Nk:t2.x9 cur with
  |none=>rw[Nk]at wP;cases wP
  |some dP=>
   rw[Nk]at wP;simp only[Bool.and_eq_true]at wP;obtain⟨r4,pD⟩:=wP;obtain⟨s1,bf,s2⟩:=Uq (M:=M) (e:=bl (ba.put e kx ⟨.int .i64,(Z.toNat:Int)⟩) (cq S I.J.ps) v) Nk
   have ye:=hf (I.E S) (bl (ba.put e kx ⟨.int .i64,(Z.toNat:Int)⟩) (cq S I.J.ps) v) zgX (zgY _ v) (by rw[Uu];exact s1)
   have mW:(I.E S).den G N B (bl (ba.put e kx ⟨.int .i64,(Z.toNat:Int)⟩) (cq S I.J.ps) v)=(I.H S).den G N B (bl (ba.put e kx ⟨.int .i64,(Z.toNat:Int)⟩) (cq S I.J.ps) v):=by
    rw[Fk,yc,fb,fb]
    have aa:I.y.den G (bl (ba.put e kx ⟨.int .i64,(Z.toNat:Int)⟩) (cq S I.J.ps) v)= .av (.v (.int .i64 Z)):=by
     rw[jx Nb,←lT Nb,Uw _ (yd _ v)]
    have ae:(ab.aU (.int .i64) kx).den G (bl (ba.put e kx ⟨.int .i64,(Z.toNat:Int)⟩) (cq S I.J.ps) v)= .av (.v (.int .i64 Z)):=by
     simp only[ab.den,Nf,cB,fH,j9];rw[Int.toNat_of_nonneg xE]
    rw[aa,ae];rfl
   rw[mW]at ye;refine b2.mono ye fun ex st ⟨x,aT,aB,aa,ae,au,aQ,bF,cG,ea⟩=>?_
   rw[Uu,s2]at aa;cases aa;rw[zgW]at cG
   cases ex with
   |exit m=>
    have ae:cur=m:=ae
    subst ae;refine lX v st (cr _ fL) (au.trans ?_)
    have hle:=ER (G:=G) (N:=N) (B:=B) (J:=⟨I.cg.l,I.cg.h,I.cg.n,I.J.ps⟩) aW bF r4 (g:=S.g) (bX.trans (yd _ v) cG (by omega):bX S.k e bf)
    refine hle.trans ?_
    have dp:bX kx (fR e (fun r p=>⟨r,(p.de dP).get bf r⟩) I.J.ps) (bl e (cq S I.J.ps) v):=fun i hi=>by
     rcases Nat.lt_or_ge i S.k with bH|hX
     ·rw[AT aW i bH,tH v i bH]
     ·obtain⟨r,p,ak⟩:=zgR aW hX (by omega)
      rw[Mi aW ak,Ur pD ak]
      have o0:=(Tx aW ak).2.2
      have ah:(ab.aU r i).get bf r=(Env.at bf i).aG r:=by
       cases r<;>first|(simp only[ab.get,ab.az,ab.fr,ab.dyn,cB];done)|cases o0
      rw[ah,cG i hi,←zgU Z.toNat v i hi]
      have vO:=Uk (S:=S) (e:=e) (v:=v) aW ak
      generalize Env.at (bl e (cq S I.J.ps) v) i=d at vO⊢;obtain⟨eQ,iN⟩:=d;simp only at vO;subst vO;rw[cB]
    have MR:=Fm ⟨fl I.cg.l,I.cg.h,I.cg.n,kx,S.g⟩ rfl
    have P4:=lv (G:=G) (N:=N) (B:=B) (S:=⟨fl I.cg.l,I.cg.h,I.cg.n,kx,S.g⟩) dp MR
    rw[P4];exact cn.refl _
   |_=>exact ae.elim
end
end Go.aL
namespace Go.aL
open Go
def tI(J cg:gm)(aX cur:Nat):List (b0 × ao)→Bool
 |[]=>true
 |(.cj,aT)::r=>jA (mI J (Nat.max aT.n J.n)) aX aT&&tI J cg aX cur r
 |(.ext m,aT)::r=>(match Nat.beq m cur with
  |true=>jA cg aX aT
  |false=>true)&&tI J cg aX cur r
 |_::r=>tI J cg aX cur r
def Ux(B cur:Nat)(S:ao)(J cg:gm)(t1:aC):Bool:=
 (im S.k J.ps&&(r5 (S.k+J.ps.length) J.l&&eH (S.k+J.ps.length) J.h))&&((jA (mI J (Nat.max S.n J.n)) S.k S&&(vJ J.n J.l&&og J.n J.h))&&(Nat.ble B J.n&&(tI J ⟨cg.l,cg.h,cg.n,J.ps⟩ S.k cur t1.ends&&(r5 (S.k+J.ps.length) cg.l&&eH (S.k+J.ps.length) cg.h))))
def Uy(B cur:Nat)(S:ao)(J cg:gm)(t1:aC):aC:=
 match Ux B cur S J cg t1 with
 |true=>.e0 (t1.lvl+1) cur (cq S J.ps) (t1.rel (fK (t1.lvl+1))) (.cH (.ext cur) ⟨fl cg.l,cg.h,cg.n,S.k+J.ps.length,S.g⟩)
 |false=>.bad (x7 t1.nr 61)
def Fo(B:Nat)(f:ao→aC)(cur:Nat)(S:ao)(J cg:gm):aC:=Uy B cur S J cg (f (J.S S.k S.g))
def Bh(cur:Nat):List (b0 × ao)→List ao × List ao
 |[]=>([],[])
 |(.cj,S)::r=>match Bh cur r with
  |(a,b)=>(S::a,b)
 |(.ext m,S)::r=>match Bh cur r with
  |(a,b)=>match Nat.beq m cur with
   |true=>(a,S::b)
   |false=>(a,b)
 |_::r=>Bh cur r
def Fp(S:ao):Nat→Nat→List (Nat × ab)
 |0,_=>[]
 |n+1,i=>match S.at i with
  | .top=>Fp S n (i+1)
  |x=>(i,x)::Fp S n (i+1)
def zgZ(N aX cur:Nat)(S:ao)(t:aC):gm:=
 match Bh cur t.ends with
 |(a,b)=>mI (AU N aX S (a++b)) S.n
def Uz:fM→fM→Bool
 |[],[]=>true
 |(i,r,p)::l,(j,q,u)::m=>(Nat.beq i j&&hT r q)&&(od p u&&Uz l m)
 |_,_=>false
def Bi{α:Type}:List α→Nat
 |[]=>0
 |_::r=>Nat.succ (Bi r)
def zg0(J K:gm):Bool:=Uz J.ps K.ps&&(Nat.beq (Bi J.l) (Bi K.l)&&Nat.beq (Bi J.h) (Bi K.h))
def Nl(N:Nat)(f:ao→aC)(cur:Nat)(S:ao):Nat→gm→aC→gm × aC
 |0,J,t=>(J,t)
 |n+1,J,t=>match zgZ N S.k cur S t with
  |K=>match zg0 J K with
   |true=>(K,t)
   |false=>Nl N f cur S n K (f (K.S S.k S.g))
def Nn(j:Nat):List (Nat × bK)→Option bK
 |[]=>none
 |(i,x)::r=>match Nat.beq i j with
  |true=>some x
  |false=>Nn j r
inductive No where
 |de (y:ab)
 |ex (x:bK)
 |none
def zg1(aX:Nat)(ds:List (Nat × bK))(y:ab):No:=
 match y.lt aX with
 |true=>.de y
 |false=>match y with
  | .aU (.int .i64) j=>match Nn j ds with
   |some (.f1 .n6 x)=>match x.lt aX with
    |true=>.ex (.f1 .n6 x)
    |false=>.none
   |some (.f1 (.iU c) x)=>match x.lt aX with
    |true=>.ex (.f1 (.iU c) x)
    |false=>.none
   |_=>.none
  |_=>.none
def UA(aX cur i:Nat):aC→List (Nat × bK)→No
 | .lt j x t,ds=>UA aX cur i t ((j,x)::ds)
 | .it (.aU .bool g) _ b,ds=>match Nn g ds with
  |some (.f2 (.ph .lss .i64) (.aU (.int .i64) zV) y)=>match Nat.beq zV i with
   |true=>match b.x9 cur with
    |some _=>zg1 aX ds y
    |none=>.none
   |false=>.none
  |_=>.none
 |_,_=>.none
def UB(i s:Nat):List ao→Bool
 |[]=>true
 |S::r=>Fg i s S&&UB i s r
def zg2(x:ab):Bool:=eI x (.cs (.int .i64 0))
def Fq(S:ao)(cur:Nat)(t:aC)(Fs:List ao):fM→Option (Nat × No)
 |[]=>none
 |(i,.int .i64,.slot s [])::l=>match zg2 (S.at s)&&UB i s Fs with
  |true=>match UA S.k cur i t []with
   | .none=>Fq S cur t Fs l
   |b=>some (s,b)
  |false=>Fq S cur t Fs l
 |_::l=>Fq S cur t Fs l
def UC(s:Nat):List ao→List ao
 |[]=>[]
 |S::r=>S.put (some s) .top::UC s r
def Np(N aX:Nat)(S:ao)(s:Nat)(y:ab)(a b:List ao):pF:=
 match mI (AU N aX (S.put (some s) .top) (UC s (a++b))) S.n with
 |J=>⟨J,mI J (ET S.n b),s,y⟩
def Ft(N:Nat)(f:ao→aC):Nat→ao→aC
 |0,_=>.bad 63
 |n+1,S=>iM N S (f S) (Ft N f n)
def zg3(y:ab):Option Nat:=
 match y with
 | .cs (.int .i64 (.ofNat n))=>match Nat.ble n 16 with
  |true=>some (n+1)
  |false=>none
 |_=>none
def aC.pG:aC→Bool
 | .cH _ _=>false
 | .lt _ _ t=>t.pG
 | .eG _ t=>t.pG
 | .it _ a b=>a.pG||b.pG
 | .dC _ a _ k=>a.pG||k.pG
 | .eo _ _ _ _ _ a k=>a.pG||k.pG
 | .e0 _ _ _ a k=>a.pG||k.pG
 | .bad _=>true
def UD(t:aC)(u:Unit→aC):aC:=
 match t.pG with
 |true=>u ()
 |false=>t
def UE(N B:Nat)(f:ao→aC)(cur:Nat)(S:ao):gm × aC→aC
 |(J,t)=>match Bh cur t.ends with
  |(a,b)=>match Fq S cur t a J.ps with
   |some (s,.de y)=>match zg3 y with
    |some n=>UD (ya N B f cur S (Np N S.k S s y a b)) fun _=>Ft N f n S
    |none=>ya N B f cur S (Np N S.k S s y a b)
   |some (s,.ex x)=>match hy S.k [x]with
    |true=>emit S.k [x] [] (ya N B f cur (S.e2 S.k [x]) (Np N (S.k+1) S s (.aU (.int .i64) S.k) a b))
    |false=>.bad 62
   |_=>Fo B f cur S J (mI J (ET S.n b))
def Fu(x:ab):Bool:=eI x (.cs (.slice none 0 0))
def zg4(n i:Nat)(S:ao):Option (TypeId × bL):=
 match S.at i with
 | .aO id=>match Nat.ble n id,da S.h id with
  |true,some (.rw t c _)=>some (t,c)
  |_,_=>none
 |_=>none
def UF(n i:Nat):List ao→Option (TypeId × bL)
 |[]=>none
 |S::r=>match zg4 n i S with
  |some x=>some x
  |none=>UF n i r
def Fv(S:ao)(a:List ao):Nat→Nat→List (Nat × TypeId × bL)
 |0,_=>[]
 |k+1,i=>match Fu (S.at i)with
  |true=>match UF S.n i a with
   |some (t,c)=>(i,t,c)::Fv S a k (i+1)
   |none=>Fv S a k (i+1)
  |false=>Fv S a k (i+1)
def nt(N B:Nat):List (Nat × TypeId × bL)→ao→ao
 |[],S=>S
 |(i,t,c)::r,S=>match Fu (S.at i)&&(Nat.blt i N&&Nat.ble B S.n)with
  |true=>nt N B r ⟨S.l.put i (.aO S.n),(S.n,.rw t c (.cs (.slice none 0 0)))::S.h,S.n+1,S.k,S.g⟩
  |false=>nt N B r S
def sa(N B:Nat)(f:ao→aC)(cur:Nat)(S:ao)(t:aC):aC:=
 UE N B f cur S (Nl N f cur S 6 ⟨Fp S N 0,S.h,S.n,[]⟩ t)
def aC.lZ:aC→List ao
 | .cH _ S=>[S]
 | .lt _ _ t=>t.lZ
 | .eG _ t=>t.lZ
 | .it _ a b=>a.lZ++b.lZ
 | .dC _ a _ k=>a.lZ++k.lZ
 | .eo _ _ _ _ _ a k=>a.lZ++k.lZ
 | .e0 _ _ _ a k=>a.lZ++k.lZ
 | .bad _=>[]
def zg5(n id off:Nat)(S:ao):Option (TypeId × bL):=
 match da S.h id with
 |some (.dj _ l)=>match eU .top l off with
  | .aO k=>match Nat.ble n k,da S.h k with
   |true,some (.rw t c _)=>some (t,c)
   |_,_=>none
  |_=>none
 |_=>none
def UG(n id off:Nat):List ao→Option (TypeId × bL)
 |[]=>none
 |S::r=>match zg5 n id off S with
  |some x=>some x
  |none=>UG n id off r
def Fw(S:ao)(a:List ao)(id:Nat):Nat→List ab→List (Nat × Nat × TypeId × bL)
 |_,[]=>[]
 |off,x::r=>match Fu x with
  |true=>match UG S.n id off a with
   |some (t,c)=>(id,off,t,c)::Fw S a id (off+1) r
   |none=>Fw S a id (off+1) r
  |false=>Fw S a id (off+1) r
def yf(S:ao)(a:List ao):List (Nat × bG)→List (Nat × Nat × TypeId × bL)
 |[]=>[]
 |(id,.dj _ l)::r=>Fw S a id 0 l++yf S a r
 |_::r=>yf S a r
def ki(B:Nat):List (Nat × Nat × TypeId × bL)→ao→ao
 |[],S=>S
 |(id,off,t,c)::r,S=>match da S.h id with
  |some (.dj bt l)=>match(match l[off]? with|some x=>Fu x|none=>false)&&Nat.ble B S.n with
   |true=>ki B r ⟨S.l,jv ((S.n,.rw t c (.cs (.slice none 0 0)))::S.h) id (.dj bt (l.set off (.aO S.n))),S.n+1,S.k,S.g⟩
   |false=>ki B r S
  |_=>ki B r S
def UH(N B:Nat)(f:ao→aC)(cur:Nat)(S:ao)(t:aC):aC:=
 match Fv S t.lZ N 0 with
 |[]=>match yf S t.lZ S.h with
  |[]=>sa N B f cur S t
  |q::qs=>sa N B f cur (ki B (q::qs) S) (f (ki B (q::qs) S))
 |p::r=>sa N B f cur (ki B (yf S t.lZ S.h) (nt N B (p::r) S)) (f (ki B (yf S t.lZ S.h) (nt N B (p::r) S)))
def Nq(N B:Nat)(f:ao→aC)(cur:Nat)(S:ao):aC:=UH N B f cur S (f S)
section
variable {P:Program} {G:a8} {N B:Nat} {M:List aR}
theorem UI{J cg:gm}{aX cur:Nat}: ∀{l:List (b0 × ao)},tI J cg aX cur l=true→∀{x:b0} {aT:ao},(x,aT)∈l→(x= .cj→jA (mI J (Nat.max aT.n J.n)) aX aT=true)∧(x= .ext cur→jA cg aX aT=true)
 |(y,dP)::r,h,x,aT,hm=>by
  have bb:tI J cg aX cur r=true∧(y= .cj→jA (mI J (Nat.max dP.n J.n)) aX dP=true)∧(y= .ext cur→jA cg aX dP=true):=by
   cases y with
   |cj=>
    simp only[tI,Bool.and_eq_true]at h;exact⟨h.2,fun _=>h.1,fun e=>(by cases e)⟩
   |ext m=>
    simp only[tI,Bool.and_eq_true]at h;refine⟨h.2,fun e=>(by cases e),fun e=>?_⟩
    cases e
    have aa:=h.1
    rw[Nat.beq_refl]at aa;exact aa
   |ret=>exact⟨h,fun e=>(by cases e),fun e=>(by cases e)⟩
   |lr m=>exact⟨h,fun e=>(by cases e),fun e=>(by cases e)⟩
  rcases List.mem_cons.1 hm with q|q
  ·cases q;exact bb.2
  ·exact UI bb.1 q
theorem zg6{c:Code}{R A:Type}{n:Nat}{b:A→Step R A}{a0:A}{hd:A→aP}{Q:Exit→aP→Prop}{dr:aP}{I:A→Prop}
    (aM:cn dr (hd a0))(hi:I a0)(he:kb b n a0)
    (ag: ∀a,I a→(∀r,b a= .ret r→c5 b n a0= .inl r)→(∀v,b a= .cO v→c5 b n a0= .inr v)→b2 P G c (fun e st=>match e with
      | .normal=>∃bc,b a= .br bc∧I bc∧cn st (hd bc)
      |e=>Q e st) (hd a)):b2 P G (.loop c) Q dr:=by
  refine b2.loop (ι:=Nat × A) (fun x=>hd x.2) (fun x=>(c5 b n a0=c5 b x.1 x.2∧kb b x.1 x.2)∧I x.2) (fun x=>x.1) (n,a0) aM ⟨⟨rfl,he⟩,hi⟩ ?_
  rintro⟨k,a⟩ ⟨fL,bW⟩
  refine b2.mono (ag a bW (fun r ad=>zer fL ad) (fun v ad=>zes fL ad)) fun e st ai=>?_
  cases e with
  |normal=>
    obtain⟨bc,aa,au,ae⟩:=ai;obtain⟨m,aQ,bF⟩:=zeq fL aa;exact⟨(m,bc),⟨bF,au⟩,by show m<k;omega,ae⟩
  |_=>exact ai
theorem UJ{J:gm}{aX kx:Nat}{S0 aT:ao}{e aB:Env}{k:Nat}{g g':List b5}(ak:im aX J.ps=true)(mh: ∀c∈aT.g,c.ok aB)(h:jA (mI J (Nat.max aT.n J.n)) aX aT=true)(ih:vJ J.n J.l=true)(pb:og J.n J.h=true)(gS:B≤J.n)(bR:bX aX e aB):
 cn (aT.den G N B aB) ((ao.mk (fl J.l) J.h J.n k g).den G N B (bl e (cq S0 J.ps) (b9 _ (fA aT aB (cq S0 J.ps))))):=by
 have aa:=Mj (G:=G) (N:=N) (B:=B) (J:=mI J (Nat.max aT.n J.n)) ak mh h (g:=g') bR
 refine aa.le.trans ?_
 rw[Bd]
 refine cn.low (m:=Nat.max aT.n J.n) ?_ ?_ gS
 ·exact M8 (n:=J.n) (l:=fl J.l) (fun i x hx=>M9 ih (pA hx)) N 0
 ·exact xX pb
theorem zg7{c:Code}{f:ao→aC}(hf:jc P G N B M c f){cur:Nat}{S:ao}{J cg:gm}{e:Env}(ad:S.ct)(e8:S.cu e)(ai:(Fo B f cur S J cg).safe M e):b2 P G (.loop c) (jB G N B M (Fo B f cur S J cg) e S.k) (S.den G N B e):=by
 unfold Fo Uy at ai⊢
 split at ai
 rotate_left
 ·exact ai.elim
 rename_i tG
 generalize Bg:f (J.S S.k S.g)=t1 at ai tG⊢
 simp only[Ux,Bool.and_eq_true]at tG
 obtain⟨⟨aW,dq,c8⟩,⟨jI,wN,wO⟩,qh,sP,Da,Db⟩:=tG
 have qh:=Nat.le_of_ble_eq_true qh
 have Nc:t1.lvl<t1.lvl+1:=Nat.lt_succ_self _
 have oe:=K7 Nc
 obtain⟨⟨Inv,Nd,Fl⟩,Nr,aj⟩:=ai
 generalize r9:S.k+J.ps.length=kx at*
 have hle:S.k≤kx:=by rw[←r9];exact Nat.le_add_right _ _
 have cr: ∀L,c5 (fun(v:bY (cq S J.ps))=>c4 M (t1.lvl+1) cur (cq S J.ps) (t1.rel (fK (t1.lvl+1))) (bl e (cq S J.ps) v) v) dV (b9 _ (dE e (cq S J.ps)))=L→
  run M (aC.e0 (t1.lvl+1) cur (cq S J.ps) (t1.rel (fK (t1.lvl+1))) (.cH (.ext cur) ⟨fl cg.l,cg.h,cg.n,kx,S.g⟩)) e=Sum.elim (fun r=>r) (fun v=>some (.ext cur,⟨fl cg.l,cg.h,cg.n,kx,S.g⟩,bl e (cq S J.ps) v)) L:=fun L fL=>by
  rw[EJ,fL];rfl
 have zg8:kb (fun(v:bY (cq S J.ps))=>c4 M (t1.lvl+1) cur (cq S J.ps) (t1.rel (fK (t1.lvl+1))) (bl e (cq S J.ps) v) v) dV (b9 _ (dE e (cq S J.ps))):=
  (K5 (fun _=>()) (fun v=>iV _ _ _ _ _ v) _ _).1 Nr
 generalize zgT:aC.e0 (t1.lvl+1) cur (cq S J.ps) (t1.rel (fK (t1.lvl+1))) (.cH (.ext cur) ⟨fl cg.l,cg.h,cg.n,kx,S.g⟩)=qR at cr
 have tH: ∀(v:bY (cq S J.ps)),bX S.k e (bl e (cq S J.ps) v):=fun v j af=>yb aW (.inl af)
 have Ng:(J.S S.k S.g).ct:=⟨fun i x hx=>by show x.lt (S.k+J.ps.length)=true;rw[r9];exact tx dq (pA hx),by show eH (S.k+J.ps.length) J.h=true;rw[r9];exact c8,by show fk (S.k+J.ps.length) S.g=true;rw[r9];exact oa hle ad.g⟩
 have Nh: ∀(v:bY (cq S J.ps)),(J.S S.k S.g).cu (bl e (cq S J.ps) v):=fun v=>ik (tH v) ad.g e8
 have Fm: ∀dc:ao,dc=⟨fl cg.l,cg.h,cg.n,kx,S.g⟩→dc.ct:=fun dc h=>by
  subst h;exact⟨fun i x hx=>tx Da (pA hx),Db,oa hle ad.g⟩
 refine zg6 (n:=dV) (b:=fun(v:bY (cq S J.ps))=>c4 M (t1.lvl+1) cur (cq S J.ps) (t1.rel (fK (t1.lvl+1))) (bl e (cq S J.ps) v) v) (a0:=b9 _ (dE e (cq S J.ps)))
  (hd:=fun v=>(J.S S.k S.g).den G N B (bl e (cq S J.ps) v)) (I:=Inv) ?_ Nd zg8 (fun v bW zg9 zha=>?_)
 ·rw[M7]
  exact UJ (kx:=kx) (g':=S.g) aW e8 jI wN wO qh (bX.refl _ _)
 ·obtain⟨c1,dg⟩:=Fl v bW
  have ye:=hf (J.S S.k S.g) (bl e (cq S J.ps) v) Ng (Nh v) (by rw[Bg];exact(k7 oe).1 c1)
  refine b2.mono ye fun ex st ⟨x,aT,aB,aa,ae,au,aQ,bF,cG,ea⟩=>?_
  rw[Bg]at aa
  have zhb:(J.S S.k S.g).k=kx:=r9
  rw[zhb]at cG ea;obtain⟨Ni,Nj⟩:=UI sP (oj aa)
  have po:run M (t1.rel (fK (t1.lvl+1))) (bl e (cq S J.ps) v)=some (fK (t1.lvl+1) x,aT,aB):=by rw[wI oe,aa];rfl
  have lY:c4 M (t1.lvl+1) cur (cq S J.ps) (t1.rel (fK (t1.lvl+1))) (bl e (cq S J.ps) v) v=eh (t1.lvl+1) cur (cq S J.ps) (fun x S e=>some (x,S,e)) (fK (t1.lvl+1) x) aT aB:=by
   unfold c4;rw[po]
  have vM:bX S.k e aB:=bX.trans (tH v) cG hle
  have out: ∀ex,A0 x ex→fK (t1.lvl+1) x=x→x.bT (t1.lvl+1)=false→x.cY cur=false→jB G N B M qR e S.k ex st:=fun ex ae hm af hx=>by
   rw[hm,ke af hx]at lY;exact⟨x,aT,aB,cr _ (zg9 _ lY),ae,au,aQ,bF,vM,Nat.le_trans hle ea⟩
  cases x with
  |lr m=>cases ex<;>exact ae.elim
  |ret=>cases ex<;>first|exact ae.elim|exact out _ ae rfl rfl rfl
  |cj=>
   cases ex with
   |normal=>
    rw[n7 (x:=fK (t1.lvl+1) .cj) (show b0.bT (t1.lvl+1) (.lr (t1.lvl+1))=true from Nat.beq_refl _)]at lY
    exact⟨_,lY,dg _ (by rw[iV,lY];rfl),au.trans (UJ (kx:=kx) (g':=S.g) aW bF (Ni rfl) wN wO qh vM)⟩
   |_=>exact ae.elim
  |ext m=>
   cases ex with
   |exit vN=>
    have ae:m=vN:=ae
    subst ae
    cases hm:Nat.beq m cur with
    |false=>exact out _ rfl rfl rfl hm
    |true=>
     have:=Nat.eq_of_beq_eq_true hm
     subst this;rw[n8 (x:=fK (t1.lvl+1) (.ext m)) (show b0.bT (t1.lvl+1) (.ext m)=false from rfl) (show b0.cY m (.ext m)=true from hm)]at lY
     refine⟨.ext m,_,_,cr _ (zha _ lY),rfl,au.trans ?_,Fm _ rfl,ik (tH _) ad.g e8,tH _,hle⟩
     rw[Bd];exact ER (J:=⟨cg.l,cg.h,cg.n,J.ps⟩) aW bF (Nj rfl) (g:=S.g) vM
   |_=>exact ae.elim
theorem UK{c:Code}{f:ao→aC}(hf:jc P G N B M c f){Q:Exit→aP→Prop}: ∀(n:Nat) {S:ao} {e:Env},S.ct→S.cu e→(Ft N f n S).safe M e→(∀ex st,jB G N B M (Ft N f n S) e S.k ex st→Q ex st)→xc P G c Q n (S.den G N B e)
 |0,_,_,_,_,ai,_=>ai.elim
 |n+1,S,e,ad,e8,ai,ew=>by
  obtain⟨t1,t2,t3⟩:=EV (G:=G) (B:=B) ad e8 ai;refine xc.rd n (b2.mono (hf S e ad e8 t1) fun ex st ak=>?_)
  obtain⟨x,dc,ay,aa,ae,au,aQ,bF,cG,ea⟩:=ak
  have other:x≠ .cj→Q ex st:=fun b4=>ew ex st ⟨x,dc,ay,t2 x dc ay aa b4 (TU ae),ae,au,aQ,bF,cG,ea⟩
  cases x with
  |cj=>
   cases ex with
   |normal=>
    obtain⟨dP,bf,s1,s2,ky,kz,kA,kB,kX⟩:=t3 dc ay aa aQ bF cG ea
    have:=UK hf n s2 ky kB (Q:=Q) fun ex st ak=>ew ex st (ak.sub kX kz kA)
    exact fun E a w ag=>this E a w (s1 E G a w (au E G a w ag))
   |_=>exact ae.elim
  |ret=>cases ex<;>first|exact ae.elim|exact other (by simp)
  |ext n=>cases ex<;>first|exact ae.elim|exact other (by simp)
  |lr n=>cases ex<;>exact ae.elim
theorem Ns{c:Code}{Q:Exit→aP→Prop}{e:Env}: ∀(l:List (Nat × TypeId × bL)) {S:ao},S.ct→S.cu e→(nt N B l S).ct∧(nt N B l S).cu e∧(nt N B l S).k=S.k∧(b2 P G c Q ((nt N B l S).den G N B e)→b2 P G c Q (S.den G N B e))
 |[],_,ad,hf=>⟨ad,hf,rfl,fun h=>h⟩
 |(i,t,d)::r,S,ad,hf=>by
  unfold nt
  split
  ·rename_i hc
   simp only[Bool.and_eq_true]at hc;obtain⟨aW,dq,c8⟩:=hc
   have gz:(⟨S.l.put i (.aO S.n),(S.n,.rw t d (.cs (.slice none 0 0)))::S.h,S.n+1,S.k,S.g⟩:ao).ct:=by
    refine⟨fun j x hx=>?_,?_,ad.g⟩
    ·simp only[ba.h0]at hx
     split at hx
     ·cases hx;rfl
     ·exact ad.l j x hx
    ·show(bG.lt S.k (.rw t d (.cs (.slice none 0 0)))&&eH S.k S.h)=true
     rw[ad.h];rfl
   obtain⟨aa,ae,au,aQ⟩:=Ns r gz hf;refine⟨aa,ae,au,fun h=>?_⟩
   refine b2.KG i t (bZ d) ?_ (by rw[vk,if_pos (e7 dq),e1 aW];rfl) c8
   have:=aQ h
   have hd:(⟨S.l.put i (.aO S.n),(S.n,.rw t d (.cs (.slice none 0 0)))::S.h,S.n+1,S.k,S.g⟩:ao).den G N B e={S.den G N B e with cS:=(S.den G N B e).cS.set i (.aO (S.den G N B e).next),heap:=((S.den G N B e).next,.row false t (bZ d) [])::(S.den G N B e).heap,next:=(S.den G N B e).next+1}:=by
    simp only[ao.den,Ld,cy,ab.den,bG.den,ab.az,ab.fr,cB];rfl
   rw[hd]at this;exact this
  ·exact Ns r ad hf
theorem Bj{c:Code}{Q:Exit→aP→Prop}{e:Env}: ∀(l:List (Nat × Nat × TypeId × bL)) {S:ao},S.ct→S.cu e→(ki B l S).ct∧(ki B l S).cu e∧(ki B l S).k=S.k∧(b2 P G c Q ((ki B l S).den G N B e)→b2 P G c Q (S.den G N B e))
 |[],_,ad,hf=>⟨ad,hf,rfl,fun h=>h⟩
 |(id,off,t,d)::r,S,ad,hf=>by
  unfold ki
  split
  ·rename_i bt l ah
   split
   ·rename_i hc
    simp only[Bool.and_eq_true]at hc;obtain⟨aW,c8⟩:=hc
    have aq:=vI ad.h ah
    have gz:(⟨S.l,jv ((S.n,.rw t d (.cs (.slice none 0 0)))::S.h) id (.dj bt (l.set off (.aO S.n))),S.n+1,S.k,S.g⟩:ao).ct:=by
     refine⟨ad.l,E5 (o:=.dj bt (l.set off (.aO S.n))) (MH (x:=.aO S.n) rfl aq) ?_,ad.g⟩
     show(bG.lt S.k (.rw t d (.cs (.slice none 0 0)))&&eH S.k S.h)=true;rw[ad.h];rfl
    obtain⟨aa,ae,au,aQ⟩:=Bj r gz hf;refine⟨aa,ae,au,fun h=>?_⟩
    have:=aQ h
    have bd:aE (S.den G N B e).heap id=some (.box bt (ab.bQ G e l)):=by simp only[ao.den,ei,ah,Option.map_some,bG.den]
    have aj:(ab.bQ G e l)[off]? =some (.av (.v (.slice none 0 0))):=by
     rw[e6,List.getElem?_map]
     cases hx:l[off]? with
     |none=>rw[hx]at aW;cases aW
     |some x=>
      rw[hx]at aW
      have:=e1 aW
      subst this;rfl
    refine b2.le (cn.zex (s:=S.den G N B e) id off t (bZ d) bd aj (Nat.le_of_ble_eq_true c8) rfl) ?_
    have hd:(⟨S.l,jv ((S.n,.rw t d (.cs (.slice none 0 0)))::S.h) id (.dj bt (l.set off (.aO S.n))),S.n+1,S.k,S.g⟩:ao).den G N B e={S.den G N B e with heap:=eN (((S.den G N B e).next,.row false t (bZ d) [])::(S.den G N B e).heap) id (.box bt ((ab.bQ G e l).set off (.aO (S.den G N B e).next))),next:=(S.den G N B e).next+1}:=by
     simp only[ao.den,tj,cy,bG.den,MI,ab.den,ab.az,ab.fr,cB];rfl
    rw[hd]at this;exact this
   ·exact Bj r ad hf
  ·exact Bj r ad hf
theorem Nt{c:Code}{f:ao→aC}{cur:Nat}{S:ao}{e:Env}{t:aC}(hf:jc P G N B M c f)(ad:S.ct)(e8:S.cu e)(ai:(sa N B f cur S t).safe M e):b2 P G (.loop c) (jB G N B M (sa N B f cur S t) e S.k) (S.den G N B e):=by
 unfold sa at ai⊢
 generalize Nl N f cur S 6 ⟨Fp S N 0,S.h,S.n,[]⟩ t=zhc at ai⊢
 obtain⟨J,t⟩:=zhc
 simp only[UE]at ai⊢
 split at ai
 ·split at ai
  ·unfold UD at ai⊢
   split at ai
   ·exact b2.rounds _ (UK hf _ ad e8 ai fun _ _ h=>h)
   ·exact Na hf ad e8 ai
  ·exact Na hf ad e8 ai
 ·rename_i s x _
  split at ai
  ·rename_i hx
   obtain⟨_,gv⟩:=mG ai;obtain⟨b6,a2,a3⟩:=r8 (M:=M) (G:=G) (N:=N) (B:=B) ad e8 hx
   have:=Na hf b6 a2 gv
   rw[a3]at this;exact b2.mono this fun ex st ak=>ak.sub (by rw[lV]) (jT (Nat.le_refl _)) (Nat.le_add_right _ _)
  ·exact ai.elim
 ·exact zg7 hf ad e8 ai
theorem zhd:MZ P G N B M (Nq N B):=by
 intro c f cur hf S e ad e8 ai
 unfold Nq UH at ai⊢
 generalize f S=t at ai⊢
 split at ai
 ·split at ai
  ·exact Nt hf ad e8 ai
  ·rename_i q qs _
   obtain⟨aa,ae,au,aQ⟩:=Bj (P:=P) (G:=G) (N:=N) (B:=B) (c:=.loop c) (Q:=jB G N B M (sa N B f cur (ki B (q::qs) S) (f (ki B (q::qs) S))) e S.k) (e:=e) (q::qs) ad e8;refine aQ ?_
   have:=Nt hf aa ae ai
   rw[au]at this;exact this
 ·rename_i p r _
  generalize yf S t.lZ S.h=cC at ai⊢;obtain⟨g1,g2,g3,g4⟩:=Ns (P:=P) (G:=G) (N:=N) (B:=B) (c:=.loop c) (Q:=jB G N B M (sa N B f cur (ki B cC (nt N B (p::r) S)) (f (ki B cC (nt N B (p::r) S)))) e S.k) (e:=e) (p::r) ad e8;obtain⟨aa,ae,au,aQ⟩:=Bj (P:=P) (G:=G) (N:=N) (B:=B) (c:=.loop c) (Q:=jB G N B M (sa N B f cur (ki B cC (nt N B (p::r) S)) (f (ki B cC (nt N B (p::r) S)))) e S.k) (e:=e) cC g1 g2;refine g4 (aQ ?_)
  have:=Nt hf aa ae ai
  rw[au,g3]at this;exact this
end
end Go.aL
namespace Go.aL
open Go
def Nu(ops:Array Oper)(m:List Bool)(i:Nat)(D:List Nat)(j:Nat):Bool:=
 !(m.toArray.getD j true)&&(!(Nat.beq j i)&&match ops[j]? with
  |some o=>o.after.any fun e=>Region.binds .any e&&(e.on==i||D.contains e.on)
  |none=>false)
def Fx(ops:Array Oper)(m:List Bool)(i:Nat):List Nat→List Nat→List Nat
 |[],D=>D
 |j::r,D=>match Nu ops m i D j with
  |true=>Fx ops m i r (j::D)
  |false=>Fx ops m i r D
def Fy(ops:Array Oper)(wr:List Bool)(m:List Bool)(i:Nat):Bool:=
 match Fx ops m i (List.range ops.size) []with
 |D=>!(wr.getD i false)&&(D.all (Nu ops m i D)&&(List.range ops.size).all fun j=>!(wr.getD j false)||(m.toArray.getD j true||D.contains j))
section
variable {P:Program} {ops:Array Oper} {Q:Exit→Act→World→Prop} {S:World→Prop} {wr:Nat→Bool}
theorem zhe{i:Nat}{oi:Oper}{v:Value}(hi:ops[i]? =some oi)(s6:wr i=false)(lp: ∀(j:Nat) (o:Oper) cs b,ops[j]? =some o→o.op≠ .select cs b)
 (ew: ∀c a w,Q (.panic c) (a.put oi.dst v) w→Q (.panic c) a w)(D:Nat→Prop):
 ∀(fuel:Nat) (listed:Array Bool) (a:Act) (w:World),
  (∀j e5,ops[j]? =some e5→j≠i→listed.getD j true=false→(∀e∈e5.after,Region.binds .any e=true→e.on≠i)→oi.apart ops e5=true)→
  (∀j e5,ops[j]? =some e5→wr j=true→listed.getD j true=false→D j)→
  (∀j,D j→listed.getD j true=false∧j≠i∧∃e5,ops[j]? =some e5∧∃e∈e5.after,Region.binds .any e=true∧(e.on=i∨D e.on))→
  i∈Region.ready .any ops listed→YieldsIf P ops S oi v a→S w→
  ln P ops Q S wr fuel (listed.setIfInBounds i true) (a.put oi.dst v) w→ln P ops Q S wr (fuel+1) listed a w:=by
 intro fuel
 induction fuel with
 |zero=>
  intro listed a w _ _ _ ag ax hS H;refine⟨fun h=>(by rw[h]at ag;cases ag),fun j af=>?_⟩
  by_cases gu:j=i
  ·subst gu;exact ax.wpOp hi hS (.inr ⟨s6,hS,H⟩)
  ·have:=ready_mono af gu
   rw[H.1]at this
   cases this
 |succ fuel aY=>
  intro listed a w s7 Ak mj ag ax hS H;refine⟨fun h=>(by rw[h]at ag;cases ag),fun j af=>?_⟩
  by_cases gu:j=i
  ·subst gu;exact ax.wpOp hi hS (.inr ⟨s6,hS,H⟩)
  ·have aa:=H.2 j (ready_mono af gu)
   obtain⟨qA,e5,iz,ec⟩:=mem_ready.1 af
   have un: ∀k,listed.getD k true=false→∀e∈e5.after,Region.binds .any e=true→e.on≠k:=fun k aj e he ad heq=>by
    have aa:=ec e he ad
    rw[heq]at aa
    rcases Nat.lt_or_ge k listed.size with h'|h'
    ·simp[h']at aj aa;rw[aj]at aa;cases aa
    ·simp[Array.getElem?_eq_none h']at aa
   have vb: ∀e∈e5.after,Region.binds .any e=true→e.on≠i:=un i (mem_ready.1 ag).1
   have UL: ¬D j:=fun hd=>by
    obtain⟨_,_,zj4,UM,e,he,ad,bb⟩:=mj j hd;rw[iz]at UM
    cases UM
    rcases bb with bb|bb
    ·exact vb e he ad bb
    ·exact un e.on (mj _ bb).1 e he ad rfl
   have vc:wr j=false:=by
    cases hw:wr j with
    |false=>rfl
    |true=>exact absurd (Ak j e5 iz hw qA) UL
   have aa:=wpOp_mono (K':=fun bc w'=>S w'∧ln P ops Q S wr fuel ((listed.setIfInBounds i true).setIfInBounds j true) bc w') (fun bc w' h'=>by
    rcases h' with⟨h',_⟩|⟨_,h'⟩
    ·rw[vc]at h';cases h'
    ·exact h') aa
   have ae:=wpOp_putIf iz (s7 j e5 iz gu qA vb) (fun cs b=>lp i oi cs b hi) (fun cs b=>lp j e5 cs b iz) ew ax aa
   have low: ∀k,(listed.setIfInBounds j true).getD k true=false→listed.getD k true=false:=fun k hR=>by
    by_cases qB:j=k
    ·subst qB;exact qA
    ·rw[getD_set_ne true qB]at hR;exact hR
   have xh: ∀k ok,ops[k]? =some ok→k≠i→(listed.setIfInBounds j true).getD k true=false→
    (∀e∈ok.after,Region.binds .any e=true→e.on≠i)→oi.apart ops ok=true:=fun k ok aj bx hR gf=>s7 k ok aj bx (low k hR) gf
   have zhf: ∀k,D k→(listed.setIfInBounds j true).getD k true=false∧k≠i∧∃ok,ops[k]? =some ok∧∃e∈ok.after,Region.binds .any e=true∧(e.on=i∨D e.on):=fun k aj=>by
    obtain⟨g1,g2⟩:=mj k aj;refine⟨?_,g2⟩
    have qB:j≠k:=fun bb=>UL (by rw[bb];exact aj)
    rw[getD_set_ne true qB];exact g1
   refine wpOp_mono (fun bc w' au=>.inr ⟨vc,au.2.1,aY (listed.setIfInBounds j true) bc w' xh (fun k ok aj hw hR=>Ak k ok aj hw (low k hR)) zhf (ready_mono ag (Ne.symm gu)) au.1 au.2.1 ?_⟩) ae
   rw[Array.setIfInBounds_comm _ _ gu];exact au.2.2
theorem zhg{i:Nat}{oi:Oper}{v:Value}(hi:ops[i]? =some oi)(s6:wr i=false)(lp: ∀(j:Nat) (o:Oper) cs b,ops[j]? =some o→o.op≠ .select cs b)
 (ew: ∀c a w,Q (.panic c) (a.put oi.dst v) w→Q (.panic c) a w):
 ∀(fuel:Nat) (listed:Array Bool) (a:Act) (w:World),
  (∀j e5,ops[j]? =some e5→j≠i→listed.getD j true=false→(∀e∈e5.after,Region.binds .any e=true→e.on≠i)→oi.apart ops e5=true)→
  i∈Region.ready .any ops listed→Yields P ops oi v a→S w→
  ln P ops Q S wr fuel (listed.setIfInBounds i true) (a.put oi.dst v) w→ln P ops Q S wr (fuel+1) listed a w:=by
 intro fuel
 induction fuel with
 |zero=>
  intro listed a w _ ag ax hS H;refine⟨fun h=>(by rw[h]at ag;cases ag),fun j af=>?_⟩
  by_cases gu:j=i
  ·subst gu;exact ax.yieldsIf.wpOp hi hS (.inr ⟨s6,hS,H⟩)
  ·have:=ready_mono af gu
   rw[H.1]at this
   cases this
 |succ fuel aY=>
  intro listed a w s7 ag ax hS H;refine⟨fun h=>(by rw[h]at ag;cases ag),fun j af=>?_⟩
  by_cases gu:j=i
  ·subst gu;exact ax.yieldsIf.wpOp hi hS (.inr ⟨s6,hS,H⟩)
  ·have aa:=H.2 j (ready_mono af gu)
   obtain⟨qA,e5,iz,ec⟩:=mem_ready.1 af
   have vb: ∀e∈e5.after,Region.binds .any e=true→e.on≠i:=fun e he ad heq=>by
    have aa:=ec e he ad
    have aM:=(mem_ready.1 ag).1
    rw[heq]at aa
    rcases Nat.lt_or_ge i listed.size with h'|h'
    ·simp[h']at aM aa;rw[aM]at aa;cases aa
    ·simp[Array.getElem?_eq_none h']at aa
   have ae:=wpOp_put iz (s7 j e5 iz gu qA vb) (fun cs b=>lp i oi cs b hi) (fun cs b=>lp j e5 cs b iz) ew ax aa
   have low: ∀k,(listed.setIfInBounds j true).getD k true=false→listed.getD k true=false:=fun k hR=>by
    by_cases qB:j=k
    ·subst qB;exact qA
    ·rw[getD_set_ne true qB]at hR;exact hR
   have xh: ∀k ok,ops[k]? =some ok→k≠i→(listed.setIfInBounds j true).getD k true=false→
    (∀e∈ok.after,Region.binds .any e=true→e.on≠i)→oi.apart ops ok=true:=fun k ok aj bx hR gf=>s7 k ok aj bx (low k hR) gf
   refine wpOp_mono (fun bc w' ⟨mE,au⟩=>?_) ae
   rcases au with⟨hw,au⟩|⟨hw,UN,au⟩
   ·refine .inl ⟨hw,wpAny_first hi lp ew fuel _ bc w' xh (ready_mono ag (Ne.symm gu)) mE ?_⟩
    rw[Array.setIfInBounds_comm _ _ gu];exact au
   ·refine .inr ⟨hw,UN,aY (listed.setIfInBounds j true) bc w' xh (ready_mono ag (Ne.symm gu)) mE UN ?_⟩
    rw[Array.setIfInBounds_comm _ _ gu];exact au
end
section
variable {P:Program} {G:a8} {Q:Exit→aP→Prop} {L:List Oper} {wr:List Bool}
theorem fI.zhh{fuel:Nat}{m:List Bool}{s bp:aP}(i:Nat){o:Oper}(an:L[i]? =some o)(ak:jR P G L.toArray o s bp)(k:fI P G L Q wr fuel (m.set i true) bp)(ai:Region.noSelect L.toArray=true)
 (hf:Region.free .any L.toArray m.toArray i=true)(ag:(Region.ready .any L.toArray m.toArray).contains i=true)(hw:Fy L.toArray wr m i=true):fI P G L Q wr (fuel+1) m s:=by
 intro E a w dB
 obtain⟨v,aw,rG⟩:=ak E a w dB
 unfold Fy at hw
 simp only at hw
 generalize mj:Fx L.toArray m i (List.range L.toArray.size) []=D at hw
 simp only[Bool.and_eq_true]at hw
 obtain⟨aa,ae,au⟩:=hw
 refine zhe (i:=i) (oi:=o) (v:=v) (by simpa using an) (by simpa using aa) (Region.noSelect_spec ai) (fun c a w aI=>?_) (fun j=>D.contains j=true) fuel m.toArray a w (Region.free_spec (by simpa using an) hf) (fun j e5 iz vc hR=>?_) (fun j af=>?_) (by simpa using ag) aw (gd.refl w) (by simpa using k E _ w rG)
 ·obtain⟨_,⟨h,_⟩,_⟩:=aI
  cases h
 ·have:=List.all_eq_true.1 au j (List.mem_range.2 (Array.getElem?_eq_some_iff.1 iz).1)
  rw[vc,hR]at this;simpa using this
 ·have hm:j∈D:=by simpa using af
  have:=List.all_eq_true.1 ae j hm
  unfold Nu at this;simp only[Bool.and_eq_true,Bool.not_eq_true']at this;obtain⟨g1,g2,g3⟩:=this;refine⟨g1,fun bb=>(by rw[bb,Nat.beq_refl]at g2;cases g2),?_⟩
  cases iz:L.toArray[j]? with
  |none=>rw[iz]at g3;cases g3
  |some e5=>
   rw[iz]at g3;obtain⟨e,he,ad⟩:=Array.any_eq_true'.1 g3;simp only[Bool.and_eq_true,Bool.or_eq_true,beq_iff_eq]at ad;exact⟨e5,rfl,e,he,ad⟩
theorem fI.zhi{fuel:Nat}{m:List Bool}{s bp:aP}(i:Nat){o:Oper}(an:L[i]? =some o)(ak:hr P G L.toArray o s bp)(k:fI P G L Q wr fuel (m.set i true) bp)(ai:Region.noSelect L.toArray=true)
 (hf:Region.free .any L.toArray m.toArray i=true)(ag:(Region.ready .any L.toArray m.toArray).contains i=true)(hw:wr.getD i false=false):fI P G L Q wr (fuel+1) m s:=by
 intro E a w dB
 obtain⟨v,aw,rG⟩:=ak E a w dB
 refine zhg (i:=i) (oi:=o) (v:=v) (by simpa using an) hw (Region.noSelect_spec ai) (fun c a w aI=>?_) fuel m.toArray a w (Region.free_spec (by simpa using an) hf) (by simpa using ag) aw (gd.refl w) (by simpa using k E _ w rG)
 obtain⟨_,⟨h,_⟩,_⟩:=aI
 cases h
theorem fI.any{fuel:Nat}{m:List Bool}{s:aP}(b4:Region.ready .any L.toArray m.toArray≠[])(h: ∀i∈Region.ready .any L.toArray m.toArray,∃o,L[i]? =some o∧∃A:aP→Prop,(∀t,A t→fI P G L Q wr fuel (m.set i true) t)∧
      ∀E a w,Rel E G s a w→(Region.wanted o (yielded L.toArray a.tmps)=true∧∀(K:Act→World→Prop) (Q:Exit→Act→World→Prop),(∀t,A t→∀bc w',Rel E G t bc w'→(wr.getD i false=true∨gd w w')→K bc w')→o.wp P a w K Q)∨(wr.getD i false=false∧Region.wanted o (yielded L.toArray a.tmps)=false∧∃t,A t∧Rel E G t (a.put o.dst undef) w)):fI P G L Q wr (fuel+1) m s:=by
  intro E a w ag;refine⟨fun hn=>absurd hn b4,fun j af=>?_⟩
  obtain⟨o,an,A,k,ai⟩:=h j af
  have eN:m.toArray.setIfInBounds j true=(m.set j true).toArray:=by simp
  have next: ∀t,A t→∀bc w',Rel E G t bc w'→(wr.getD j false=true∨gd w w')→(wr.getD j false=true∧wpAny P .any L.toArray (lift E G (n3 Q)) fuel (m.toArray.setIfInBounds j true) bc w')∨(wr.getD j false=false∧gd w w'∧ln P L.toArray (lift E G (n3 Q)) (gd w) (fun i=>wr.getD i false) fuel (m.toArray.setIfInBounds j true) bc w'):=fun t aH bc w' dX aj=>by
    rw[eN]
    cases hw:wr.getD j false with
    |true=>exact .inl ⟨rfl,(k t aH).cX E bc w' dX⟩
    |false=>
      rcases aj with aj|aj
      · rw[hw]at aj;cases aj
      · exact .inr ⟨rfl,aj,DU (fun dI ae=>aj.trans ae) _ _ _ _ (k t aH E bc w' dX)⟩
  unfold wpOp;rw[show L.toArray[j]? =some o from by simpa using an]
  simp only
  rcases ai E a w ag with⟨fi,au⟩|⟨hw,fi,t,aQ,au⟩
  · rw[if_pos fi]
    exact .inl (au _ _ next)
  · rw[if_neg (by rw[fi];decide)]
    exact next t aQ _ _ au (.inr (gd.refl w))
end
section
variable {P:Program} {G:a8} {N B:Nat} {M:List aR}
theorem c3.later{E:Entry}{s:aP}{a:Act}{w cK:World}{β:Nat→Value}{ro:Nat→Prop}(h:c3 E G s a w β ro)(aj:gd w cK):c3 ⟨cK,ro,s.heap,β,E.n⟩ G s a cK β ro:=by
 have bN:w.heap.size≤cK.heap.size:=by
  rcases Nat.eq_zero_or_pos w.heap.size with aM|aM
  ·omega
  ·have aa:=aj (w.heap.size-1) (by omega)
   rcases Nat.lt_or_ge (w.heap.size-1) cK.heap.size with ae|ae
   ·omega
   ·rw[Array.getElem?_eq_none ae,Array.getElem?_eq_getElem (by omega)]at aa
    cases aa
 have hw: ∀b,ro b→cK.heap[b]? =w.heap[b]? :=fun b ad=>aj b (h.heap.lt b ad)
 refine⟨h.defers,h.size,fun i x hx=>(h.slot i x hx).keep hw (fun _ h=>h) (Nat.le_refl _) (fun _ t cs ah=>⟨rfl,t,cs,ah⟩) (fun _ z t _ es ah=>⟨rfl,z,t,es,ah⟩) (fun _ bP ah=>⟨rfl,bP,ah⟩),
  ⟨fun id ie ah=>(h.heap.c6 id ie ah).keep hw (fun _ h=>h) (Nat.le_refl _) bN rfl (fun aq b ad=>aj b ((h.heap.c6 id ie ah).hL aq ad)) (fun _ t cs ah=>⟨rfl,t,cs,ah⟩) (fun _ z t _ es ah=>⟨rfl,z,t,es,ah⟩) (fun _ bP ah=>⟨rfl,bP,ah⟩),h.heap.inj,h.heap.fh,fun b ad=>Nat.lt_of_lt_of_le (h.heap.lt b ad) bN⟩,
  h.ic.keep hw fun _ h=>h,⟨rfl,rfl,rfl,Nat.le_refl _,fun _ _ _=>rfl,fun b ad=>.inl ad,fun b ad=>ad,fun b ad=>.inl ad,fun id hi o ah=>⟨by rw[ah];simp,rfl⟩,h.trans.new,h.trans.le⟩,h.base⟩
theorem UO{w:World}{ro:Nat→Prop}{σ:Heap}{β:Nat→Value}{n:Nat}{x:Value}{c:Value}(h:bs w ro σ β n (.av (.v x)) c):c=x:=by
 cases h with
 |av _ _ h=>
  cases h;rfl
theorem jR.rM{ops:Array Oper}{o:Oper}{s:aP}{x:Value}(h:cQ P G o s (.av (.v x)))(ah:dO ops s o=some true):jR P G ops o s (s.put o.dst (.av (.v x))):=by
 intro E a w ⟨β,ro,ag⟩
 have hw:=n2 (ops:=ops) ⟨β,ro,ag⟩ ah
 obtain⟨c,_,ae⟩:=h E a w β ro ag
 refine⟨x,.inl ⟨hw,fun cK aj=>?_⟩,β,ro,ag.put _ _ _ (by rw[UO ae]at ae;exact ae)⟩
 obtain⟨aW,au,aQ⟩:=h _ a cK β ro (ag.later aj)
 rw[UO aQ]at au
 exact au
def kj(P:Program)(G:a8)(ops:Array Oper)(o:Oper)(s:aP)(A:aP→Prop):Prop:=∀E a w,Rel E G s a w→
 (Region.wanted o (yielded ops a.tmps)=true∧∀(K:Act→World→Prop) (Q:Exit→Act→World→Prop),(∀t,A t→∀bc w',Rel E G t bc w'→gd w w'→K bc w')→o.wp P a w K Q)∨
 (Region.wanted o (yielded ops a.tmps)=false∧∃t,A t∧Rel E G t (a.put o.dst undef) w)
theorem kj.v{ops:Array Oper}{o:Oper}{s:aP}{v:aD}{A:aP→Prop}(h:cQ P G o s v)(ah:dO ops s o=some true)(dp:A (s.put o.dst v)):kj P G ops o s A:=fun E a w ag=>
 .inl ⟨n2 ag ah,fun K Q hK=>h.QT E a w ag K Q fun bc w' dX aj=>hK _ dp bc w' dX aj⟩
theorem kj.no{ops:Array Oper}{o:Oper}{s:aP}{A:aP→Prop}(ah:dO ops s o=some false)(dp:A (s.put o.dst (.tuple []))):kj P G ops o s A:=fun E a w ag=>
 .inr ⟨n2 ag ah,_,dp,ag.Dq o.dst⟩
theorem fI.one{L:List Oper}{Q:Exit→aP→Prop}{wr:List Bool}{fuel:Nat}{m:List Bool}{s:aP}{A:aP→Prop}{i:Nat}{o:Oper}(an:L[i]? =some o)(h:Region.ready .any L.toArray m.toArray=[i])(hw:wr.getD i false=false)
 (ai:kj P G L.toArray o s A)(k: ∀t,A t→fI P G L Q wr fuel (m.set i true) t):fI P G L Q wr (fuel+1) m s:=by
 intro E a w ag
 refine⟨fun hn=>(by rw[h]at hn;cases hn),fun j af=>?_⟩
 rw[h]at af
 rcases List.mem_cons.1 af with rfl|af
 rotate_left
 ·cases af
 have eN:m.toArray.setIfInBounds j true=(m.set j true).toArray:=by simp
 have next: ∀t,A t→∀bc w',Rel E G t bc w'→gd w w'→wr.getD j false=false∧gd w w'∧ln P L.toArray (lift E G (n3 Q)) (gd w) (fun i=>wr.getD i false) fuel (m.toArray.setIfInBounds j true) bc w':=fun t aH bc w' dX aj=>by
  rw[eN];exact⟨hw,aj,DU (fun dI ae=>aj.trans ae) _ _ _ _ (k t aH E bc w' dX)⟩
 unfold wpOp
 rw[show L.toArray[j]? =some o from by simpa using an]
 simp only
 rcases ai E a w ag with⟨fi,au⟩|⟨fi,t,aQ,au⟩
 ·rw[if_pos fi]
  exact .inl (au _ _ fun t aH bc w' dX aj=>.inr (next t aH bc w' dX aj))
 ·rw[if_neg (by rw[fi];decide)]
  exact .inr (next t aQ _ _ au (gd.refl w))
def Nv(P:Program)(G:a8)(ops:Array Oper)(o:Oper)(s:aP)(A:aP→Prop):Prop:=∀E a w,Rel E G s a w→
 Region.wanted o (yielded ops a.tmps)=true∧∀(K:Act→World→Prop) (Q:Exit→Act→World→Prop),(∀t,A t→∀bc w',Rel E G t bc w'→K bc w')→o.wp P a w K Q
theorem fI.zhj{L:List Oper}{Q:Exit→aP→Prop}{wr:List Bool}{fuel:Nat}{m:List Bool}{s:aP}{A:aP→Prop}{i:Nat}{o:Oper}(an:L[i]? =some o)(h:Region.ready .any L.toArray m.toArray=[i])(hw:wr.getD i false=true)
 (ai:Nv P G L.toArray o s A)(k: ∀t,A t→fI P G L Q wr fuel (m.set i true) t):fI P G L Q wr (fuel+1) m s:=by
 intro E a w ag
 refine⟨fun hn=>(by rw[h]at hn;cases hn),fun j af=>?_⟩
 rw[h]at af
 rcases List.mem_cons.1 af with rfl|af
 rotate_left
 ·cases af
 have eN:m.toArray.setIfInBounds j true=(m.set j true).toArray:=by simp
 have next: ∀t,A t→∀bc w',Rel E G t bc w'→wr.getD j false=true∧wpAny P .any L.toArray (lift E G (n3 Q)) fuel (m.toArray.setIfInBounds j true) bc w':=fun t aH bc w' dX=>by
  rw[eN];exact⟨hw,(k t aH).cX E bc w' dX⟩
 unfold wpOp
 rw[show L.toArray[j]? =some o from by simpa using an]
 simp only
 obtain⟨fi,au⟩:=ai E a w ag
 rw[if_pos fi]
 exact .inl (au _ _ fun t aH bc w' dX=>.inl (next t aH bc w' dX))
theorem kj.call{ops:Array Oper}{o:Oper}{s:aP}{xs:Array Operand}{f:FuncId}{p q:List aD}(vx:vw P G o s f p q xs)(gC:m5 P f=true)
 (ah:dO ops s o=some true)(o5:e4 (p++xs.toList.map (aJ G s)++q)=true){R:aD→Heap→Prop}(hc:dG P G f (p++xs.toList.map (aJ G s)++q) [] 0 R){A:aP→Prop}(fQ: ∀r bV,R r bV→fF r=true∧A (s.put o.dst r)):kj P G ops o s A:=by
 intro E a w ⟨β,ro,h⟩
 refine .inl ⟨n2 ⟨β,ro,h⟩ ah,fun K Q hK=>?_⟩
 obtain⟨c,d,aa,ae,kg,vv,cr⟩:=vx E a w β ro h
 ·unfold Oper.wp
  rw[cr w,Dt gC]
  have hp:=hc w β ro (c++xs.map a.eval++d) (by simp[aa,ae,Nat.add_assoc]) (fun i y ax=>nW (Tm (x:=.const undef) (f:=.func f) h aa ae kg vv i y ax) (m4 o5 ax))
   ⟨by simp[aE],by simp[aE],fun b _ ⟨_,_,ah,_⟩=>by simp[aE]at ah,h.heap.lt⟩ h.ic (by simp[aE])
  refine Calls.mono hp fun e w' aI=>?_
  obtain⟨v,r,bV,dM,ro',cJ,rfl,ag,dB,hP,cE⟩:=aI;obtain⟨zhk,dp⟩:=fQ r bV ag
  have lg: ∀b,¬Own ([]:Heap) β b:=fun b ⟨_,_,ah,_⟩=>by simp[aE]at ah
  have lM: ∀b,b<w.heap.size→w'.heap[b]? =w.heap[b]? :=fun b ad=>cE.frame b ad (lg b)
  have cU:=h.grow (w':=w') (ro':=ro') cE.os cE.tape cE.output cE.size lM cE.j2 (fun b ad=>by
   rcases cE.jl b ad with q|q|q
   ·exact .inl q
   ·exact absurd q (lg b)
   ·exact .inr ⟨q,hP.lt b ad⟩)
  exact hK _ dp _ _ ⟨β,ro',cU.put o.dst r v (nW dB zhk)⟩ lM
theorem b2.zhl{id:Nat}{L:List Oper}{Q:Exit→aP→Prop}{wr:List Bool}{s:aP}(n:Nat)(h:fI P G L Q wr n (List.replicate n false) s)(q9:P.follows .mixedOrders=true)(hn:Nat.beq L.length n=true):b2 P G (.region id L.toArray true) Q s:=b2.zei n h.cX q9 hn
end
end Go.aL
