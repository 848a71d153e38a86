/- TD, part V: loops that count: how they are made, their parts. Conditions: none. -/
import Derived.Test.YtmkpmgfieagphaaGreatDoorQTDu
import Derived.Test.YtmkpmgfieagphaaGreatDoorQTDb
namespace Go.aL
open Go
def az.ends:az→List (bR × ar)
 | .cr x S=>[(x,S)]
 | .lt _ _ t=>t.ends
 | .eH _ t=>t.ends
 | .it _ a b=>a.ends++b.ends
 | .dn _ a _ k=>a.ends++k.ends
 | .dY _ _ _ _ _ a k=>a.ends++k.ends
 | .eE _ _ _ a k=>a.ends++k.ends
 | .bad _=>[]
def cg(S:ar):fp→List gZ
 |[]=>[]
 |(i,r,p)::l=>⟨i,r,p.c0 S,p⟩::cg S l
def w1(kx j:Nat):List bU→Bool
 |[]=>false
 | .d2 i (.iU .add .i64 .i64) x y::r=>match Nat.beq i j&&(fx x (.bg (.int .i64) kx)&&fx y (.cs (.int .i64 1)))with
  |true=>true
  |false=>w1 kx j r
 |_::r=>w1 kx j r
def C9(kx bS:Nat)(aP:ar):Bool:=
 match aP.at bS with
 | .bg (.int .i64) j=>w1 kx j aP.g
 |_=>false
def ml(J:fT)(n:Nat):fT:=⟨J.l,J.h,n,J.ps⟩
def uR(n:Nat):List (Nat × ab)→Bool
 |[]=>true
 |(_,x)::r=>ab.ra n x&&uR n r
def Da(J:fT)(aR kx bS:Nat)(aP:ar):Bool:=iZ (ml J (Nat.max aP.n J.n)) aR aP&&C9 kx bS aP
def sE(J b3:fT)(aR kx bS cur:Nat):List (bR × ar)→Bool
 |[]=>true
 |(.b5,aP)::r=>Da J aR kx bS aP&&sE J b3 aR kx bS cur r
 |(.ext m,aP)::r=>(match Nat.beq m cur with
  |true=>iZ b3 aR aP
  |false=>true)&&sE J b3 aR kx bS cur r
 |_::r=>sE J b3 aR kx bS cur r
def Db(dO:ar):fp→Bool
 |[]=>true
 |(i,r,p)::l=>fx (p.c0 dO) (.bg r i)&&Db dO l
def az.w2(cur:Nat):az→Option ar
 | .lt _ _ t=>t.w2 cur
 | .cr (.ext m) S=>match Nat.beq m cur with
  |true=>some S
  |false=>none
 |_=>none
structure oU where
 J:fT
 b3:fT
 bS:Nat
 y:ab
def oU.kx(I:oU)(S:ar):Nat:=S.k+I.J.ps.length
def oU.H(I:oU)(S:ar):ar:=ar.put ⟨eX I.J.l,I.J.h,I.J.n,I.kx S+1,.rg (I.kx S) I.y::S.g⟩ (some I.bS) (.bg (.int .i64) (I.kx S))
def oU.E(I:oU)(S:ar):ar:=ar.put ⟨eX I.J.l,I.J.h,I.J.n,I.kx S,S.g⟩ (some I.bS) I.y
def Dc(S:ar)(x:ab):Nat→Bool
 |0=>false
 |n+1=>fx (S.at n) x||Dc S x n
def lenOf(j:Nat):List bU→Option (bN × ab)
 |[]=>none
 | .d1 i (.iA c) x::r=>match Nat.beq i j with
  |true=>some (c,x)
  |false=>lenOf j r
 |_::r=>lenOf j r
def yT(c:bN)(x:ab):Bool:=
 match x.rt with
 |some (.li d)=>decide (d=c)
 |_=>false
def zM(N:Nat)(S:ar)(y:ab):List fE:=
 match y with
 | .cs (.int .i64 n)=>match decide (0≤n∧n<9223372036854775808)with
  |true=>[]
  |false=>[.nth 9223372036854775808 y]
 | .bg (.int .i64) j=>match lenOf j S.g with
  |some (c,x)=>match Dc S x N&&yT c x with
   |true=>[]
   |false=>[.nth 9223372036854775808 y]
  |none=>[.nth 9223372036854775808 y]
 |y=>[.nth 9223372036854775808 y]
def isInt(y:ab):Bool:=
 match y.rt with
 |some (.int .i64)=>true
 |_=>false
def QG(N B cur:Nat)(S:ar)(I:oU)(t1 t2:az):Bool:=
 (hV S.k I.J.ps&&(q9 (I.kx S) I.J.l&&eF (I.kx S) I.J.h))&&((fx (S.at I.bS) (.cs (.int .i64 0))&&(isInt I.y&&I.y.lt S.k))&&
 ((iZ (ml I.J (Nat.max S.n I.J.n)) S.k S&&(uR I.J.n I.J.l&&nR I.J.n I.J.h))&&((Nat.blt I.bS N&&Nat.ble B I.J.n)&&
 (sE I.J ⟨I.b3.l,I.b3.h,I.b3.n,I.J.ps⟩ S.k (I.kx S) I.bS cur t1.ends&&((q9 (I.kx S) I.b3.l&&eF (I.kx S) I.b3.h)&&(match t2.w2 cur with
  |some dO=>iZ ⟨I.b3.l,I.b3.h,I.b3.n,I.J.ps⟩ S.k dO&&Db dO I.J.ps
  |none=>false))))))
def QH(N B cur:Nat)(S:ar)(I:oU)(t1 t2:az):az:=
 match QG N B cur S I t1 t2 with
 |true=>emit S.k [] (zM N S I.y) (.dY (t1.lvl+1) cur (.qY (.int .i64) I.y) (I.kx S) (cg S I.J.ps) (t1.rel (fm (t1.lvl+1))) (.cr (.ext cur) ⟨eX I.b3.l,I.b3.h,I.b3.n,I.kx S,S.g⟩))
 |false=>.bad (w0 t1.ni 60)
def w3(N B:Nat)(f:ar→az)(cur:Nat)(S:ar)(I:oU):az:=QH N B cur S I (f (I.H S)) (f (I.E S))
section
variable {P:Program} {G:aY} {N B:Nat} {M:List aW}
theorem nT: ∀{t:az} {x:bR} {e aw:Env} {S:ar},run M t e=some (x,S,aw)→(x,S)∈t.ends
 | .cr x S0,_,e,aw,S,h=>by
  simp only[run,az.fold]at h;cases h;simp[az.ends]
 | .lt _ _ t,_,_,_,_,h=>nT (t:=t) h
 | .eH _ t,_,_,_,_,h=>nT (t:=t) h
 | .it c a b,_,e,aw,S,h=>by
  simp only[run,az.fold]at h;simp only[az.ends,List.mem_append]
  cases hc:c.aH e .bool with
  |true=>rw[hc]at h;exact .inl (nT (t:=a) h)
  |false=>rw[hc]at h;exact .inr (nT (t:=b) h)
 | .dn n a ps k,y,e,aw,S,h=>by
  simp only[az.ends,List.mem_append]
  cases af:run M a e with
  |none=>unfold run at h;rw[sk af]at h;cases h
  |some l=>
   obtain⟨x,aP,ay⟩:=l
   cases hx:x.bG n with
   |true=>
    unfold run at h;rw[pI af hx]at h;exact .inr (nT (t:=k) h)
   |false=>
    unfold run at h;rw[nb af hx]at h;cases h;exact .inl (nT (t:=a) af)
 | .dY m xid c7 bS ca a k,y,e,aw,S,h=>by
  rw[CB]at h;simp only[az.ends,List.mem_append]
  cases ao:bV (fun i (v:bL ca)=>cM M m xid ca a (ba (a1.put e bS ⟨.int .i64,(i:Int)⟩) ca v) v) 0 (cc (c7.den M e)).toNat (bZ _ (dt e ca))with
  |inl r=>
   rw[ao]at h
   have h:r=some (y,S,aw):=h
   subst h;obtain⟨i,v,ad⟩:=I5 ao;exact .inl (nT (t:=a) (CA ad))
  |inr v=>rw[ao]at h;exact .inr (nT (t:=k) h)
 | .eE m xid ca a k,y,e,aw,S,h=>by
  rw[CC]at h;simp only[az.ends,List.mem_append]
  cases ao:b9 (fun(v:bL ca)=>cM M m xid ca a (ba e ca v) v) cu (bZ _ (dt e ca))with
  |inl r=>
   rw[ao]at h
   have h:r=some (y,S,aw):=h
   subst h;obtain⟨v,ad⟩:=I6 ao;exact .inl (nT (t:=a) (CA ad))
  |inr v=>rw[ao]at h;exact .inr (nT (t:=k) h)
 | .bad _,_,_,_,_,h=>by cases h
theorem QI(S:ar)(e:Env): ∀ca:List gZ,dj (q0 ca) (bZ (q0 ca) (fa S e ca))=fa S e ca
 |[]=>rfl
 |[a]=>by simp only[q0,fa,bZ,dj,cQ]
 |a::b::l=>by
  have:=QI S e (b::l)
  simp only[q0,fa]at this;simp only[q0,fa,bZ,dj,cQ,this]
theorem JL{S:ar}{e:Env}: ∀{ps:fp},dt e (cg S ps)=fa S e (cg S ps)
 |[]=>rfl
 |(_,_,_)::l=>by simp only[cg,dt,fa,JL (ps:=l)]
theorem zN{S0 aP:ar}{e ay:Env}{ps:fp}:ba e (cg S0 ps) (bZ _ (fa aP ay (cg S0 ps)))=fv e (fun r p=>⟨r,(p.c0 aP).get ay r⟩) ps:=by
 unfold ba
 rw[QI]
 induction ps generalizing e with
 |nil=>rfl
 |cons q l aQ=>
  obtain⟨i,r,p⟩:=q;simp only[cg,fa,q1,fv];exact aQ
theorem QJ{i:Nat}: ∀{ca:List gZ} {e:Env} {ds:List aB},(∀a∈ca,a.i≠i)→Env.at (q1 e ca ds) i=Env.at e i
 |[],_,[],_=>rfl
 |[],_,_::_,_=>rfl
 |_::_,_,[],_=>rfl
 |a::l,e,d::ds,h=>by
  simp only[q1];rw[QJ (ca:=l) fun b ad=>h b (by simp[ad]),Env.jW,if_neg (h a (by simp))]
theorem QK{S:ar}: ∀{ps:fp} {k:Nat},hV k ps=true→∀a∈cg S ps,k≤a.i∧a.i<k+ps.length
 |(j,r,p)::l,k,h,a,aK=>by
  simp only[hV,Bool.and_eq_true]at h
  have ai:=Nat.eq_of_beq_eq_true h.1
  simp only[cg]at aK
  rcases List.mem_cons.1 aK with rfl|aK
  ·simp only[List.length_cons];omega
  ·have:=QK (k:=k+1) h.2.2 a aK
   simp only[List.length_cons];omega
 |[],_,_,a,aK=>by cases aK
theorem w4{S:ar}{e:Env}{ps:fp}{k i:Nat}{v:bL (cg S ps)}(h:hV k ps=true)(hi:i<k∨k+ps.length≤i):Env.at (ba e (cg S ps) v) i=Env.at e i:=
 QJ fun a aK=>by have:=QK h a aK;omega
theorem QL{S:ar}: ∀{ps:fp} {k:Nat} {e:Env} {v:bL (cg S ps)},hV k ps=true→∀{i:Nat} {r:aU} {p:ec},iC ps i=some (r,p)→(Env.at (ba e (cg S ps) v) i).r=r
 |[],_,_,_,_,_,_,_,ak=>by cases ak
 |[(j,er,fF)],k,e,v,h,i,r,p,ak=>by
  simp only[iC]at ak
  split at ak
  ·rename_i ad
   cases ak;rw[←Nat.eq_of_beq_eq_true ad];simp only[ba,cg,q0,dj,q1];rw[Env.jW,if_pos rfl]
  ·cases ak
 |(j,er,fF)::q::l,k,e,v,h,i,r,p,ak=>by
  simp only[hV,Bool.and_eq_true]at h
  have ai:=Nat.eq_of_beq_eq_true h.1
  obtain⟨bT,lx,dA⟩:=q
  have ah:ba e (cg S ((j,er,fF)::(bT,lx,dA)::l)) v=ba (a1.put e j ⟨er,v.1⟩) (cg S ((bT,lx,dA)::l)) v.2:=rfl
  have ae:hV (k+1) ((bT,lx,dA)::l)=true:=by
   simp only[hV,Bool.and_eq_true];exact h.2.2
  simp only[iC]at ak
  split at ak
  ·rename_i ad
   cases ak
   have:=Nat.eq_of_beq_eq_true ad
   rw[ah];refine(congrArg aB.r (w4 (S:=S) (e:=a1.put e j ⟨er,v.1⟩) (ps:=(bT,lx,dA)::l) (k:=k+1) (i:=i) (v:=v.2) ae (.inl (by omega)))).trans ?_
   rw[Env.jW,if_pos this]
  ·rw[ah]
   exact QL (S:=S) (e:=a1.put e j ⟨er,v.1⟩) (ps:=(bT,lx,dA)::l) (k:=k+1) (v:=v.2) ae ak
theorem QM{f:aU→ec→aB}{i:Nat}: ∀{ps:fp} {e aw:Env},Env.at e i=Env.at aw i→Env.at (fv e f ps) i=Env.at (fv aw f ps) i
 |[],_,_,h=>h
 |(j,r,p)::l,e,aw,h=>by
  simp only[fv];refine QM (ps:=l) ?_
  rw[Env.jW,Env.jW,h]
theorem zaB{c:Code}{R A:Type}{n:Nat}{b:Nat→A→Step R A}{a0:A}{hd:Nat→A→aM}{Q:Exit→aM→Prop}{db:aM}{I:Nat→A→Prop}
    (aS:cL db (hd 0 a0))(hi:I 0 a0)
    (af: ∀k a,k<n→I k a→bV b 0 n a0=bV b k (n-k) a→bW P G c (fun e st=>match e with
      | .normal=>∃a6,b k a= .bx a6∧I (k+1) a6∧cL st (hd (k+1) a6)
      |e=>Q e st) (hd k a))
    (he: ∀a,I n a→bV b 0 n a0= .inr a→bW P G c (fun e st=>match e with
      | .normal=>False
      |e=>Q e st) (hd n a)):bW P G (.loop c) Q db:=by
  refine bW.loop (ι:=Nat × A) (fun x=>hd x.1 x.2) (fun x=>x.1≤n∧bV b 0 n a0=bV b x.1 (n-x.1) x.2∧I x.1 x.2) (fun x=>n-x.1) (0,a0) aS ⟨Nat.zero_le _,rfl,hi⟩ ?_
  rintro⟨k,a⟩ ⟨aj,fA,ch⟩
  simp only at aj fA ch⊢
  by_cases oy:k<n
  · refine bW.mono (af k a oy ch fA) fun e st ah=>?_
    cases e with
    |normal=>
      obtain⟨a6,aa,aq,ae⟩:=ah;exact⟨(k+1,a6),⟨oy,Yq fA oy aa,aq⟩,by show n-(k+1)<n-k;omega,ae⟩
    |_=>exact ah
  · have:k=n:=by omega
    subst this;refine bW.mono (he a ch (Yt fA (Nat.le_refl _))) fun e st ah=>?_
    cases e with
    |normal=>exact ah.elim
    |_=>exact ah
theorem cL.low{aN:List aD}{h:bz}{m n b:Nat}(aa:k4 n aN=true)(ae:k5 n h=true)(aq:b≤n):cL ⟨aN,h,m,b⟩ ⟨aN,h,n,b⟩:=by
 intro E G a w ⟨β,ro,af⟩
 refine⟨β,ro,af.defers,af.size,fun i x hx=>?_,⟨fun id o ag=>?_,af.heap.inj,af.heap.ft,af.heap.lt⟩,af.hT,?_,af.base⟩
 ·exact(af.slot i x hx).lower (qK aa hx)
 ·have an:=af.heap.c4 id o ag
  obtain⟨_,yt⟩:=qL ae ag
  cases an with
  |box t cs b arr ay aV ct eA=>exact .box t cs b arr ay aV ct fun j x ai=>(eA j x ai).lower (qK (yt t cs rfl) ai)
  |row t n es xs ay aV ct=>exact .row t n es xs ay aV ct
  |fQ t n es ay=>exact .fQ t n es ay
  |bY bE b o ay aV ct=>exact .bY bE b o ay aV ct
 ·have t:=af.trans
  exact⟨t.os,t.tape,t.output,t.size,t.frame,t.iM,t.jL,t.gK,t.dE,fun id o ag=>(qL ae ag).1,Nat.le_trans af.base aq⟩
theorem JM{n:Nat}{e:Env}{l:a1 ab}(h: ∀i x,l.get i=some x→ab.ra n x=true): ∀(k i:Nat),k4 n (jY G e l i k)=true
 |0,_=>rfl
 |k+1,i=>by
  simp only[jY,k4,JM h k (i+1),Bool.and_true]
  cases ag:l.get i with
  |none=>rfl
  |some x=>exact CV (h i x ag)
theorem JN{n:Nat}: ∀{l:List (Nat × ab)},uR n l=true→∀{i:Nat} {x:ab},(i,x)∈l→ab.ra n x=true
 |(_,_)::r,h,i,x,hm=>by
  simp only[uR,Bool.and_eq_true]at h
  rcases List.mem_cons.1 hm with q|q
  ·cases q;exact h.1
  ·exact JN h.2 q
theorem QN{J:fT}{aR kx bS j:Nat}{S0 aP:ar}{e ay:Env}{k:Nat}{g g':List bU}(ak:hV aR J.ps=true)(rh:kx=aR+J.ps.length)(ao:q9 kx J.l=true)(a8:eF kx J.h=true)
 (oj: ∀c∈aP.g,c.ok ay)(h:iZ (ml J (Nat.max aP.n J.n)) aR aP=true)(ix:uR J.n J.l=true)(pA:nR J.n J.h=true)(fV:B≤J.n)(Dd:bS<N)(bF:bX aR e ay)(av:(aP.at bS).den G ay= .au (.v (.int .i64 (j:Int)))):
 cL (aP.den G N B ay) ((ar.put ⟨eX J.l,J.h,J.n,k,g⟩ (some bS) (.bg (.int .i64) kx)).den G N B (ba (a1.put e kx ⟨.int .i64,(j:Int)⟩) (cg S0 J.ps) (bZ _ (fa aP ay (cg S0 J.ps))))):=by
 have aa:=I8 (G:=G) (N:=N) (B:=B) (J:=ml J (Nat.max aP.n J.n)) ak oj h (g:=g') bF
 have ae:=aa.put (i:=bS) (x:=.v (.int .i64 (j:Int))) (by rw[uw,if_pos Dd,av])
 refine ae.le.trans ?_
 rw[zN,fw]
 have zaC:Env.at (fv (a1.put e kx ⟨.int .i64,(j:Int)⟩) (fun r p=>⟨r,(p.c0 aP).get ay r⟩) J.ps) kx=⟨.int .i64,(j:Int)⟩:=by
  rw[←zN (S0:=S0),w4 ak (.inr (by omega)),Env.jW,if_pos rfl]
 have QO:(ab.bg (.int .i64) kx).den G (fv (a1.put e kx ⟨.int .i64,(j:Int)⟩) (fun r p=>⟨r,(p.c0 aP).get ay r⟩) J.ps)= .au (.v (.int .i64 (j:Int))):=by
  simp only[ab.den,zaC,cQ,fM,lH]
 rw[QO]
 have cV:bX kx (fv e (fun r p=>⟨r,(p.c0 aP).get ay r⟩) J.ps) (fv (a1.put e kx ⟨.int .i64,(j:Int)⟩) (fun r p=>⟨r,(p.c0 aP).get ay r⟩) J.ps):=fun i hi=>
  QM (by rw[Env.jW,if_neg (by omega)])
 have pT:(⟨eX J.l,J.h,J.n,kx,[]⟩:ar).cv:=⟨fun i x hx=>sx ao (oQ hx),a8,rfl⟩
 have aj:=lg (G:=G) (N:=N) (B:=B) (S:=⟨eX J.l,J.h,J.n,kx,[]⟩) cV pT
 have aq:(ar.mk (eX J.l) J.h J.n k g).den G N B (fv (a1.put e kx ⟨.int .i64,(j:Int)⟩) (fun r p=>⟨r,(p.c0 aP).get ay r⟩) J.ps)=(ar.mk (eX J.l) J.h J.n kx []).den G N B (fv e (fun r p=>⟨r,(p.c0 aP).get ay r⟩) J.ps):=aj
 rw[aq]
 refine cL.low (m:=Nat.max aP.n J.n) ?_ ?_ fV
 ·have:=JM (G:=G) (e:=fv (a1.put e kx ⟨.int .i64,(j:Int)⟩) (fun r p=>⟨r,(p.c0 aP).get ay r⟩) J.ps) (n:=J.n) (l:=(eX J.l).put bS (.bg (.int .i64) kx)) (fun i x hx=>by
   rw[a1.jV]at hx
   split at hx
   ·cases hx;rfl
   ·exact JN ix (oQ hx)) N 0
  rw[H4,QO]at this
  have vF:jY G (fv (a1.put e kx ⟨.int .i64,(j:Int)⟩) (fun r p=>⟨r,(p.c0 aP).get ay r⟩) J.ps) (eX J.l) 0 N=jY G (fv e (fun r p=>⟨r,(p.c0 aP).get ay r⟩) J.ps) (eX J.l) 0 N:=congrArg aM.cC aj
  rw[vF]at this;exact this
 ·exact wT pA
end
end Go.aL
namespace Go.aL
open Go
section
variable {P:Program} {G:aY} {N B:Nat} {M:List aW}
theorem QP{S:ar}{x:ab}: ∀{n:Nat},Dc S x n=true→∃i,i<n∧S.at i=x
 |n+1,h=>by
  simp only[Dc,Bool.or_eq_true]at h
  rcases h with h|h
  ·exact⟨n,Nat.lt_succ_self n,fN h⟩
  ·obtain⟨i,aa,ae⟩:=QP h
   exact⟨i,by omega,ae⟩
theorem zO{j:Nat}{c:bN}{x:ab}{e:Env}: ∀{l:List bU},lenOf j l=some (c,x)→(∀c∈l,c.ok e)→Env.at e j=⟨.int .i64,(List.length (x.aH e (.li c)):Int)⟩
 | .d1 i f y::r,h,hc=>by
  have af: ∀{c x},lenOf j r=some (c,x)→Env.at e j=⟨.int .i64,(List.length (x.aH e (.li c)):Int)⟩:=fun h=>zO h fun c hm=>hc c (by simp[hm])
  have aS:=hc (.d1 i f y) (by simp)
  cases f with
  |iA d=>
   simp only[lenOf]at h
   split at h
   ·rename_i ad
    cases h;rw[←Nat.eq_of_beq_eq_true ad];exact aS
   ·exact af h
  |_=>exact af h
 | .d2 _ _ _ _::r,h,hc=>zO (l:=r) h fun c hm=>hc c (by simp[hm])
 | .rg _ _::r,h,hc=>zO (l:=r) h fun c hm=>hc c (by simp[hm])
 | .dJ _ _::r,h,hc=>zO (l:=r) h fun c hm=>hc c (by simp[hm])
theorem zaD{S:ar}{y:ab}{e:Env}{QQ:Entry}{a:Act}{w:World}(hf:S.cw e)(h: ∀n∈zM N S y,n.ok M e)(af:Rel QQ G (S.den G N B e) a w):0≤cc (y.dyn e)∧cc (y.dyn e)<9223372036854775808:=by
 have key:(fE.nth 9223372036854775808 y).ok M e→0≤cc (y.dyn e)∧cc (y.dyn e)<9223372036854775808:=fun h=>h
 unfold zM at h
 split at h
 ·rename_i n
  split at h
  ·rename_i hd
   exact of_decide_eq_true hd
  ·exact key (h _ (by simp))
 ·rename_i j
  split at h
  ·rename_i c x ao
   split at h
   ·rename_i ad
    simp only[Bool.and_eq_true]at ad;obtain⟨i,hi,hx⟩:=QP ad.1
    have aa:=zO ao hf
    have zaE:x.rt=some (.li c):=by
     have:=ad.2
     unfold yT at this
     split at this
     ·rename_i d hd
      rw[hd,of_decide_eq_true this]
     ·cases this
    have ae:=gG (G:=G) (e:=e) zaE
    have uS:aI G (S.den G N B e) (.tmp i)= .au (.li c (x.aH e (.li c))):=by
     simp only[aI,List.getD_eq_getElem?_getD,uw,if_pos hi,hx,ae]
     rfl
    have:=YJ af uS
    have hd:cc ((ab.bg (.int .i64) j).dyn e)=(List.length (x.aH e (.li c)):Int):=by
     simp only[ab.dyn,aa,cQ,cc]
    rw[hd];omega
   ·exact key (h _ (by simp))
  ·exact key (h _ (by simp))
 ·exact key (h _ (by simp))
theorem zP{kx j:Nat}{e:Env}: ∀{l:List bU},w1 kx j l=true→(∀c∈l,c.ok e)→Env.at e j=⟨.int .i64,IntKind.i64.wrap (((Env.at e kx).as (.int .i64):Int)+1)⟩
 | .d2 i f x y::r,h,hc=>by
  have af:w1 kx j r=true→Env.at e j=⟨.int .i64,IntKind.i64.wrap (((Env.at e kx).as (.int .i64):Int)+1)⟩:=fun h=>zP h fun c hm=>hc c (by simp[hm])
  have aS:=hc (.d2 i f x y) (by simp)
  unfold w1 at h
  split at h
  ·cases h
  ·rename_i heq
   cases heq
   split at h
   ·rename_i ad
    simp only[Bool.and_eq_true]at ad;rw[←Nat.eq_of_beq_eq_true ad.1]
    have aS:Env.at e i=_:=aS
    rw[aS,fN ad.2.1,fN ad.2.2];simp only[b4.den,ab.aH,ab.fG,ab.dyn,cQ,aZ]
   ·exact af h
  ·rename_i heq
   cases heq;exact af h
 | .d1 _ _ _::r,h,hc=>zP (l:=r) h fun c hm=>hc c (by simp[hm])
 | .rg _ _::r,h,hc=>zP (l:=r) h fun c hm=>hc c (by simp[hm])
 | .dJ _ _::r,h,hc=>zP (l:=r) h fun c hm=>hc c (by simp[hm])
theorem zaF{kx bS:Nat}{aP:ar}{e:Env}{i:Nat}(h:C9 kx bS aP=true)(hf:aP.cw e)(aj:Env.at e kx=⟨.int .i64,(i:Int)⟩)(hi:(i:Int)<9223372036854775807):(aP.at bS).den G e= .au (.v (.int .i64 ((i+1:Nat):Int))):=by
 unfold C9 at h
 split at h
 ·rename_i j hx
  have:=zP h hf
  rw[hx];simp only[ab.den,this,cQ,aj,fM,lH];rw[XP (by omega)]
 ·cases h
theorem QR{cur:Nat}: ∀{t:az} {e:Env} {S:ar},t.w2 cur=some S→t.safe M e∧∃aw,run M t e=some (.ext cur,S,aw)
 | .lt _ _ t,e,S,h=>QR (t:=t) h
 | .cr x S0,e,S,h=>by
  refine⟨trivial,?_⟩
  unfold az.w2 at h
  split at h
  ·rename_i heq;cases heq
  ·rename_i m di heq
   cases heq
   split at h
   ·rename_i ad
    cases h;rw[←Nat.eq_of_beq_eq_true ad];exact⟨e,rfl⟩
   ·cases h
  ·cases h
 | .eH _ _,_,_,h=>by cases h
 | .it _ _ _,_,_,h=>by cases h
 | .dn _ _ _ _,_,_,h=>by cases h
 | .dY _ _ _ _ _ _ _,_,_,h=>by cases h
 | .eE _ _ _ _ _,_,_,h=>by cases h
 | .bad _,_,_,h=>by cases h
theorem QS{dO:ar}: ∀{ps:fp},Db dO ps=true→∀{i:Nat} {r:aU} {p:ec},iC ps i=some (r,p)→p.c0 dO= .bg r i
 |(j,er,fF)::l,h,i,r,p,ak=>by
  simp only[Db,Bool.and_eq_true]at h;simp only[iC]at ak
  split at ak
  ·rename_i ad
   cases ak;rw[fN h.1,Nat.eq_of_beq_eq_true ad]
  ·exact QS h.2 ak
theorem QT{J b3:fT}{aR kx bS cur:Nat}: ∀{l:List (bR × ar)},sE J b3 aR kx bS cur l=true→∀{x:bR} {aP:ar},(x,aP)∈l→(x= .b5→Da J aR kx bS aP=true)∧(x= .ext cur→iZ b3 aR aP=true)
 |(y,dO)::r,h,x,aP,hm=>by
  have a8:sE J b3 aR kx bS cur r=true∧(y= .b5→Da J aR kx bS dO=true)∧(y= .ext cur→iZ b3 aR dO=true):=by
   cases y with
   |b5=>
    simp only[sE,Bool.and_eq_true]at h;exact⟨h.2,fun _=>h.1,fun e=>(by cases e)⟩
   |ext m=>
    simp only[sE,Bool.and_eq_true]at h;refine⟨h.2,fun e=>(by cases e),fun e=>?_⟩
    cases e
    have aa:=h.1
    rw[Nat.beq_refl]at aa;exact aa
   |ret=>exact⟨h,fun e=>(by cases e),fun e=>(by cases e)⟩
   |ld m=>exact⟨h,fun e=>(by cases e),fun e=>(by cases e)⟩
  rcases List.mem_cons.1 hm with q|q
  ·cases q;exact a8.2
  ·exact QT a8.1 q
theorem bW.rel{c:Code}{Q:Exit→aM→Prop}{s:aM}(h:(∃E a w,Rel E G s a w)→bW P G c Q s):bW P G c Q s:=fun E a w af=>h ⟨E,a,w,af⟩ E a w af
theorem zaG{ps:fp}: ∀{k i:Nat},hV k ps=true→k≤i→i<k+ps.length→∃r p,iC ps i=some (r,p):=by
 induction ps with
 |nil=>intro k i _ aa ae;simp at ae;omega
 |cons q l aQ=>
  obtain⟨j,r,p⟩:=q;intro k i h aa ae;simp only[hV,Bool.and_eq_true]at h
  have ai:=Nat.eq_of_beq_eq_true h.1
  simp only[iC]
  split
  ·exact⟨r,p,rfl⟩
  ·rename_i ad
   refine aQ h.2.2 ?_ (by simp only[List.length_cons]at ae;omega)
   have:j≠i:=fun e=>by rw[e,Nat.beq_refl]at ad;cases ad
   omega
theorem QU{i:Nat}: ∀{ca:List gZ} {e aw:Env} {ds:List aB},Env.at e i=Env.at aw i→Env.at (q1 e ca ds) i=Env.at (q1 aw ca ds) i
 |[],_,_,[],h=>h
 |[],_,_,_::_,h=>h
 |_::_,_,_,[],h=>h
 |a::l,e,aw,d::ds,h=>by
  simp only[q1];refine QU (ca:=l) ?_
  rw[Env.jW,Env.jW,h]
theorem JO{c:Code}{f:ar→az}(hf:kI P G N B M c f){cur:Nat}{S:ar}{I:oU}{e:Env}(ad:S.cv)(eO:S.cw e)(ah:(w3 N B f cur S I).safe M e):bW P G (.loop c) (jb G N B M (w3 N B f cur S I) e S.k) (S.den G N B e):=by
 unfold w3 QH at ah⊢
 split at ah
 rotate_left
 ·exact ah.elim
 rename_i sF
 generalize zQ:f (I.H S)=t1 at ah sF⊢
 generalize QV:f (I.E S)=t2 at sF
 simp only[QG,Bool.and_eq_true]at sF
 obtain⟨⟨aA,et,gQ⟩,⟨lj,rf,pU⟩,⟨nS,zR,zS⟩,⟨De,ri⟩,JP,⟨JQ,JR⟩,zT⟩:=sF
 have De:=eT De
 have ri:=Nat.le_of_ble_eq_true ri
 obtain⟨gj,fy⟩:=mj ah
 have fy:(az.dY (t1.lvl+1) cur (.qY (.int .i64) I.y) (I.kx S) (cg S I.J.ps) (t1.rel (fm (t1.lvl+1))) (.cr (.ext cur) ⟨eX I.b3.l,I.b3.h,I.b3.n,I.kx S,S.g⟩)).safe M e:=fy
 refine bW.rel fun⟨QQ,ac,w,dk⟩=>?_
 obtain⟨zaH,z2⟩:=zaD (M:=M) (e:=e) eO gj dk
 have JS:I.y.rt=some (.int .i64):=by
  unfold isInt at rf
  split at rf
  ·assumption
  ·cases rf
 generalize gS:az.dY (t1.lvl+1) cur (.qY (.int .i64) I.y) (I.kx S) (cg S I.J.ps) (t1.rel (fm (t1.lvl+1))) (.cr (.ext cur) ⟨eX I.b3.l,I.b3.h,I.b3.n,I.kx S,S.g⟩)=pW at fy
 have zaI:run M (emit S.k [] (zM N S I.y) pW) e=run M pW e:=lN
 refine bW.mono (Q':=jb G N B M (emit S.k [] (zM N S I.y) pW) e S.k) ?_ fun ex st h=>h
 refine bW.mono (Q:=jb G N B M pW e S.k) ?_ fun ex st h=>h.sub zaI (bX.refl _ _) (Nat.le_refl _)
 have rh:I.kx S=S.k+I.J.ps.length:=rfl
 have w5:I.H S=ar.put ⟨eX I.J.l,I.J.h,I.J.n,I.kx S+1,.rg (I.kx S) I.y::S.g⟩ (some I.bS) (.bg (.int .i64) (I.kx S)):=rfl
 have Df:I.E S=ar.put ⟨eX I.J.l,I.J.h,I.J.n,I.kx S,S.g⟩ (some I.bS) I.y:=rfl
 generalize iW:I.kx S=kx at*
 have pT:cc ((bQ.qY (.int .i64) I.y).den M e)=cc (I.y.dyn e):=by
  rw[mh JS];rfl
 generalize Dg:cc (I.y.dyn e)=Z at*
 have JT:t1.lvl<t1.lvl+1:=Nat.lt_succ_self _
 have kS:=HW JT
 subst gS
 obtain⟨⟨Inv,JU,Dh⟩,aj⟩:=fy
 rw[pT]at Dh
 have cS: ∀L,bV (fun i (v:bL (cg S I.J.ps))=>cM M (t1.lvl+1) cur (cg S I.J.ps) (t1.rel (fm (t1.lvl+1))) (ba (a1.put e kx ⟨.int .i64,(i:Int)⟩) (cg S I.J.ps) v) v) 0 Z.toNat (bZ _ (dt e (cg S I.J.ps)))=L→
  run M (az.dY (t1.lvl+1) cur (.qY (.int .i64) I.y) kx (cg S I.J.ps) (t1.rel (fm (t1.lvl+1))) (.cr (.ext cur) ⟨eX I.b3.l,I.b3.h,I.b3.n,kx,S.g⟩)) e=Sum.elim (fun r=>r) (fun v=>some (.ext cur,⟨eX I.b3.l,I.b3.h,I.b3.n,kx,S.g⟩,ba e (cg S I.J.ps) v)) L:=fun L fA=>by
  rw[CB,pT,fA];rfl
 generalize zaJ:az.dY (t1.lvl+1) cur (.qY (.int .i64) I.y) kx (cg S I.J.ps) (t1.rel (fm (t1.lvl+1))) (.cr (.ext cur) ⟨eX I.b3.l,I.b3.h,I.b3.n,kx,S.g⟩)=pW at cS

 have w6: ∀(i:Nat) (v:bL (cg S I.J.ps)),bX S.k e (ba (a1.put e kx ⟨.int .i64,(i:Int)⟩) (cg S I.J.ps) v):=fun i v j ai=>by
  rw[w4 aA (.inl ai),Env.jW,if_neg (by omega)]
 have JV: ∀(i:Nat) (v:bL (cg S I.J.ps)),Env.at (ba (a1.put e kx ⟨.int .i64,(i:Int)⟩) (cg S I.J.ps) v) kx=⟨.int .i64,(i:Int)⟩:=fun i v=>by
  rw[w4 aA (.inr (by omega)),Env.jW,if_pos rfl]
 have zaK: ∀(i:Nat) (v:bL (cg S I.J.ps)),bX kx (ba (a1.put e kx ⟨.int .i64,(i:Int)⟩) (cg S I.J.ps) v) (ba e (cg S I.J.ps) v):=fun i v j ai=>by
  refine QU ?_
  rw[Env.jW,if_neg (by omega)]
 have sG: ∀(v:bL (cg S I.J.ps)),bX S.k e (ba e (cg S I.J.ps) v):=fun v j ai=>w4 aA (.inl ai)
 have zaL:(I.H S).k=kx+1:=by rw[w5,j6]
 have zaM:(I.E S).k=kx:=by rw[Df,j6]
 have QW:I.y.lt kx=true:=gh (by omega) pU
 have JW:(I.H S).cv:=by
  rw[w5];refine j4 ⟨fun i x hx=>gh (Nat.le_succ kx) (sx et (oQ hx)),uy (Nat.le_succ kx) gQ,?_⟩ (jG (Nat.lt_succ_self kx))
  show(bU.lt (kx+1) (.rg kx I.y)&&eW (kx+1) S.g)=true;simp only[bU.lt,gh (Nat.le_succ kx) QW,jG (Nat.lt_succ_self kx),oJ (show S.k≤kx+1 by omega) ad.g,Bool.and_self]
 have zaN:(I.E S).cv:=by
  rw[Df];exact j4 ⟨fun i x hx=>sx et (oQ hx),gQ,oJ (show S.k≤kx by omega) ad.g⟩ QW
 have QX: ∀aw,bX S.k e aw→cc (I.y.dyn aw)=Z:=fun aw h=>by rw[sf h pU,Dg]
 have JX: ∀(i:Nat) (v:bL (cg S I.J.ps)),i<Z.toNat→(I.H S).cw (ba (a1.put e kx ⟨.int .i64,(i:Int)⟩) (cg S I.J.ps) v):=fun i v hi=>by
  rw[w5];refine j5 fun d hd=>?_
  rcases List.mem_cons.1 hd with rfl|hd
  ·show 0≤cc (Env.at _ kx)∧cc (Env.at _ kx)<cc (I.y.dyn _)
   rw[JV,QX _ (w6 i v)];show 0≤(i:Int)∧(i:Int)<Z;omega
  ·exact ie (w6 i v) ad.g eO d hd
 have zaO: ∀(i:Nat) (v:bL (cg S I.J.ps)),(I.E S).cw (ba (a1.put e kx ⟨.int .i64,(i:Int)⟩) (cg S I.J.ps) v):=fun i v=>by
  rw[Df];exact j5 (ie (w6 i v) ad.g eO)
 have Di: ∀di:ar,di=⟨eX I.b3.l,I.b3.h,I.b3.n,kx,S.g⟩→di.cv:=fun di h=>by
  subst h;exact⟨fun i x hx=>sx JQ (oQ hx),JR,oJ (show S.k≤kx by omega) ad.g⟩

 have pX: ∀(v:bL (cg S I.J.ps)) (st:aM),run M pW e=some (.ext cur,⟨eX I.b3.l,I.b3.h,I.b3.n,kx,S.g⟩,ba e (cg S I.J.ps) v)→cL st ((ar.mk (eX I.b3.l) I.b3.h I.b3.n kx S.g).den G N B (ba e (cg S I.J.ps) v))→jb G N B M pW e S.k (.exit cur) st:=fun v st aa ae=>
  ⟨.ext cur,_,_,aa,rfl,ae,Di _ rfl,ie (sG v) ad.g eO,sG v,(show S.k≤kx by omega)⟩
 refine zaB (n:=Z.toNat) (b:=fun i (v:bL (cg S I.J.ps))=>cM M (t1.lvl+1) cur (cg S I.J.ps) (t1.rel (fm (t1.lvl+1))) (ba (a1.put e kx ⟨.int .i64,(i:Int)⟩) (cg S I.J.ps) v) v) (a0:=bZ _ (dt e (cg S I.J.ps)))
  (hd:=fun i v=>(I.H S).den G N B (ba (a1.put e kx ⟨.int .i64,(i:Int)⟩) (cg S I.J.ps) v)) (I:=Inv) ?_ JU (fun k v oy ch fA=>?_) (fun v ch fA=>?_)
 ·rw[JL,w5]
  exact QN (g':=S.g) aA rh et gQ eO nS zR zS ri De (bX.refl _ _) (by rw[fN lj];rfl)
 ·obtain⟨dh,dv⟩:=Dh k v oy ch
  have w7:=hf (I.H S) (ba (a1.put e kx ⟨.int .i64,(k:Int)⟩) (cg S I.J.ps) v) JW (JX k v oy) (by rw[zQ];exact(lK kS).1 dh)
  refine bW.mono w7 fun ex st ⟨x,aP,ay,aa,ae,aq,aT,bD,cA,dx⟩=>?_
  rw[zQ]at aa;rw[zaL]at cA dx;obtain⟨m1,m2⟩:=QT JP (nT aa)
  have oI:run M (t1.rel (fm (t1.lvl+1))) (ba (a1.put e kx ⟨.int .i64,(k:Int)⟩) (cg S I.J.ps) v)=some (fm (t1.lvl+1) x,aP,ay):=by rw[yZ kS,aa];rfl
  have lQ:cM M (t1.lvl+1) cur (cg S I.J.ps) (t1.rel (fm (t1.lvl+1))) (ba (a1.put e kx ⟨.int .i64,(k:Int)⟩) (cg S I.J.ps) v) v=dU (t1.lvl+1) cur (cg S I.J.ps) (fun x S e=>some (x,S,e)) (fm (t1.lvl+1) x) aP ay:=by
   unfold cM;rw[oI]
  have uT:bX S.k e ay:=bX.trans (w6 k v) cA (by omega)
  have out: ∀ex,zv x ex→fm (t1.lvl+1) x=x→x.bG (t1.lvl+1)=false→x.cF cur=false→jb G N B M pW e S.k ex st:=fun ex ae hm ai hx=>by
   rw[hm,jZ ai hx]at lQ
   have:=cS _ (Yr fA oy lQ)
   exact⟨x,aP,ay,this,ae,aq,aT,bD,uT,by omega⟩
  cases x with
  |ld m=>cases ex<;>exact ae.elim
  |ret=>cases ex<;>first|exact ae.elim|exact out _ ae rfl rfl rfl
  |b5=>
   cases ex with
   |normal=>
    have hx:=m1 rfl
    simp only[Da,Bool.and_eq_true]at hx;rw[nO (x:=fm (t1.lvl+1) .b5) (show bR.bG (t1.lvl+1) (.ld (t1.lvl+1))=true from Nat.beq_refl _)]at lQ
    refine⟨_,lQ,dv _ (by rw[iB,lQ];rfl),aq.trans ?_⟩
    simp only[w5];refine QN (g':=S.g) aA rh et gQ bD hx.1 zR zS ri De uT (zaF hx.2 bD ?_ (by omega))
    rw[cA kx (Nat.lt_succ_self kx),JV]
   |_=>exact ae.elim
  |ext m=>
   cases ex with
   |exit JY=>
    have ae:m=JY:=ae
    subst ae
    cases hm:Nat.beq m cur with
    |false=>exact out _ rfl rfl rfl hm
    |true=>
     have:=Nat.eq_of_beq_eq_true hm
     subst this;rw[nP (x:=fm (t1.lvl+1) (.ext m)) (show bR.bG (t1.lvl+1) (.ext m)=false from rfl) (show bR.cF m (.ext m)=true from hm)]at lQ
     have tJ:=cS _ (Ys fA oy lQ)
     refine pX _ st tJ (aq.trans ?_)
     rw[zN];exact CK (J:=⟨I.b3.l,I.b3.h,I.b3.n,I.J.ps⟩) aA bD (m2 rfl) (g:=S.g) uT
   |_=>exact ae.elim
 ·cases JZ:t2.w2 cur with
  |none=>rw[JZ]at zT;cases zT
  |some dO=>
   rw[JZ]at zT;simp only[Bool.and_eq_true]at zT;obtain⟨cN,dA⟩:=zT;obtain⟨s1,aV,s2⟩:=QR (M:=M) (e:=ba (a1.put e kx ⟨.int .i64,(Z.toNat:Int)⟩) (cg S I.J.ps) v) JZ
   have w7:=hf (I.E S) (ba (a1.put e kx ⟨.int .i64,(Z.toNat:Int)⟩) (cg S I.J.ps) v) zaN (zaO _ v) (by rw[QV];exact s1)
   have oT:(I.E S).den G N B (ba (a1.put e kx ⟨.int .i64,(Z.toNat:Int)⟩) (cg S I.J.ps) v)=(I.H S).den G N B (ba (a1.put e kx ⟨.int .i64,(Z.toNat:Int)⟩) (cg S I.J.ps) v):=by
    rw[Df,w5,fw,fw]
    have aa:I.y.den G (ba (a1.put e kx ⟨.int .i64,(Z.toNat:Int)⟩) (cg S I.J.ps) v)= .au (.v (.int .i64 Z)):=by
     rw[jv JS,←mh JS,QX _ (w6 _ v)]
    have ae:(ab.bg (.int .i64) kx).den G (ba (a1.put e kx ⟨.int .i64,(Z.toNat:Int)⟩) (cg S I.J.ps) v)= .au (.v (.int .i64 Z)):=by
     simp only[ab.den,JV,cQ,fM,lH];rw[Int.toNat_of_nonneg zaH]
    rw[aa,ae];rfl
   rw[oT]at w7;refine bW.mono w7 fun ex st ⟨x,aP,ay,aa,ae,aq,aT,bD,cA,dx⟩=>?_
   rw[QV,s2]at aa;cases aa;rw[zaM]at cA
   cases ex with
   |exit m=>
    have ae:cur=m:=ae
    subst ae;refine pX v st (cS _ fA) (aq.trans ?_)
    have hle:=CK (G:=G) (N:=N) (B:=B) (J:=⟨I.b3.l,I.b3.h,I.b3.n,I.J.ps⟩) aA bD cN (g:=S.g) (bX.trans (w6 _ v) cA (by omega):bX S.k e aV)
    refine hle.trans ?_
    have cV:bX kx (fv e (fun r p=>⟨r,(p.c0 dO).get aV r⟩) I.J.ps) (ba e (cg S I.J.ps) v):=fun i hi=>by
     rcases Nat.lt_or_ge i S.k with bA|hW
     ·rw[zo aA i bA,sG v i bA]
     ·obtain⟨r,p,ak⟩:=zaG aA hW (by omega)
      rw[I7 aA ak,QS dA ak]
      have qD:=(PZ aA ak).2.2
      have ag:(ab.bg r i).get aV r=(Env.at aV i).as r:=by
       cases r<;>first|(simp only[ab.get,ab.aH,ab.fG,ab.dyn,cQ];done)|cases qD
      rw[ag,cA i hi,←zaK Z.toNat v i hi]
      have uU:=QL (S:=S) (e:=e) (v:=v) aA ak
      generalize Env.at (ba e (cg S I.J.ps) v) i=d at uU⊢;obtain⟨er,k8⟩:=d;simp only at uU;subst uU;rw[cQ]
    have Jw:=Di ⟨eX I.b3.l,I.b3.h,I.b3.n,kx,S.g⟩ rfl
    have zaP:=lg (G:=G) (N:=N) (B:=B) (S:=⟨eX I.b3.l,I.b3.h,I.b3.n,kx,S.g⟩) cV Jw
    rw[zaP];exact cL.refl _
   |_=>exact ae.elim
end
end Go.aL
namespace Go.aL
open Go
def sH(J b3:fT)(aR cur:Nat):List (bR × ar)→Bool
 |[]=>true
 |(.b5,aP)::r=>iZ (ml J (Nat.max aP.n J.n)) aR aP&&sH J b3 aR cur r
 |(.ext m,aP)::r=>(match Nat.beq m cur with
  |true=>iZ b3 aR aP
  |false=>true)&&sH J b3 aR cur r
 |_::r=>sH J b3 aR cur r
def QY(B cur:Nat)(S:ar)(J b3:fT)(t1:az):Bool:=
 (hV S.k J.ps&&(q9 (S.k+J.ps.length) J.l&&eF (S.k+J.ps.length) J.h))&&((iZ (ml J (Nat.max S.n J.n)) S.k S&&(uR J.n J.l&&nR J.n J.h))&&(Nat.ble B J.n&&(sH J ⟨b3.l,b3.h,b3.n,J.ps⟩ S.k cur t1.ends&&(q9 (S.k+J.ps.length) b3.l&&eF (S.k+J.ps.length) b3.h))))
def QZ(B cur:Nat)(S:ar)(J b3:fT)(t1:az):az:=
 match QY B cur S J b3 t1 with
 |true=>.eE (t1.lvl+1) cur (cg S J.ps) (t1.rel (fm (t1.lvl+1))) (.cr (.ext cur) ⟨eX b3.l,b3.h,b3.n,S.k+J.ps.length,S.g⟩)
 |false=>.bad (w0 t1.ni 61)
def Dj(B:Nat)(f:ar→az)(cur:Nat)(S:ar)(J b3:fT):az:=QZ B cur S J b3 (f (J.S S.k S.g))
def zU(cur:Nat):List (bR × ar)→List ar × List ar
 |[]=>([],[])
 |(.b5,S)::r=>match zU cur r with
  |(a,b)=>(S::a,b)
 |(.ext m,S)::r=>match zU cur r with
  |(a,b)=>match Nat.beq m cur with
   |true=>(a,S::b)
   |false=>(a,b)
 |_::r=>zU cur r
def Dk(S:ar):Nat→Nat→List (Nat × ab)
 |0,_=>[]
 |n+1,i=>match S.at i with
  | .top=>Dk S n (i+1)
  |x=>(i,x)::Dk S n (i+1)
def zaQ(N aR cur:Nat)(S:ar)(t:az):fT:=
 match zU cur t.ends with
 |(a,b)=>ml (zp N aR S (a++b)) S.n
def Q0:fp→fp→Bool
 |[],[]=>true
 |(i,r,p)::l,(j,q,u)::m=>(Nat.beq i j&&jr r q)&&(nQ p u&&Q0 l m)
 |_,_=>false
def zV{α:Type}:List α→Nat
 |[]=>0
 |_::r=>Nat.succ (zV r)
def zaR(J K:fT):Bool:=Q0 J.ps K.ps&&(Nat.beq (zV J.l) (zV K.l)&&Nat.beq (zV J.h) (zV K.h))
def J0(N:Nat)(f:ar→az)(cur:Nat)(S:ar):Nat→fT→az→fT × az
 |0,J,t=>(J,t)
 |n+1,J,t=>match zaQ N S.k cur S t with
  |K=>match zaR J K with
   |true=>(K,t)
   |false=>J0 N f cur S n K (f (K.S S.k S.g))
def J1(j:Nat):List (Nat × bQ)→Option bQ
 |[]=>none
 |(i,x)::r=>match Nat.beq i j with
  |true=>some x
  |false=>J1 j r
inductive J2 where
 |c0 (y:ab)
 |ex (x:bQ)
 |none
def zaS(aR:Nat)(ds:List (Nat × bQ))(y:ab):J2:=
 match y.lt aR with
 |true=>.c0 y
 |false=>match y with
  | .bg (.int .i64) j=>match J1 j ds with
   |some (.f1 .nL x)=>match x.lt aR with
    |true=>.ex (.f1 .nL x)
    |false=>.none
   |some (.f1 (.iA c) x)=>match x.lt aR with
    |true=>.ex (.f1 (.iA c) x)
    |false=>.none
   |_=>.none
  |_=>.none
def Q1(aR cur i:Nat):az→List (Nat × bQ)→J2
 | .lt j x t,ds=>Q1 aR cur i t ((j,x)::ds)
 | .it (.bg .bool g) _ b,ds=>match J1 g ds with
  |some (.f2 (.oE .lss .i64) (.bg (.int .i64) yv) y)=>match Nat.beq yv i with
   |true=>match b.w2 cur with
    |some _=>zaS aR ds y
    |none=>.none
   |false=>.none
  |_=>.none
 |_,_=>.none
def Q2(i s:Nat):List ar→Bool
 |[]=>true
 |S::r=>C9 i s S&&Q2 i s r
def zaT(x:ab):Bool:=fx x (.cs (.int .i64 0))
def Dl(S:ar)(cur:Nat)(t:az)(tA:List ar):fp→Option (Nat × J2)
 |[]=>none
 |(i,.int .i64,.slot s [])::l=>match zaT (S.at s)&&Q2 i s tA with
  |true=>match Q1 S.k cur i t []with
   | .none=>Dl S cur t tA l
   |b=>some (s,b)
  |false=>Dl S cur t tA l
 |_::l=>Dl S cur t tA l
def Q3(s:Nat):List ar→List ar
 |[]=>[]
 |S::r=>S.put (some s) .top::Q3 s r
def J3(N aR:Nat)(S:ar)(s:Nat)(y:ab)(a b:List ar):oU:=
 match ml (zp N aR (S.put (some s) .top) (Q3 s (a++b))) S.n with
 |J=>⟨J,ml J (CM S.n b),s,y⟩
def Dm(N:Nat)(f:ar→az):Nat→ar→az
 |0,_=>.bad 63
 |n+1,S=>kG N S (f S) (Dm N f n)
def zaU(y:ab):Option Nat:=
 match y with
 | .cs (.int .i64 (.ofNat n))=>match Nat.ble n 16 with
  |true=>some (n+1)
  |false=>none
 |_=>none
def az.oV:az→Bool
 | .cr _ _=>false
 | .lt _ _ t=>t.oV
 | .eH _ t=>t.oV
 | .it _ a b=>a.oV||b.oV
 | .dn _ a _ k=>a.oV||k.oV
 | .dY _ _ _ _ _ a k=>a.oV||k.oV
 | .eE _ _ _ a k=>a.oV||k.oV
 | .bad _=>true
def Q4(t:az)(u:Unit→az):az:=
 match t.oV with
 |true=>u ()
 |false=>t
def Q5(N B:Nat)(f:ar→az)(cur:Nat)(S:ar):fT × az→az
 |(J,t)=>match zU cur t.ends with
  |(a,b)=>match Dl S cur t a J.ps with
   |some (s,.c0 y)=>match zaU y with
    |some n=>Q4 (w3 N B f cur S (J3 N S.k S s y a b)) fun _=>Dm N f n S
    |none=>w3 N B f cur S (J3 N S.k S s y a b)
   |some (s,.ex x)=>match gR S.k [x]with
    |true=>emit S.k [x] [] (w3 N B f cur (S.eG S.k [x]) (J3 N (S.k+1) S s (.bg (.int .i64) S.k) a b))
    |false=>.bad 62
   |_=>Dj B f cur S J (ml J (CM S.n b))
def Dn(x:ab):Bool:=fx x (.cs (.slice none 0 0))
def zaV(n i:Nat)(S:ar):Option (TypeId × bN):=
 match S.at i with
 | .aN id=>match Nat.ble n id,dm S.h id with
  |true,some (.rw t c _)=>some (t,c)
  |_,_=>none
 |_=>none
def Q6(n i:Nat):List ar→Option (TypeId × bN)
 |[]=>none
 |S::r=>match zaV n i S with
  |some x=>some x
  |none=>Q6 n i r
def Dp(S:ar)(a:List ar):Nat→Nat→List (Nat × TypeId × bN)
 |0,_=>[]
 |k+1,i=>match Dn (S.at i)with
  |true=>match Q6 S.n i a with
   |some (t,c)=>(i,t,c)::Dp S a k (i+1)
   |none=>Dp S a k (i+1)
  |false=>Dp S a k (i+1)
def nj(N B:Nat):List (Nat × TypeId × bN)→ar→ar
 |[],S=>S
 |(i,t,c)::r,S=>match Dn (S.at i)&&(Nat.blt i N&&Nat.ble B S.n)with
  |true=>nj N B r ⟨S.l.put i (.aN S.n),(S.n,.rw t c (.cs (.slice none 0 0)))::S.h,S.n+1,S.k,S.g⟩
  |false=>nj N B r S
def rj(N B:Nat)(f:ar→az)(cur:Nat)(S:ar)(t:az):az:=
 Q5 N B f cur S (J0 N f cur S 6 ⟨Dk S N 0,S.h,S.n,[]⟩ t)
def az.lR:az→List ar
 | .cr _ S=>[S]
 | .lt _ _ t=>t.lR
 | .eH _ t=>t.lR
 | .it _ a b=>a.lR++b.lR
 | .dn _ a _ k=>a.lR++k.lR
 | .dY _ _ _ _ _ a k=>a.lR++k.lR
 | .eE _ _ _ a k=>a.lR++k.lR
 | .bad _=>[]
def zaW(n id off:Nat)(S:ar):Option (TypeId × bN):=
 match dm S.h id with
 |some (.c8 _ l)=>match eJ .top l off with
  | .aN k=>match Nat.ble n k,dm S.h k with
   |true,some (.rw t c _)=>some (t,c)
   |_,_=>none
  |_=>none
 |_=>none
def Q7(n id off:Nat):List ar→Option (TypeId × bN)
 |[]=>none
 |S::r=>match zaW n id off S with
  |some x=>some x
  |none=>Q7 n id off r
def Dq(S:ar)(a:List ar)(id:Nat):Nat→List ab→List (Nat × Nat × TypeId × bN)
 |_,[]=>[]
 |off,x::r=>match Dn x with
  |true=>match Q7 S.n id off a with
   |some (t,c)=>(id,off,t,c)::Dq S a id (off+1) r
   |none=>Dq S a id (off+1) r
  |false=>Dq S a id (off+1) r
def w8(S:ar)(a:List ar):List (Nat × bC)→List (Nat × Nat × TypeId × bN)
 |[]=>[]
 |(id,.c8 _ l)::r=>Dq S a id 0 l++w8 S a r
 |_::r=>w8 S a r
def j7(B:Nat):List (Nat × Nat × TypeId × bN)→ar→ar
 |[],S=>S
 |(id,off,t,c)::r,S=>match dm S.h id with
  |some (.c8 bt l)=>match(match l[off]? with|some x=>Dn x|none=>false)&&Nat.ble B S.n with
   |true=>j7 B r ⟨S.l,kD ((S.n,.rw t c (.cs (.slice none 0 0)))::S.h) id (.c8 bt (l.set off (.aN S.n))),S.n+1,S.k,S.g⟩
   |false=>j7 B r S
  |_=>j7 B r S
def Q8(N B:Nat)(f:ar→az)(cur:Nat)(S:ar)(t:az):az:=
 match Dp S t.lR N 0 with
 |[]=>match w8 S t.lR S.h with
  |[]=>rj N B f cur S t
  |q::qs=>rj N B f cur (j7 B (q::qs) S) (f (j7 B (q::qs) S))
 |p::r=>rj N B f cur (j7 B (w8 S t.lR S.h) (nj N B (p::r) S)) (f (j7 B (w8 S t.lR S.h) (nj N B (p::r) S)))
def J4(N B:Nat)(f:ar→az)(cur:Nat)(S:ar):az:=Q8 N B f cur S (f S)
section
variable {P:Program} {G:aY} {N B:Nat} {M:List aW}
theorem Q9{J b3:fT}{aR cur:Nat}: ∀{l:List (bR × ar)},sH J b3 aR cur l=true→∀{x:bR} {aP:ar},(x,aP)∈l→(x= .b5→iZ (ml J (Nat.max aP.n J.n)) aR aP=true)∧(x= .ext cur→iZ b3 aR aP=true)
 |(y,dO)::r,h,x,aP,hm=>by
  have a8:sH J b3 aR cur r=true∧(y= .b5→iZ (ml J (Nat.max dO.n J.n)) aR dO=true)∧(y= .ext cur→iZ b3 aR dO=true):=by
   cases y with
   |b5=>
    simp only[sH,Bool.and_eq_true]at h;exact⟨h.2,fun _=>h.1,fun e=>(by cases e)⟩
   |ext m=>
    simp only[sH,Bool.and_eq_true]at h;refine⟨h.2,fun e=>(by cases e),fun e=>?_⟩
    cases e
    have aa:=h.1
    rw[Nat.beq_refl]at aa;exact aa
   |ret=>exact⟨h,fun e=>(by cases e),fun e=>(by cases e)⟩
   |ld m=>exact⟨h,fun e=>(by cases e),fun e=>(by cases e)⟩
  rcases List.mem_cons.1 hm with q|q
  ·cases q;exact a8.2
  ·exact Q9 a8.1 q
theorem zaX{c:Code}{R A:Type}{n:Nat}{b:A→Step R A}{a0:A}{hd:A→aM}{Q:Exit→aM→Prop}{db:aM}{I:A→Prop}
    (aS:cL db (hd a0))(hi:I a0)(he:jU b n a0)
    (af: ∀a,I a→(∀r,b a= .ret r→b9 b n a0= .inl r)→(∀v,b a= .b7 v→b9 b n a0= .inr v)→bW P G c (fun e st=>match e with
      | .normal=>∃a6,b a= .bx a6∧I a6∧cL st (hd a6)
      |e=>Q e st) (hd a)):bW P G (.loop c) Q db:=by
  refine bW.loop (ι:=Nat × A) (fun x=>hd x.2) (fun x=>(b9 b n a0=b9 b x.1 x.2∧jU b x.1 x.2)∧I x.2) (fun x=>x.1) (n,a0) aS ⟨⟨rfl,he⟩,hi⟩ ?_
  rintro⟨k,a⟩ ⟨fA,ch⟩
  refine bW.mono (af a ch (fun r ad=>Yx fA ad) (fun v ad=>Yy fA ad)) fun e st ah=>?_
  cases e with
  |normal=>
    obtain⟨a6,aa,aq,ae⟩:=ah;obtain⟨m,aT,bD⟩:=Yw fA aa;exact⟨(m,a6),⟨bD,aq⟩,by show m<k;omega,ae⟩
  |_=>exact ah
theorem Ra{J:fT}{aR kx:Nat}{S0 aP:ar}{e ay:Env}{k:Nat}{g g':List bU}(ak:hV aR J.ps=true)(oj: ∀c∈aP.g,c.ok ay)(h:iZ (ml J (Nat.max aP.n J.n)) aR aP=true)(ix:uR J.n J.l=true)(pA:nR J.n J.h=true)(fV:B≤J.n)(bF:bX aR e ay):
 cL (aP.den G N B ay) ((ar.mk (eX J.l) J.h J.n k g).den G N B (ba e (cg S0 J.ps) (bZ _ (fa aP ay (cg S0 J.ps))))):=by
 have aa:=I8 (G:=G) (N:=N) (B:=B) (J:=ml J (Nat.max aP.n J.n)) ak oj h (g:=g') bF
 refine aa.le.trans ?_
 rw[zN]
 refine cL.low (m:=Nat.max aP.n J.n) ?_ ?_ fV
 ·exact JM (n:=J.n) (l:=eX J.l) (fun i x hx=>JN ix (oQ hx)) N 0
 ·exact wT pA
theorem zaY{c:Code}{f:ar→az}(hf:kI P G N B M c f){cur:Nat}{S:ar}{J b3:fT}{e:Env}(ad:S.cv)(eO:S.cw e)(ah:(Dj B f cur S J b3).safe M e):bW P G (.loop c) (jb G N B M (Dj B f cur S J b3) e S.k) (S.den G N B e):=by
 unfold Dj QZ at ah⊢
 split at ah
 rotate_left
 ·exact ah.elim
 rename_i sF
 generalize zQ:f (J.S S.k S.g)=t1 at ah sF⊢
 simp only[QY,Bool.and_eq_true]at sF
 obtain⟨⟨aA,et,gQ⟩,⟨nS,zR,zS⟩,ri,JP,JQ,JR⟩:=sF
 have ri:=Nat.le_of_ble_eq_true ri
 have JT:t1.lvl<t1.lvl+1:=Nat.lt_succ_self _
 have kS:=HW JT
 obtain⟨⟨Inv,JU,Dh⟩,zaZ,aj⟩:=ah
 generalize rh:S.k+J.ps.length=kx at*
 have hle:S.k≤kx:=by rw[←rh];exact Nat.le_add_right _ _
 have cS: ∀L,b9 (fun(v:bL (cg S J.ps))=>cM M (t1.lvl+1) cur (cg S J.ps) (t1.rel (fm (t1.lvl+1))) (ba e (cg S J.ps) v) v) cu (bZ _ (dt e (cg S J.ps)))=L→
  run M (az.eE (t1.lvl+1) cur (cg S J.ps) (t1.rel (fm (t1.lvl+1))) (.cr (.ext cur) ⟨eX b3.l,b3.h,b3.n,kx,S.g⟩)) e=Sum.elim (fun r=>r) (fun v=>some (.ext cur,⟨eX b3.l,b3.h,b3.n,kx,S.g⟩,ba e (cg S J.ps) v)) L:=fun L fA=>by
  rw[CC,fA];rfl
 have za0:jU (fun(v:bL (cg S J.ps))=>cM M (t1.lvl+1) cur (cg S J.ps) (t1.rel (fm (t1.lvl+1))) (ba e (cg S J.ps) v) v) cu (bZ _ (dt e (cg S J.ps))):=
  (HU (fun _=>()) (fun v=>iB _ _ _ _ _ v) _ _).1 zaZ
 generalize zaJ:az.eE (t1.lvl+1) cur (cg S J.ps) (t1.rel (fm (t1.lvl+1))) (.cr (.ext cur) ⟨eX b3.l,b3.h,b3.n,kx,S.g⟩)=pW at cS
 have sG: ∀(v:bL (cg S J.ps)),bX S.k e (ba e (cg S J.ps) v):=fun v j ai=>w4 aA (.inl ai)
 have JW:(J.S S.k S.g).cv:=⟨fun i x hx=>by show x.lt (S.k+J.ps.length)=true;rw[rh];exact sx et (oQ hx),by show eF (S.k+J.ps.length) J.h=true;rw[rh];exact gQ,by show eW (S.k+J.ps.length) S.g=true;rw[rh];exact oJ hle ad.g⟩
 have JX: ∀(v:bL (cg S J.ps)),(J.S S.k S.g).cw (ba e (cg S J.ps) v):=fun v=>ie (sG v) ad.g eO
 have Di: ∀di:ar,di=⟨eX b3.l,b3.h,b3.n,kx,S.g⟩→di.cv:=fun di h=>by
  subst h;exact⟨fun i x hx=>sx JQ (oQ hx),JR,oJ hle ad.g⟩
 refine zaX (n:=cu) (b:=fun(v:bL (cg S J.ps))=>cM M (t1.lvl+1) cur (cg S J.ps) (t1.rel (fm (t1.lvl+1))) (ba e (cg S J.ps) v) v) (a0:=bZ _ (dt e (cg S J.ps)))
  (hd:=fun v=>(J.S S.k S.g).den G N B (ba e (cg S J.ps) v)) (I:=Inv) ?_ JU za0 (fun v ch za1 za2=>?_)
 ·rw[JL]
  exact Ra (kx:=kx) (g':=S.g) aA eO nS zR zS ri (bX.refl _ _)
 ·obtain⟨dh,dv⟩:=Dh v ch
  have w7:=hf (J.S S.k S.g) (ba e (cg S J.ps) v) JW (JX v) (by rw[zQ];exact(lK kS).1 dh)
  refine bW.mono w7 fun ex st ⟨x,aP,ay,aa,ae,aq,aT,bD,cA,dx⟩=>?_
  rw[zQ]at aa
  have za3:(J.S S.k S.g).k=kx:=rh
  rw[za3]at cA dx;obtain⟨m1,m2⟩:=Q9 JP (nT aa)
  have oI:run M (t1.rel (fm (t1.lvl+1))) (ba e (cg S J.ps) v)=some (fm (t1.lvl+1) x,aP,ay):=by rw[yZ kS,aa];rfl
  have lQ:cM M (t1.lvl+1) cur (cg S J.ps) (t1.rel (fm (t1.lvl+1))) (ba e (cg S J.ps) v) v=dU (t1.lvl+1) cur (cg S J.ps) (fun x S e=>some (x,S,e)) (fm (t1.lvl+1) x) aP ay:=by
   unfold cM;rw[oI]
  have uT:bX S.k e ay:=bX.trans (sG v) cA hle
  have out: ∀ex,zv x ex→fm (t1.lvl+1) x=x→x.bG (t1.lvl+1)=false→x.cF cur=false→jb G N B M pW e S.k ex st:=fun ex ae hm ai hx=>by
   rw[hm,jZ ai hx]at lQ;exact⟨x,aP,ay,cS _ (za1 _ lQ),ae,aq,aT,bD,uT,Nat.le_trans hle dx⟩
  cases x with
  |ld m=>cases ex<;>exact ae.elim
  |ret=>cases ex<;>first|exact ae.elim|exact out _ ae rfl rfl rfl
  |b5=>
   cases ex with
   |normal=>
    rw[nO (x:=fm (t1.lvl+1) .b5) (show bR.bG (t1.lvl+1) (.ld (t1.lvl+1))=true from Nat.beq_refl _)]at lQ
    exact⟨_,lQ,dv _ (by rw[iB,lQ];rfl),aq.trans (Ra (kx:=kx) (g':=S.g) aA bD (m1 rfl) zR zS ri uT)⟩
   |_=>exact ae.elim
  |ext m=>
   cases ex with
   |exit JY=>
    have ae:m=JY:=ae
    subst ae
    cases hm:Nat.beq m cur with
    |false=>exact out _ rfl rfl rfl hm
    |true=>
     have:=Nat.eq_of_beq_eq_true hm
     subst this;rw[nP (x:=fm (t1.lvl+1) (.ext m)) (show bR.bG (t1.lvl+1) (.ext m)=false from rfl) (show bR.cF m (.ext m)=true from hm)]at lQ
     refine⟨.ext m,_,_,cS _ (za2 _ lQ),rfl,aq.trans ?_,Di _ rfl,ie (sG _) ad.g eO,sG _,hle⟩
     rw[zN];exact CK (J:=⟨b3.l,b3.h,b3.n,J.ps⟩) aA bD (m2 rfl) (g:=S.g) uT
   |_=>exact ae.elim
theorem Rb{c:Code}{f:ar→az}(hf:kI P G N B M c f){Q:Exit→aM→Prop}: ∀(n:Nat) {S:ar} {e:Env},S.cv→S.cw e→(Dm N f n S).safe M e→(∀ex st,jb G N B M (Dm N f n S) e S.k ex st→Q ex st)→vV P G c Q n (S.den G N B e)
 |0,_,_,_,_,ah,_=>ah.elim
 |n+1,S,e,ad,eO,ah,ef=>by
  obtain⟨t1,t2,t3⟩:=CO (G:=G) (B:=B) ad eO ah;refine vV.rd n (bW.mono (hf S e ad eO t1) fun ex st ak=>?_)
  obtain⟨x,di,aw,aa,ae,aq,aT,bD,cA,dx⟩:=ak
  have other:x≠ .b5→Q ex st:=fun cf=>ef ex st ⟨x,di,aw,t2 x di aw aa cf (Qm ae),ae,aq,aT,bD,cA,dx⟩
  cases x with
  |b5=>
   cases ex with
   |normal=>
    obtain⟨dO,aV,s1,s2,hb,kj,kk,kl,kQ⟩:=t3 di aw aa aT bD cA dx
    have:=Rb hf n s2 hb kl (Q:=Q) fun ex st ak=>ef ex st (ak.sub kQ kj kk)
    exact fun E a w af=>this E a w (s1 E G a w (aq E G a w af))
   |_=>exact ae.elim
  |ret=>cases ex<;>first|exact ae.elim|exact other (by simp)
  |ext n=>cases ex<;>first|exact ae.elim|exact other (by simp)
  |ld n=>cases ex<;>exact ae.elim
theorem J5{c:Code}{Q:Exit→aM→Prop}{e:Env}: ∀(l:List (Nat × TypeId × bN)) {S:ar},S.cv→S.cw e→(nj N B l S).cv∧(nj N B l S).cw e∧(nj N B l S).k=S.k∧(bW P G c Q ((nj N B l S).den G N B e)→bW P G c Q (S.den G N B e))
 |[],_,ad,hf=>⟨ad,hf,rfl,fun h=>h⟩
 |(i,t,d)::r,S,ad,hf=>by
  unfold nj
  split
  ·rename_i hc
   simp only[Bool.and_eq_true]at hc;obtain⟨aA,et,gQ⟩:=hc
   have ho:(⟨S.l.put i (.aN S.n),(S.n,.rw t d (.cs (.slice none 0 0)))::S.h,S.n+1,S.k,S.g⟩:ar).cv:=by
    refine⟨fun j x hx=>?_,?_,ad.g⟩
    ·simp only[a1.jV]at hx
     split at hx
     ·cases hx;rfl
     ·exact ad.l j x hx
    ·show(bC.lt S.k (.rw t d (.cs (.slice none 0 0)))&&eF S.k S.h)=true
     rw[ad.h];rfl
   obtain⟨aa,ae,aq,aT⟩:=J5 r ho hf;refine⟨aa,ae,aq,fun h=>?_⟩
   refine bW.HE i t (c5 d) ?_ (by rw[uw,if_pos (eT et),fN aA];rfl) gQ
   have:=aT h
   have hd:(⟨S.l.put i (.aN S.n),(S.n,.rw t d (.cs (.slice none 0 0)))::S.h,S.n+1,S.k,S.g⟩:ar).den G N B e={S.den G N B e with cC:=(S.den G N B e).cC.set i (.aN (S.den G N B e).next),heap:=((S.den G N B e).next,.row false t (c5 d) [])::(S.den G N B e).heap,next:=(S.den G N B e).next+1}:=by
    simp only[ar.den,H4,cK,ab.den,bC.den,ab.aH,ab.fG,cQ];rfl
   rw[hd]at this;exact this
  ·exact J5 r ad hf
theorem zW{c:Code}{Q:Exit→aM→Prop}{e:Env}: ∀(l:List (Nat × Nat × TypeId × bN)) {S:ar},S.cv→S.cw e→(j7 B l S).cv∧(j7 B l S).cw e∧(j7 B l S).k=S.k∧(bW P G c Q ((j7 B l S).den G N B e)→bW P G c Q (S.den G N B e))
 |[],_,ad,hf=>⟨ad,hf,rfl,fun h=>h⟩
 |(id,off,t,d)::r,S,ad,hf=>by
  unfold j7
  split
  ·rename_i bt l ag
   split
   ·rename_i hc
    simp only[Bool.and_eq_true]at hc;obtain⟨aA,gQ⟩:=hc
    have ao:=CX ad.h ag
    have ho:(⟨S.l,kD ((S.n,.rw t d (.cs (.slice none 0 0)))::S.h) id (.c8 bt (l.set off (.aN S.n))),S.n+1,S.k,S.g⟩:ar).cv:=by
     refine⟨ad.l,CW (o:=.c8 bt (l.set off (.aN S.n))) (Jq (x:=.aN S.n) rfl ao) ?_,ad.g⟩
     show(bC.lt S.k (.rw t d (.cs (.slice none 0 0)))&&eF S.k S.h)=true;rw[ad.h];rfl
    obtain⟨aa,ae,aq,aT⟩:=zW r ho hf;refine⟨aa,ae,aq,fun h=>?_⟩
    have:=aT h
    have hid:aE (S.den G N B e).heap id=some (.box bt (ab.bP G e l)):=by simp only[ar.den,eN,ag,Option.map_some,bC.den]
    have aj:(ab.bP G e l)[off]? =some (.au (.v (.slice none 0 0))):=by
     rw[eD,List.getElem?_map]
     cases hx:l[off]? with
     |none=>rw[hx]at aA;cases aA
     |some x=>
      rw[hx]at aA
      have:=fN aA
      subst this;rfl
    refine bW.le (cL.YD (s:=S.den G N B e) id off t (c5 d) hid aj (Nat.le_of_ble_eq_true gQ) rfl) ?_
    have hd:(⟨S.l,kD ((S.n,.rw t d (.cs (.slice none 0 0)))::S.h) id (.c8 bt (l.set off (.aN S.n))),S.n+1,S.k,S.g⟩:ar).den G N B e={S.den G N B e with heap:=eU (((S.den G N B e).next,.row false t (c5 d) [])::(S.den G N B e).heap) id (.box bt ((ab.bP G e l).set off (.aN (S.den G N B e).next))),next:=(S.den G N B e).next+1}:=by
     simp only[ar.den,ux,cK,bC.den,Jr,ab.den,ab.aH,ab.fG,cQ];rfl
    rw[hd]at this;exact this
   ·exact zW r ad hf
  ·exact zW r ad hf
theorem J6{c:Code}{f:ar→az}{cur:Nat}{S:ar}{e:Env}{t:az}(hf:kI P G N B M c f)(ad:S.cv)(eO:S.cw e)(ah:(rj N B f cur S t).safe M e):bW P G (.loop c) (jb G N B M (rj N B f cur S t) e S.k) (S.den G N B e):=by
 unfold rj at ah⊢
 generalize J0 N f cur S 6 ⟨Dk S N 0,S.h,S.n,[]⟩ t=za4 at ah⊢
 obtain⟨J,t⟩:=za4
 simp only[Q5]at ah⊢
 split at ah
 ·split at ah
  ·unfold Q4 at ah⊢
   split at ah
   ·exact bW.rounds _ (Rb hf _ ad eO ah fun _ _ h=>h)
   ·exact JO hf ad eO ah
  ·exact JO hf ad eO ah
 ·rename_i s x _
  split at ah
  ·rename_i hx
   obtain⟨_,fy⟩:=mj ah;obtain⟨bB,a2,a3⟩:=re (M:=M) (G:=G) (N:=N) (B:=B) ad eO hx
   have:=JO hf bB a2 fy
   rw[a3]at this;exact bW.mono this fun ex st ak=>ak.sub (by rw[lN]) (jx (Nat.le_refl _)) (Nat.le_add_right _ _)
  ·exact ah.elim
 ·exact zaY hf ad eO ah
theorem za5:JD P G N B M (J4 N B):=by
 intro c f cur hf S e ad eO ah
 unfold J4 Q8 at ah⊢
 generalize f S=t at ah⊢
 split at ah
 ·split at ah
  ·exact J6 hf ad eO ah
  ·rename_i q qs _
   obtain⟨aa,ae,aq,aT⟩:=zW (P:=P) (G:=G) (N:=N) (B:=B) (c:=.loop c) (Q:=jb G N B M (rj N B f cur (j7 B (q::qs) S) (f (j7 B (q::qs) S))) e S.k) (e:=e) (q::qs) ad eO;refine aT ?_
   have:=J6 hf aa ae ah
   rw[aq]at this;exact this
 ·rename_i p r _
  generalize w8 S t.lR S.h=cx at ah⊢;obtain⟨g1,g2,g3,g4⟩:=J5 (P:=P) (G:=G) (N:=N) (B:=B) (c:=.loop c) (Q:=jb G N B M (rj N B f cur (j7 B cx (nj N B (p::r) S)) (f (j7 B cx (nj N B (p::r) S)))) e S.k) (e:=e) (p::r) ad eO;obtain⟨aa,ae,aq,aT⟩:=zW (P:=P) (G:=G) (N:=N) (B:=B) (c:=.loop c) (Q:=jb G N B M (rj N B f cur (j7 B cx (nj N B (p::r) S)) (f (j7 B cx (nj N B (p::r) S)))) e S.k) (e:=e) cx g1 g2;refine g4 (aT ?_)
  have:=J6 hf aa ae ah
  rw[aq,g3]at this;exact this
end
end Go.aL
namespace Go.aL
open Go
def J7(ops:Array Oper)(m:List Bool)(i:Nat)(D:List Nat)(j:Nat):Bool:=
 !(m.toArray.getD j true)&&(!(Nat.beq j i)&&match ops[j]? with
  |some o=>o.after.any fun e=>Region.binds .any e&&(e.on==i||D.contains e.on)
  |none=>false)
def Dr(ops:Array Oper)(m:List Bool)(i:Nat):List Nat→List Nat→List Nat
 |[],D=>D
 |j::r,D=>match J7 ops m i D j with
  |true=>Dr ops m i r (j::D)
  |false=>Dr ops m i r D
def Ds(ops:Array Oper)(wr:List Bool)(m:List Bool)(i:Nat):Bool:=
 match Dr ops m i (List.range ops.size) []with
 |D=>!(wr.getD i false)&&(D.all (J7 ops m i D)&&(List.range ops.size).all fun j=>!(wr.getD j false)||(m.toArray.getD j true||D.contains j))
section
variable {P:Program} {ops:Array Oper} {Q:Exit→Act→World→Prop} {S:World→Prop} {wr:Nat→Bool}
theorem za6{i:Nat}{oi:Oper}{v:Value}(hi:ops[i]? =some oi)(sb:wr i=false)(la: ∀(j:Nat) (o:Oper) cs b,ops[j]? =some o→o.op≠ .select cs b)
 (ef: ∀c a w,Q (.panic c) (a.put oi.dst v) w→Q (.panic c) a w)(D:Nat→Prop):
 ∀(fuel:Nat) (listed:Array Bool) (a:Act) (w:World),
  (∀j eM,ops[j]? =some eM→j≠i→listed.getD j true=false→(∀e∈eM.after,Region.binds .any e=true→e.on≠i)→oi.apart ops eM=true)→
  (∀j eM,ops[j]? =some eM→wr j=true→listed.getD j true=false→D j)→
  (∀j,D j→listed.getD j true=false∧j≠i∧∃eM,ops[j]? =some eM∧∃e∈eM.after,Region.binds .any e=true∧(e.on=i∨D e.on))→
  i∈Region.ready .any ops listed→YieldsIf P ops S oi v a→S w→
  k9 P ops Q S wr fuel (listed.setIfInBounds i true) (a.put oi.dst v) w→k9 P ops Q S wr (fuel+1) listed a w:=by
 intro fuel
 induction fuel with
 |zero=>
  intro listed a w _ _ _ af ax hS H;refine⟨fun h=>(by rw[h]at af;cases af),fun j ai=>?_⟩
  by_cases gE:j=i
  ·subst gE;exact ax.wpOp hi hS (.inr ⟨sb,hS,H⟩)
  ·have:=ready_mono ai gE
   rw[H.1]at this
   cases this
 |succ fuel aQ=>
  intro listed a w sc yP l3 af ax hS H;refine⟨fun h=>(by rw[h]at af;cases af),fun j ai=>?_⟩
  by_cases gE:j=i
  ·subst gE;exact ax.wpOp hi hS (.inr ⟨sb,hS,H⟩)
  ·have aa:=H.2 j (ready_mono ai gE)
   obtain⟨pF,eM,ia,dQ⟩:=mem_ready.1 ai
   have un: ∀k,listed.getD k true=false→∀e∈eM.after,Region.binds .any e=true→e.on≠k:=fun k aj e he ad heq=>by
    have aa:=dQ e he ad
    rw[heq]at aa
    rcases Nat.lt_or_ge k listed.size with h'|h'
    ·simp[h']at aj aa;rw[aj]at aa;cases aa
    ·simp[Array.getElem?_eq_none h']at aa
   have um: ∀e∈eM.after,Region.binds .any e=true→e.on≠i:=un i (mem_ready.1 af).1
   have Rc: ¬D j:=fun hd=>by
    obtain⟨_,_,zc2,Re,e,he,ad,a8⟩:=l3 j hd;rw[ia]at Re
    cases Re
    rcases a8 with a8|a8
    ·exact um e he ad a8
    ·exact un e.on (l3 _ a8).1 e he ad rfl
   have uo:wr j=false:=by
    cases hw:wr j with
    |false=>rfl
    |true=>exact absurd (yP j eM ia hw pF) Rc
   have aa:=wpOp_mono (K':=fun a6 w'=>S w'∧k9 P ops Q S wr fuel ((listed.setIfInBounds i true).setIfInBounds j true) a6 w') (fun a6 w' h'=>by
    rcases h' with⟨h',_⟩|⟨_,h'⟩
    ·rw[uo]at h';cases h'
    ·exact h') aa
   have ae:=wpOp_putIf ia (sc j eM ia gE pF um) (fun cs b=>la i oi cs b hi) (fun cs b=>la j eM cs b ia) ef ax aa
   have low: ∀k,(listed.setIfInBounds j true).getD k true=false→listed.getD k true=false:=fun k hv=>by
    by_cases pG:j=k
    ·subst pG;exact pF
    ·rw[getD_set_ne true pG]at hv;exact hv
   have vZ: ∀k ok,ops[k]? =some ok→k≠i→(listed.setIfInBounds j true).getD k true=false→
    (∀e∈ok.after,Region.binds .any e=true→e.on≠i)→oi.apart ops ok=true:=fun k ok aj bk hv hq=>sc k ok aj bk (low k hv) hq
   have za7: ∀k,D k→(listed.setIfInBounds j true).getD k true=false∧k≠i∧∃ok,ops[k]? =some ok∧∃e∈ok.after,Region.binds .any e=true∧(e.on=i∨D e.on):=fun k aj=>by
    obtain⟨g1,g2⟩:=l3 k aj;refine⟨?_,g2⟩
    have pG:j≠k:=fun a8=>Rc (by rw[a8];exact aj)
    rw[getD_set_ne true pG];exact g1
   refine wpOp_mono (fun a6 w' aq=>.inr ⟨uo,aq.2.1,aQ (listed.setIfInBounds j true) a6 w' vZ (fun k ok aj hw hv=>yP k ok aj hw (low k hv)) za7 (ready_mono af (Ne.symm gE)) aq.1 aq.2.1 ?_⟩) ae
   rw[Array.setIfInBounds_comm _ _ gE];exact aq.2.2
theorem za8{i:Nat}{oi:Oper}{v:Value}(hi:ops[i]? =some oi)(sb:wr i=false)(la: ∀(j:Nat) (o:Oper) cs b,ops[j]? =some o→o.op≠ .select cs b)
 (ef: ∀c a w,Q (.panic c) (a.put oi.dst v) w→Q (.panic c) a w):
 ∀(fuel:Nat) (listed:Array Bool) (a:Act) (w:World),
  (∀j eM,ops[j]? =some eM→j≠i→listed.getD j true=false→(∀e∈eM.after,Region.binds .any e=true→e.on≠i)→oi.apart ops eM=true)→
  i∈Region.ready .any ops listed→Yields P ops oi v a→S w→
  k9 P ops Q S wr fuel (listed.setIfInBounds i true) (a.put oi.dst v) w→k9 P ops Q S wr (fuel+1) listed a w:=by
 intro fuel
 induction fuel with
 |zero=>
  intro listed a w _ af ax hS H;refine⟨fun h=>(by rw[h]at af;cases af),fun j ai=>?_⟩
  by_cases gE:j=i
  ·subst gE;exact ax.yieldsIf.wpOp hi hS (.inr ⟨sb,hS,H⟩)
  ·have:=ready_mono ai gE
   rw[H.1]at this
   cases this
 |succ fuel aQ=>
  intro listed a w sc af ax hS H;refine⟨fun h=>(by rw[h]at af;cases af),fun j ai=>?_⟩
  by_cases gE:j=i
  ·subst gE;exact ax.yieldsIf.wpOp hi hS (.inr ⟨sb,hS,H⟩)
  ·have aa:=H.2 j (ready_mono ai gE)
   obtain⟨pF,eM,ia,dQ⟩:=mem_ready.1 ai
   have um: ∀e∈eM.after,Region.binds .any e=true→e.on≠i:=fun e he ad heq=>by
    have aa:=dQ e he ad
    have aS:=(mem_ready.1 af).1
    rw[heq]at aa
    rcases Nat.lt_or_ge i listed.size with h'|h'
    ·simp[h']at aS aa;rw[aS]at aa;cases aa
    ·simp[Array.getElem?_eq_none h']at aa
   have ae:=wpOp_put ia (sc j eM ia gE pF um) (fun cs b=>la i oi cs b hi) (fun cs b=>la j eM cs b ia) ef ax aa
   have low: ∀k,(listed.setIfInBounds j true).getD k true=false→listed.getD k true=false:=fun k hv=>by
    by_cases pG:j=k
    ·subst pG;exact pF
    ·rw[getD_set_ne true pG]at hv;exact hv
   have vZ: ∀k ok,ops[k]? =some ok→k≠i→(listed.setIfInBounds j true).getD k true=false→
    (∀e∈ok.after,Region.binds .any e=true→e.on≠i)→oi.apart ops ok=true:=fun k ok aj bk hv hq=>sc k ok aj bk (low k hv) hq
   refine wpOp_mono (fun a6 w' ⟨mg,aq⟩=>?_) ae
   rcases aq with⟨hw,aq⟩|⟨hw,Rf,aq⟩
   ·refine .inl ⟨hw,wpAny_first hi la ef fuel _ a6 w' vZ (ready_mono af (Ne.symm gE)) mg ?_⟩
    rw[Array.setIfInBounds_comm _ _ gE];exact aq
   ·refine .inr ⟨hw,Rf,aQ (listed.setIfInBounds j true) a6 w' vZ (ready_mono af (Ne.symm gE)) mg Rf ?_⟩
    rw[Array.setIfInBounds_comm _ _ gE];exact aq
end
section
variable {P:Program} {G:aY} {Q:Exit→aM→Prop} {L:List Oper} {wr:List Bool}
theorem fi.za9{fuel:Nat}{m:List Bool}{s bh:aM}(i:Nat){o:Oper}(an:L[i]? =some o)(ak:jq P G L.toArray o s bh)(k:fi P G L Q wr fuel (m.set i true) bh)(ah:Region.noSelect L.toArray=true)
 (hf:Region.free .any L.toArray m.toArray i=true)(af:(Region.ready .any L.toArray m.toArray).contains i=true)(hw:Ds L.toArray wr m i=true):fi P G L Q wr (fuel+1) m s:=by
 intro E a w dk
 obtain⟨v,av,qN⟩:=ak E a w dk
 unfold Ds at hw
 simp only at hw
 generalize l3:Dr L.toArray m i (List.range L.toArray.size) []=D at hw
 simp only[Bool.and_eq_true]at hw
 obtain⟨aa,ae,aq⟩:=hw
 refine za6 (i:=i) (oi:=o) (v:=v) (by simpa using an) (by simpa using aa) (Region.noSelect_spec ah) (fun c a w aJ=>?_) (fun j=>D.contains j=true) fuel m.toArray a w (Region.free_spec (by simpa using an) hf) (fun j eM ia uo hv=>?_) (fun j ai=>?_) (by simpa using af) av (fL.refl w) (by simpa using k E _ w qN)
 ·obtain⟨_,⟨h,_⟩,_⟩:=aJ
  cases h
 ·have:=List.all_eq_true.1 aq j (List.mem_range.2 (Array.getElem?_eq_some_iff.1 ia).1)
  rw[uo,hv]at this;simpa using this
 ·have hm:j∈D:=by simpa using ai
  have:=List.all_eq_true.1 ae j hm
  unfold J7 at this;simp only[Bool.and_eq_true,Bool.not_eq_true']at this;obtain⟨g1,g2,g3⟩:=this;refine⟨g1,fun a8=>(by rw[a8,Nat.beq_refl]at g2;cases g2),?_⟩
  cases ia:L.toArray[j]? with
  |none=>rw[ia]at g3;cases g3
  |some eM=>
   rw[ia]at g3;obtain⟨e,he,ad⟩:=Array.any_eq_true'.1 g3;simp only[Bool.and_eq_true,Bool.or_eq_true,beq_iff_eq]at ad;exact⟨eM,rfl,e,he,ad⟩
theorem fi.zba{fuel:Nat}{m:List Bool}{s bh:aM}(i:Nat){o:Oper}(an:L[i]? =some o)(ak:gP P G L.toArray o s bh)(k:fi P G L Q wr fuel (m.set i true) bh)(ah:Region.noSelect L.toArray=true)
 (hf:Region.free .any L.toArray m.toArray i=true)(af:(Region.ready .any L.toArray m.toArray).contains i=true)(hw:wr.getD i false=false):fi P G L Q wr (fuel+1) m s:=by
 intro E a w dk
 obtain⟨v,av,qN⟩:=ak E a w dk
 refine za8 (i:=i) (oi:=o) (v:=v) (by simpa using an) hw (Region.noSelect_spec ah) (fun c a w aJ=>?_) fuel m.toArray a w (Region.free_spec (by simpa using an) hf) (by simpa using af) av (fL.refl w) (by simpa using k E _ w qN)
 obtain⟨_,⟨h,_⟩,_⟩:=aJ
 cases h
theorem fi.any{fuel:Nat}{m:List Bool}{s:aM}(cf:Region.ready .any L.toArray m.toArray≠[])(h: ∀i∈Region.ready .any L.toArray m.toArray,∃o,L[i]? =some o∧∃A:aM→Prop,(∀t,A t→fi P G L Q wr fuel (m.set i true) t)∧
      ∀E a w,Rel E G s a w→(Region.wanted o (yielded L.toArray a.tmps)=true∧∀(K:Act→World→Prop) (Q:Exit→Act→World→Prop),(∀t,A t→∀a6 w',Rel E G t a6 w'→(wr.getD i false=true∨fL w w')→K a6 w')→o.wp P a w K Q)∨(wr.getD i false=false∧Region.wanted o (yielded L.toArray a.tmps)=false∧∃t,A t∧Rel E G t (a.put o.dst undef) w)):fi P G L Q wr (fuel+1) m s:=by
  intro E a w af;refine⟨fun hn=>absurd hn cf,fun j ai=>?_⟩
  obtain⟨o,an,A,k,ah⟩:=h j ai
  have eU:m.toArray.setIfInBounds j true=(m.set j true).toArray:=by simp
  have next: ∀t,A t→∀a6 w',Rel E G t a6 w'→(wr.getD j false=true∨fL w w')→(wr.getD j false=true∧wpAny P .any L.toArray (lift E G (nK Q)) fuel (m.toArray.setIfInBounds j true) a6 w')∨(wr.getD j false=false∧fL w w'∧k9 P L.toArray (lift E G (nK Q)) (fL w) (fun i=>wr.getD i false) fuel (m.toArray.setIfInBounds j true) a6 w'):=fun t aG a6 w' dS aj=>by
    rw[eU]
    cases hw:wr.getD j false with
    |true=>exact .inl ⟨rfl,(k t aG).cP E a6 w' dS⟩
    |false=>
      rcases aj with aj|aj
      · rw[hw]at aj;cases aj
      · exact .inr ⟨rfl,aj,B4 (fun cH ae=>aj.trans ae) _ _ _ _ (k t aG E a6 w' dS)⟩
  unfold wpOp;rw[show L.toArray[j]? =some o from by simpa using an]
  simp only
  rcases ah E a w af with⟨e9,aq⟩|⟨hw,e9,t,aT,aq⟩
  · rw[if_pos e9]
    exact .inl (aq _ _ next)
  · rw[if_neg (by rw[e9];decide)]
    exact next t aT _ _ aq (.inr (fL.refl w))
end
section
variable {P:Program} {G:aY} {N B:Nat} {M:List aW}
theorem c6.later{E:Entry}{s:aM}{a:Act}{w cn:World}{β:Nat→Value}{ro:Nat→Prop}(h:c6 E G s a w β ro)(aj:fL w cn):c6 ⟨cn,ro,s.heap,β,E.n⟩ G s a cn β ro:=by
 have bJ:w.heap.size≤cn.heap.size:=by
  rcases Nat.eq_zero_or_pos w.heap.size with aS|aS
  ·omega
  ·have aa:=aj (w.heap.size-1) (by omega)
   rcases Nat.lt_or_ge (w.heap.size-1) cn.heap.size with ae|ae
   ·omega
   ·rw[Array.getElem?_eq_none ae,Array.getElem?_eq_getElem (by omega)]at aa
    cases aa
 have hw: ∀b,ro b→cn.heap[b]? =w.heap[b]? :=fun b ad=>aj b (h.heap.lt b ad)
 refine⟨h.defers,h.size,fun i x hx=>(h.slot i x hx).keep hw (fun _ h=>h) (Nat.le_refl _) (fun _ t cs ag=>⟨rfl,t,cs,ag⟩) (fun _ z t _ es ag=>⟨rfl,z,t,es,ag⟩) (fun _ bE ag=>⟨rfl,bE,ag⟩),
  ⟨fun id h6 ag=>(h.heap.c4 id h6 ag).keep hw (fun _ h=>h) (Nat.le_refl _) bJ rfl (fun ao b ad=>aj b ((h.heap.c4 id h6 ag).hk ao ad)) (fun _ t cs ag=>⟨rfl,t,cs,ag⟩) (fun _ z t _ es ag=>⟨rfl,z,t,es,ag⟩) (fun _ bE ag=>⟨rfl,bE,ag⟩),h.heap.inj,h.heap.ft,fun b ad=>Nat.lt_of_lt_of_le (h.heap.lt b ad) bJ⟩,
  h.hT.keep hw fun _ h=>h,⟨rfl,rfl,rfl,Nat.le_refl _,fun _ _ _=>rfl,fun b ad=>.inl ad,fun b ad=>ad,fun b ad=>.inl ad,fun id hi o ag=>⟨by rw[ag];simp,rfl⟩,h.trans.new,h.trans.le⟩,h.base⟩
theorem Rg{w:World}{ro:Nat→Prop}{σ:bz}{β:Nat→Value}{n:Nat}{x:Value}{c:Value}(h:bp w ro σ β n (.au (.v x)) c):c=x:=by
 cases h with
 |au _ _ h=>
  cases h;rfl
theorem jq.qS{ops:Array Oper}{o:Oper}{s:aM}{x:Value}(h:cT P G o s (.au (.v x)))(ag:dT ops s o=some true):jq P G ops o s (s.put o.dst (.au (.v x))):=by
 intro E a w ⟨β,ro,af⟩
 have hw:=nJ (ops:=ops) ⟨β,ro,af⟩ ag
 obtain⟨c,_,ae⟩:=h E a w β ro af
 refine⟨x,.inl ⟨hw,fun cn aj=>?_⟩,β,ro,af.put _ _ _ (by rw[Rg ae]at ae;exact ae)⟩
 obtain⟨aA,aq,aT⟩:=h _ a cn β ro (af.later aj)
 rw[Rg aT]at aq
 exact aq
def j8(P:Program)(G:aY)(ops:Array Oper)(o:Oper)(s:aM)(A:aM→Prop):Prop:=∀E a w,Rel E G s a w→
 (Region.wanted o (yielded ops a.tmps)=true∧∀(K:Act→World→Prop) (Q:Exit→Act→World→Prop),(∀t,A t→∀a6 w',Rel E G t a6 w'→fL w w'→K a6 w')→o.wp P a w K Q)∨
 (Region.wanted o (yielded ops a.tmps)=false∧∃t,A t∧Rel E G t (a.put o.dst undef) w)
theorem j8.v{ops:Array Oper}{o:Oper}{s:aM}{v:aD}{A:aM→Prop}(h:cT P G o s v)(ag:dT ops s o=some true)(cV:A (s.put o.dst v)):j8 P G ops o s A:=fun E a w af=>
 .inl ⟨nJ af ag,fun K Q hK=>h.Nt E a w af K Q fun a6 w' dS aj=>hK _ cV a6 w' dS aj⟩
theorem j8.no{ops:Array Oper}{o:Oper}{s:aM}{A:aM→Prop}(ag:dT ops s o=some false)(cV:A (s.put o.dst (.tuple []))):j8 P G ops o s A:=fun E a w af=>
 .inr ⟨nJ af ag,_,cV,af.BE o.dst⟩
theorem fi.one{L:List Oper}{Q:Exit→aM→Prop}{wr:List Bool}{fuel:Nat}{m:List Bool}{s:aM}{A:aM→Prop}{i:Nat}{o:Oper}(an:L[i]? =some o)(h:Region.ready .any L.toArray m.toArray=[i])(hw:wr.getD i false=false)
 (ah:j8 P G L.toArray o s A)(k: ∀t,A t→fi P G L Q wr fuel (m.set i true) t):fi P G L Q wr (fuel+1) m s:=by
 intro E a w af
 refine⟨fun hn=>(by rw[h]at hn;cases hn),fun j ai=>?_⟩
 rw[h]at ai
 rcases List.mem_cons.1 ai with rfl|ai
 rotate_left
 ·cases ai
 have eU:m.toArray.setIfInBounds j true=(m.set j true).toArray:=by simp
 have next: ∀t,A t→∀a6 w',Rel E G t a6 w'→fL w w'→wr.getD j false=false∧fL w w'∧k9 P L.toArray (lift E G (nK Q)) (fL w) (fun i=>wr.getD i false) fuel (m.toArray.setIfInBounds j true) a6 w':=fun t aG a6 w' dS aj=>by
  rw[eU];exact⟨hw,aj,B4 (fun cH ae=>aj.trans ae) _ _ _ _ (k t aG E a6 w' dS)⟩
 unfold wpOp
 rw[show L.toArray[j]? =some o from by simpa using an]
 simp only
 rcases ah E a w af with⟨e9,aq⟩|⟨e9,t,aT,aq⟩
 ·rw[if_pos e9]
  exact .inl (aq _ _ fun t aG a6 w' dS aj=>.inr (next t aG a6 w' dS aj))
 ·rw[if_neg (by rw[e9];decide)]
  exact .inr (next t aT _ _ aq (fL.refl w))
def J8(P:Program)(G:aY)(ops:Array Oper)(o:Oper)(s:aM)(A:aM→Prop):Prop:=∀E a w,Rel E G s a w→
 Region.wanted o (yielded ops a.tmps)=true∧∀(K:Act→World→Prop) (Q:Exit→Act→World→Prop),(∀t,A t→∀a6 w',Rel E G t a6 w'→K a6 w')→o.wp P a w K Q
theorem fi.zbb{L:List Oper}{Q:Exit→aM→Prop}{wr:List Bool}{fuel:Nat}{m:List Bool}{s:aM}{A:aM→Prop}{i:Nat}{o:Oper}(an:L[i]? =some o)(h:Region.ready .any L.toArray m.toArray=[i])(hw:wr.getD i false=true)
 (ah:J8 P G L.toArray o s A)(k: ∀t,A t→fi P G L Q wr fuel (m.set i true) t):fi P G L Q wr (fuel+1) m s:=by
 intro E a w af
 refine⟨fun hn=>(by rw[h]at hn;cases hn),fun j ai=>?_⟩
 rw[h]at ai
 rcases List.mem_cons.1 ai with rfl|ai
 rotate_left
 ·cases ai
 have eU:m.toArray.setIfInBounds j true=(m.set j true).toArray:=by simp
 have next: ∀t,A t→∀a6 w',Rel E G t a6 w'→wr.getD j false=true∧wpAny P .any L.toArray (lift E G (nK Q)) fuel (m.toArray.setIfInBounds j true) a6 w':=fun t aG a6 w' dS=>by
  rw[eU];exact⟨hw,(k t aG).cP E a6 w' dS⟩
 unfold wpOp
 rw[show L.toArray[j]? =some o from by simpa using an]
 simp only
 obtain⟨e9,aq⟩:=ah E a w af
 rw[if_pos e9]
 exact .inl (aq _ _ fun t aG a6 w' dS=>.inl (next t aG a6 w' dS))
theorem j8.call{ops:Array Oper}{o:Oper}{s:aM}{x:Operand}{xs:Array Operand}{ts:Array TypeId}(an:o.op= .call {callee:=.value x,args:=xs,argTypes:=ts}){f:FuncId}{p q:List aD}(hx:aI G s x= .fn (.func f) p q)(gf:mT P f=true)
 (ag:dT ops s o=some true)(ox:eL (p++xs.toList.map (aI G s)++q)=true){R:aD→bz→Prop}(hc:dI P G f (p++xs.toList.map (aI G s)++q) [] 0 R){A:aM→Prop}(gC: ∀r bO,R r bO→ff r=true∧A (s.put o.dst r)):j8 P G ops o s A:=by
 intro E a w ⟨β,ro,h⟩
 refine .inl ⟨nJ ⟨β,ro,h⟩ ag,fun K Q hK=>?_⟩
 have jo:=h.eval x
 rw[hx]at jo
 generalize he:a.eval x=BI at jo
 cases jo with
 |fn _ _ _ c d aa ae lh zf=>
  unfold Oper.wp;simp only[execOp,an,resolve,he,Deferred.ofValue,Sem.run_bind,Sem.run_pure,Result.andThen_ok,invoke];rw[BG gf]
  have gO:=hc w β ro (c++xs.map a.eval++d) (by simp[aa,ae,Nat.add_assoc]) (fun i y ax=>nG (PH (x:=x) (f:=.func f) h aa ae lh zf i y ax) (mS ox ax))
   ⟨by simp[aE],by simp[aE],fun b _ ⟨_,_,ag,_⟩=>by simp[aE]at ag,h.heap.lt⟩ h.hT (by simp[aE])
  refine Calls.mono gO fun e w' aJ=>?_
  obtain⟨v,r,bO,dR,ro',cO,rfl,af,dk,hs,cq⟩:=aJ;obtain⟨zbc,cV⟩:=gC r bO af
  have jH: ∀b,¬Own ([]:bz) β b:=fun b ⟨_,_,ag,_⟩=>by simp[aE]at ag
  have lE: ∀b,b<w.heap.size→w'.heap[b]? =w.heap[b]? :=fun b ad=>cq.frame b ad (jH b)
  have cZ:=h.grow (w':=w') (ro':=ro') cq.os cq.tape cq.output cq.size lE cq.jL (fun b ad=>by
   rcases cq.iM b ad with q|q|q
   ·exact .inl q
   ·exact absurd q (jH b)
   ·exact .inr ⟨q,hs.lt b ad⟩)
  exact hK _ cV _ _ ⟨β,ro',cZ.put o.dst r v (nG dk zbc)⟩ lE
theorem bW.zbd{id:Nat}{L:List Oper}{Q:Exit→aM→Prop}{wr:List Bool}{s:aM}(n:Nat)(h:fi P G L Q wr n (List.replicate n false) s)(n6:P.follows .mixedOrders=true)(hn:Nat.beq L.length n=true):bW P G (.region id L.toArray true) Q s:=bW.Yu n h.cP n6 hn
end
end Go.aL
