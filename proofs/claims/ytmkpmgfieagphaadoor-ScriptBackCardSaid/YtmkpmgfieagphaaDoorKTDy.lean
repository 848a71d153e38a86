/- TD, part V: loops that count: how they are made, their parts. Conditions: none. -/
import Derived.Test.YtmkpmgfieagphaaDoorKTDu
import Derived.Test.YtmkpmgfieagphaaDoorKTDb
namespace Go.aG
open Go
def ay.ends:ay→List (bH × aq)
 | .cc x S=>[(x,S)]
 | .lt _ _ t=>t.ends
 | .eW _ t=>t.ends
 | .it _ a b=>a.ends++b.ends
 | .c3 _ a _ k=>a.ends++k.ends
 | .dJ _ _ _ _ _ a k=>a.ends++k.ends
 | .eh _ _ _ a k=>a.ends++k.ends
 | .bad _=>[]
def b2(S:aq):fa→List gE
 |[]=>[]
 |(i,r,p)::l=>⟨i,r,p.cH S,p⟩::b2 S l
def uE(kx j:Nat):List bJ→Bool
 |[]=>false
 | .d2 i (.ic .add .i64 .i64) x y::r=>match Nat.beq i j&&(fi x (.bb (.int .i64) kx)&&fi y (.cs (.int .i64 1)))with
  |true=>true
  |false=>uE kx j r
 |_::r=>uE kx j r
def AQ(kx bI:Nat)(aN:aq):Bool:=
 match aN.at bI with
 | .bb (.int .i64) j=>uE kx j aN.g
 |_=>false
def ln(J:fJ)(n:Nat):fJ:=⟨J.l,J.h,n,J.ps⟩
def sA(n:Nat):List (Nat × ab)→Bool
 |[]=>true
 |(_,x)::r=>ab.pB n x&&sA n r
def AR(J:fJ)(aR kx bI:Nat)(aN:aq):Bool:=ik (ln J (Nat.max aN.n J.n)) aR aN&&AQ kx bI aN
def qT(J bV:fJ)(aR kx bI cur:Nat):List (bH × aq)→Bool
 |[]=>true
 |(.bY,aN)::r=>AR J aR kx bI aN&&qT J bV aR kx bI cur r
 |(.ext m,aN)::r=>(match Nat.beq m cur with
  |true=>ik bV aR aN
  |false=>true)&&qT J bV aR kx bI cur r
 |_::r=>qT J bV aR kx bI cur r
def AS(dt:aq):fa→Bool
 |[]=>true
 |(i,r,p)::l=>fi (p.cH dt) (.bb r i)&&AS dt l
def ay.uF(cur:Nat):ay→Option aq
 | .lt _ _ t=>t.uF cur
 | .cc (.ext m) S=>match Nat.beq m cur with
  |true=>some S
  |false=>none
 |_=>none
structure nN where
 J:fJ
 bV:fJ
 bI:Nat
 y:ab
def nN.kx(I:nN)(S:aq):Nat:=S.k+I.J.ps.length
def nN.H(I:nN)(S:aq):aq:=aq.put ⟨eJ I.J.l,I.J.h,I.J.n,I.kx S+1,.rg (I.kx S) I.y::S.g⟩ (some I.bI) (.bb (.int .i64) (I.kx S))
def nN.E(I:nN)(S:aq):aq:=aq.put ⟨eJ I.J.l,I.J.h,I.J.n,I.kx S,S.g⟩ (some I.bI) I.y
def AT(S:aq)(x:ab):Nat→Bool
 |0=>false
 |n+1=>fi (S.at n) x||AT S x n
def lenOf(j:Nat):List bJ→Option (bC × ab)
 |[]=>none
 | .d1 i (.hU c) x::r=>match Nat.beq i j with
  |true=>some (c,x)
  |false=>lenOf j r
 |_::r=>lenOf j r
def wF(c:bC)(x:ab):Bool:=
 match x.rt with
 |some (.li d)=>decide (d=c)
 |_=>false
def xx(N:Nat)(S:aq)(y:ab):List fA:=
 match y with
 | .cs (.int .i64 n)=>match decide (0≤n∧n<9223372036854775808)with
  |true=>[]
  |false=>[.nth 9223372036854775808 y]
 | .bb (.int .i64) j=>match lenOf j S.g with
  |some (c,x)=>match AT S x N&&wF c x with
   |true=>[]
   |false=>[.nth 9223372036854775808 y]
  |none=>[.nth 9223372036854775808 y]
 |y=>[.nth 9223372036854775808 y]
def isInt(y:ab):Bool:=
 match y.rt with
 |some (.int .i64)=>true
 |_=>false
def Mg(N B cur:Nat)(S:aq)(I:nN)(t1 t2:ay):Bool:=
 (hh S.k I.J.ps&&(pA (I.kx S) I.J.l&&ei (I.kx S) I.J.h))&&((fi (S.at I.bI) (.cs (.int .i64 0))&&(isInt I.y&&I.y.lt S.k))&&
 ((ik (ln I.J (Nat.max S.n I.J.n)) S.k S&&(sA I.J.n I.J.l&&mw I.J.n I.J.h))&&((Nat.blt I.bI N&&Nat.ble B I.J.n)&&
 (qT I.J ⟨I.bV.l,I.bV.h,I.bV.n,I.J.ps⟩ S.k (I.kx S) I.bI cur t1.ends&&((pA (I.kx S) I.bV.l&&ei (I.kx S) I.bV.h)&&(match t2.uF cur with
  |some dt=>ik ⟨I.bV.l,I.bV.h,I.bV.n,I.J.ps⟩ S.k dt&&AS dt I.J.ps
  |none=>false))))))
def Mh(N B cur:Nat)(S:aq)(I:nN)(t1 t2:ay):ay:=
 match Mg N B cur S I t1 t2 with
 |true=>emit S.k [] (xx N S I.y) (.dJ (t1.lvl+1) cur (.pj (.int .i64) I.y) (I.kx S) (b2 S I.J.ps) (t1.rel (e8 (t1.lvl+1))) (.cc (.ext cur) ⟨eJ I.bV.l,I.bV.h,I.bV.n,I.kx S,S.g⟩))
 |false=>.bad (uD t1.lW 60)
def uG(N B:Nat)(f:aq→ay)(cur:Nat)(S:aq)(I:nN):ay:=Mh N B cur S I (f (I.H S)) (f (I.E S))
section
variable {P:Program} {G:aY} {N B:Nat} {M:List bc}
theorem mz: ∀{t:ay} {x:bH} {e aw:Env} {S:aq},run M t e=some (x,S,aw)→(x,S)∈t.ends
 | .cc x S0,_,e,aw,S,h=>by
  simp only[run,ay.fold]at h;cases h;simp[ay.ends]
 | .lt _ _ t,_,_,_,_,h=>mz (t:=t) h
 | .eW _ t,_,_,_,_,h=>mz (t:=t) h
 | .it c a b,_,e,aw,S,h=>by
  simp only[run,ay.fold]at h;simp only[ay.ends,List.mem_append]
  cases hc:c.aD e .bool with
  |true=>rw[hc]at h;exact .inl (mz (t:=a) h)
  |false=>rw[hc]at h;exact .inr (mz (t:=b) h)
 | .c3 n a ps k,y,e,aw,S,h=>by
  simp only[ay.ends,List.mem_append]
  cases ae:run M a e with
  |none=>unfold run at h;rw[qz ae]at h;cases h
  |some l=>
   obtain⟨x,aN,aC⟩:=l
   cases hx:x.bu n with
   |true=>
    unfold run at h;rw[oq ae hx]at h;exact .inr (mz (t:=k) h)
   |false=>
    unfold run at h;rw[lP ae hx]at h;cases h;exact .inl (mz (t:=a) ae)
 | .dJ m xid cQ bI ca a k,y,e,aw,S,h=>by
  rw[Ah]at h;simp only[ay.ends,List.mem_append]
  cases an:bS (fun i (v:bB ca)=>cx M m xid ca a (a7 (aZ.put e bI ⟨.int .i64,(i:Int)⟩) ca v) v) 0 (b1 (cQ.den M e)).toNat (bQ _ (c9 e ca))with
  |inl r=>
   rw[an]at h
   have h:r=some (y,S,aw):=h
   subst h;obtain⟨i,v,ad⟩:=Fy an;exact .inl (mz (t:=a) (Ag ad))
  |inr v=>rw[an]at h;exact .inr (mz (t:=k) h)
 | .eh m xid ca a k,y,e,aw,S,h=>by
  rw[Ai]at h;simp only[ay.ends,List.mem_append]
  cases an:b3 (fun(v:bB ca)=>cx M m xid ca a (a7 e ca v) v) cX (bQ _ (c9 e ca))with
  |inl r=>
   rw[an]at h
   have h:r=some (y,S,aw):=h
   subst h;obtain⟨v,ad⟩:=Fz an;exact .inl (mz (t:=a) (Ag ad))
  |inr v=>rw[an]at h;exact .inr (mz (t:=k) h)
 | .bad _,_,_,_,_,h=>by cases h
theorem Mi(S:aq)(e:Env): ∀ca:List gE,dm (pn ca) (bQ (pn ca) (eX S e ca))=eX S e ca
 |[]=>rfl
 |[a]=>by simp only[pn,eX,bQ,dm,cA]
 |a::b::l=>by
  have:=Mi S e (b::l)
  simp only[pn,eX]at this;simp only[pn,eX,bQ,dm,cA,this]
theorem Ge{S:aq}{e:Env}: ∀{ps:fa},c9 e (b2 S ps)=eX S e (b2 S ps)
 |[]=>rfl
 |(_,_,_)::l=>by simp only[b2,c9,eX,Ge (ps:=l)]
theorem xy{S0 aN:aq}{e aC:Env}{ps:fa}:a7 e (b2 S0 ps) (bQ _ (eX aN aC (b2 S0 ps)))=fg e (fun r p=>⟨r,(p.cH aN).get aC r⟩) ps:=by
 unfold a7
 rw[Mi]
 induction ps generalizing e with
 |nil=>rfl
 |cons q l aO=>
  obtain⟨i,r,p⟩:=q;simp only[b2,eX,po,fg];exact aO
theorem Mj{i:Nat}: ∀{ca:List gE} {e:Env} {ds:List aS},(∀a∈ca,a.i≠i)→Env.at (po e ca ds) i=Env.at e i
 |[],_,[],_=>rfl
 |[],_,_::_,_=>rfl
 |_::_,_,[],_=>rfl
 |a::l,e,d::ds,h=>by
  simp only[po];rw[Mj (ca:=l) fun b ad=>h b (by simp[ad]),Env.jg,if_neg (h a (by simp))]
theorem Mk{S:aq}: ∀{ps:fa} {k:Nat},hh k ps=true→∀a∈b2 S ps,k≤a.i∧a.i<k+ps.length
 |(j,r,p)::l,k,h,a,aI=>by
  simp only[hh,Bool.and_eq_true]at h
  have ai:=Nat.eq_of_beq_eq_true h.1
  simp only[b2]at aI
  rcases List.mem_cons.1 aI with rfl|aI
  ·simp only[List.length_cons];omega
  ·have:=Mk (k:=k+1) h.2.2 a aI
   simp only[List.length_cons];omega
 |[],_,_,a,aI=>by cases aI
theorem uH{S:aq}{e:Env}{ps:fa}{k i:Nat}{v:bB (b2 S ps)}(h:hh k ps=true)(hi:i<k∨k+ps.length≤i):Env.at (a7 e (b2 S ps) v) i=Env.at e i:=
 Mj fun a aI=>by have:=Mk h a aI;omega
theorem Ml{S:aq}: ∀{ps:fa} {k:Nat} {e:Env} {v:bB (b2 S ps)},hh k ps=true→∀{i:Nat} {r:aU} {p:dN},hX ps i=some (r,p)→(Env.at (a7 e (b2 S ps) v) i).r=r
 |[],_,_,_,_,_,_,_,ak=>by cases ak
 |[(j,dW,ft)],k,e,v,h,i,r,p,ak=>by
  simp only[hX]at ak
  split at ak
  ·rename_i ad
   cases ak;rw[←Nat.eq_of_beq_eq_true ad];simp only[a7,b2,pn,dm,po];rw[Env.jg,if_pos rfl]
  ·cases ak
 |(j,dW,ft)::q::l,k,e,v,h,i,r,p,ak=>by
  simp only[hh,Bool.and_eq_true]at h
  have ai:=Nat.eq_of_beq_eq_true h.1
  obtain⟨b8,c4,kV⟩:=q
  have ah:a7 e (b2 S ((j,dW,ft)::(b8,c4,kV)::l)) v=a7 (aZ.put e j ⟨dW,v.1⟩) (b2 S ((b8,c4,kV)::l)) v.2:=rfl
  have af:hh (k+1) ((b8,c4,kV)::l)=true:=by
   simp only[hh,Bool.and_eq_true];exact h.2.2
  simp only[hX]at ak
  split at ak
  ·rename_i ad
   cases ak
   have:=Nat.eq_of_beq_eq_true ad
   rw[ah];refine(congrArg aS.r (uH (S:=S) (e:=aZ.put e j ⟨dW,v.1⟩) (ps:=(b8,c4,kV)::l) (k:=k+1) (i:=i) (v:=v.2) af (.inl (by omega)))).trans ?_
   rw[Env.jg,if_pos this]
  ·rw[ah]
   exact Ml (S:=S) (e:=aZ.put e j ⟨dW,v.1⟩) (ps:=(b8,c4,kV)::l) (k:=k+1) (v:=v.2) af ak
theorem Mm{f:aU→dN→aS}{i:Nat}: ∀{ps:fa} {e aw:Env},Env.at e i=Env.at aw i→Env.at (fg e f ps) i=Env.at (fg aw f ps) i
 |[],_,_,h=>h
 |(j,r,p)::l,e,aw,h=>by
  simp only[fg];refine Mm (ps:=l) ?_
  rw[Env.jg,Env.jg,h]
theorem Va{c:Code}{R A:Type}{n:Nat}{b:Nat→A→Step R A}{a0:A}{hd:Nat→A→aJ}{Q:Exit→aJ→Prop}{cV:aJ}{I:Nat→A→Prop}
    (aP:cw cV (hd 0 a0))(hi:I 0 a0)
    (ae: ∀k a,k<n→I k a→bS b 0 n a0=bS b k (n-k) a→bL P G c (fun e st=>match e with
      | .normal=>∃aW,b k a= .bP aW∧I (k+1) aW∧cw st (hd (k+1) aW)
      |e=>Q e st) (hd k a))
    (he: ∀a,I n a→bS b 0 n a0= .inr a→bL P G c (fun e st=>match e with
      | .normal=>False
      |e=>Q e st) (hd n a)):bL P G (.loop c) Q cV:=by
  refine bL.loop (ι:=Nat × A) (fun x=>hd x.1 x.2) (fun x=>x.1≤n∧bS b 0 n a0=bS b x.1 (n-x.1) x.2∧I x.1 x.2) (fun x=>n-x.1) (0,a0) aP ⟨Nat.zero_le _,rfl,hi⟩ ?_
  rintro⟨k,a⟩ ⟨aj,fm,b5⟩
  simp only at aj fm b5⊢
  by_cases nj:k<n
  · refine bL.mono (ae k a nj b5 fm) fun e st ah=>?_
    cases e with
    |normal=>
      obtain⟨aW,aa,ar,af⟩:=ah;exact⟨(k+1,aW),⟨nj,SZ fm nj aa,ar⟩,by show n-(k+1)<n-k;omega,af⟩
    |_=>exact ah
  · have:k=n:=by omega
    subst this;refine bL.mono (he a b5 (S3 fm (Nat.le_refl _))) fun e st ah=>?_
    cases e with
    |normal=>exact ah.elim
    |_=>exact ah
theorem cw.low{aL:List az}{h:bp}{m n b:Nat}(aa:j7 n aL=true)(af:j8 n h=true)(ar:b≤n):cw ⟨aL,h,m,b⟩ ⟨aL,h,n,b⟩:=by
 intro E G a w ⟨β,ro,ae⟩
 refine⟨β,ro,ae.defers,ae.size,fun i x hx=>?_,⟨fun id o ag=>?_,ae.heap.inj,ae.heap.fe,ae.heap.lt⟩,ae.ha,?_,ae.base⟩
 ·exact(ae.slot i x hx).lower (o5 aa hx)
 ·have ao:=ae.heap.cL id o ag
  obtain⟨_,vX⟩:=o6 af ag
  cases ao with
  |box t cs b arr aC a6 ck eT=>exact .box t cs b arr aC a6 ck fun j x ai=>(eT j x ai).lower (o5 (vX t cs rfl) ai)
  |row t n es xs aC a6 ck=>exact .row t n es xs aC a6 ck
  |fG t n es aC=>exact .fG t n es aC
  |bO br b o aC a6 ck=>exact .bO br b o aC a6 ck
 ·have t:=ae.trans
  exact⟨t.os,t.tape,t.output,t.size,t.frame,t.h3,t.iV,t.gm,t.dj,fun id o ag=>(o6 af ag).1,Nat.le_trans ae.base ar⟩
theorem Gf{n:Nat}{e:Env}{l:aZ ab}(h: ∀i x,l.get i=some x→ab.pB n x=true): ∀(k i:Nat),j7 n (ji G e l i k)=true
 |0,_=>rfl
 |k+1,i=>by
  simp only[ji,j7,Gf h k (i+1),Bool.and_true]
  cases ag:l.get i with
  |none=>rfl
  |some x=>exact AB (h i x ag)
theorem Gg{n:Nat}: ∀{l:List (Nat × ab)},sA n l=true→∀{i:Nat} {x:ab},(i,x)∈l→ab.pB n x=true
 |(_,_)::r,h,i,x,hm=>by
  simp only[sA,Bool.and_eq_true]at h
  rcases List.mem_cons.1 hm with q|q
  ·cases q;exact h.1
  ·exact Gg h.2 q
theorem Mn{J:fJ}{aR kx bI j:Nat}{S0 aN:aq}{e aC:Env}{k:Nat}{g g':List bJ}(ak:hh aR J.ps=true)(pF:kx=aR+J.ps.length)(an:pA kx J.l=true)(aV:ei kx J.h=true)
 (mZ: ∀c∈aN.g,c.ok aC)(h:ik (ln J (Nat.max aN.n J.n)) aR aN=true)(hQ:sA J.n J.l=true)(od:mw J.n J.h=true)(gi:B≤J.n)(AU:bI<N)(bs:bM aR e aC)(av:(aN.at bI).den G aC= .au (.v (.int .i64 (j:Int)))):
 cw (aN.den G N B aC) ((aq.put ⟨eJ J.l,J.h,J.n,k,g⟩ (some bI) (.bb (.int .i64) kx)).den G N B (a7 (aZ.put e kx ⟨.int .i64,(j:Int)⟩) (b2 S0 J.ps) (bQ _ (eX aN aC (b2 S0 J.ps))))):=by
 have aa:=FB (G:=G) (N:=N) (B:=B) (J:=ln J (Nat.max aN.n J.n)) ak mZ h (g:=g') bs
 have af:=aa.put (i:=bI) (x:=.v (.int .i64 (j:Int))) (by rw[sb,if_pos AU,av])
 refine af.le.trans ?_
 rw[xy,fh]
 have Vb:Env.at (fg (aZ.put e kx ⟨.int .i64,(j:Int)⟩) (fun r p=>⟨r,(p.cH aN).get aC r⟩) J.ps) kx=⟨.int .i64,(j:Int)⟩:=by
  rw[←xy (S0:=S0),uH ak (.inr (by omega)),Env.jg,if_pos rfl]
 have Mo:(ab.bb (.int .i64) kx).den G (fg (aZ.put e kx ⟨.int .i64,(j:Int)⟩) (fun r p=>⟨r,(p.cH aN).get aC r⟩) J.ps)= .au (.v (.int .i64 (j:Int))):=by
  simp only[ab.den,Vb,cA,fz,kD]
 rw[Mo]
 have cW:bM kx (fg e (fun r p=>⟨r,(p.cH aN).get aC r⟩) J.ps) (fg (aZ.put e kx ⟨.int .i64,(j:Int)⟩) (fun r p=>⟨r,(p.cH aN).get aC r⟩) J.ps):=fun i hi=>
  Mm (by rw[Env.jg,if_neg (by omega)])
 have oD:(⟨eJ J.l,J.h,J.n,kx,[]⟩:aq).cd:=⟨fun i x hx=>qL an (nF hx),aV,rfl⟩
 have aj:=ki (G:=G) (N:=N) (B:=B) (S:=⟨eJ J.l,J.h,J.n,kx,[]⟩) cW oD
 have ar:(aq.mk (eJ J.l) J.h J.n k g).den G N B (fg (aZ.put e kx ⟨.int .i64,(j:Int)⟩) (fun r p=>⟨r,(p.cH aN).get aC r⟩) J.ps)=(aq.mk (eJ J.l) J.h J.n kx []).den G N B (fg e (fun r p=>⟨r,(p.cH aN).get aC r⟩) J.ps):=aj
 rw[ar]
 refine cw.low (m:=Nat.max aN.n J.n) ?_ ?_ gi
 ·have:=Gf (G:=G) (e:=fg (aZ.put e kx ⟨.int .i64,(j:Int)⟩) (fun r p=>⟨r,(p.cH aN).get aC r⟩) J.ps) (n:=J.n) (l:=(eJ J.l).put bI (.bb (.int .i64) kx)) (fun i x hx=>by
   rw[aZ.jf]at hx
   split at hx
   ·cases hx;rfl
   ·exact Gg hQ (nF hx)) N 0
  rw[Ey,Mo]at this
  have td:ji G (fg (aZ.put e kx ⟨.int .i64,(j:Int)⟩) (fun r p=>⟨r,(p.cH aN).get aC r⟩) J.ps) (eJ J.l) 0 N=ji G (fg e (fun r p=>⟨r,(p.cH aN).get aC r⟩) J.ps) (eJ J.l) 0 N:=congrArg aJ.cl aj
  rw[td]at this;exact this
 ·exact uw od
end
end Go.aG
namespace Go.aG
open Go
section
variable {P:Program} {G:aY} {N B:Nat} {M:List bc}
theorem Mp{S:aq}{x:ab}: ∀{n:Nat},AT S x n=true→∃i,i<n∧S.at i=x
 |n+1,h=>by
  simp only[AT,Bool.or_eq_true]at h
  rcases h with h|h
  ·exact⟨n,Nat.lt_succ_self n,fC h⟩
  ·obtain⟨i,aa,af⟩:=Mp h
   exact⟨i,by omega,af⟩
theorem xz{j:Nat}{c:bC}{x:ab}{e:Env}: ∀{l:List bJ},lenOf j l=some (c,x)→(∀c∈l,c.ok e)→Env.at e j=⟨.int .i64,(List.length (x.aD e (.li c)):Int)⟩
 | .d1 i f y::r,h,hc=>by
  have ae: ∀{c x},lenOf j r=some (c,x)→Env.at e j=⟨.int .i64,(List.length (x.aD e (.li c)):Int)⟩:=fun h=>xz h fun c hm=>hc c (by simp[hm])
  have aP:=hc (.d1 i f y) (by simp)
  cases f with
  |hU d=>
   simp only[lenOf]at h
   split at h
   ·rename_i ad
    cases h;rw[←Nat.eq_of_beq_eq_true ad];exact aP
   ·exact ae h
  |_=>exact ae h
 | .d2 _ _ _ _::r,h,hc=>xz (l:=r) h fun c hm=>hc c (by simp[hm])
 | .rg _ _::r,h,hc=>xz (l:=r) h fun c hm=>hc c (by simp[hm])
 | .dp _ _::r,h,hc=>xz (l:=r) h fun c hm=>hc c (by simp[hm])
theorem Vc{S:aq}{y:ab}{e:Env}{Mq:Entry}{a:Act}{w:World}(hf:S.cf e)(h: ∀n∈xx N S y,n.ok M e)(ae:Rel Mq G (S.den G N B e) a w):0≤b1 (y.dyn e)∧b1 (y.dyn e)<9223372036854775808:=by
 have key:(fA.nth 9223372036854775808 y).ok M e→0≤b1 (y.dyn e)∧b1 (y.dyn e)<9223372036854775808:=fun h=>h
 unfold xx at h
 split at h
 ·rename_i n
  split at h
  ·rename_i hd
   exact of_decide_eq_true hd
  ·exact key (h _ (by simp))
 ·rename_i j
  split at h
  ·rename_i c x an
   split at h
   ·rename_i ad
    simp only[Bool.and_eq_true]at ad;obtain⟨i,hi,hx⟩:=Mp ad.1
    have aa:=xz an hf
    have Vd:x.rt=some (.li c):=by
     have:=ad.2
     unfold wF at this
     split at this
     ·rename_i d hd
      rw[hd,of_decide_eq_true this]
     ·cases this
    have af:=gg (G:=G) (e:=e) Vd
    have sB:aE G (S.den G N B e) (.tmp i)= .au (.li c (x.aD e (.li c))):=by
     simp only[aE,List.getD_eq_getElem?_getD,sb,if_pos hi,hx,af]
     rfl
    have:=Tj ae sB
    have hd:b1 ((ab.bb (.int .i64) j).dyn e)=(List.length (x.aD e (.li c)):Int):=by
     simp only[ab.dyn,aa,cA,b1]
    rw[hd];omega
   ·exact key (h _ (by simp))
  ·exact key (h _ (by simp))
 ·exact key (h _ (by simp))
theorem xA{kx j:Nat}{e:Env}: ∀{l:List bJ},uE kx j l=true→(∀c∈l,c.ok e)→Env.at e j=⟨.int .i64,IntKind.i64.wrap (((Env.at e kx).as (.int .i64):Int)+1)⟩
 | .d2 i f x y::r,h,hc=>by
  have ae:uE kx j r=true→Env.at e j=⟨.int .i64,IntKind.i64.wrap (((Env.at e kx).as (.int .i64):Int)+1)⟩:=fun h=>xA h fun c hm=>hc c (by simp[hm])
  have aP:=hc (.d2 i f x y) (by simp)
  unfold uE at h
  split at h
  ·cases h
  ·rename_i heq
   cases heq
   split at h
   ·rename_i ad
    simp only[Bool.and_eq_true]at ad;rw[←Nat.eq_of_beq_eq_true ad.1]
    have aP:Env.at e i=_:=aP
    rw[aP,fC ad.2.1,fC ad.2.2];simp only[bW.den,ab.aD,ab.fu,ab.dyn,cA,bK]
   ·exact ae h
  ·rename_i heq
   cases heq;exact ae h
 | .d1 _ _ _::r,h,hc=>xA (l:=r) h fun c hm=>hc c (by simp[hm])
 | .rg _ _::r,h,hc=>xA (l:=r) h fun c hm=>hc c (by simp[hm])
 | .dp _ _::r,h,hc=>xA (l:=r) h fun c hm=>hc c (by simp[hm])
theorem Ve{kx bI:Nat}{aN:aq}{e:Env}{i:Nat}(h:AQ kx bI aN=true)(hf:aN.cf e)(aj:Env.at e kx=⟨.int .i64,(i:Int)⟩)(hi:(i:Int)<9223372036854775807):(aN.at bI).den G e= .au (.v (.int .i64 ((i+1:Nat):Int))):=by
 unfold AQ at h
 split at h
 ·rename_i j hx
  have:=xA h hf
  rw[hx];simp only[ab.den,this,cA,aj,fz,kD];rw[SK (by omega)]
 ·cases h
theorem Mr{cur:Nat}: ∀{t:ay} {e:Env} {S:aq},t.uF cur=some S→t.safe M e∧∃aw,run M t e=some (.ext cur,S,aw)
 | .lt _ _ t,e,S,h=>Mr (t:=t) h
 | .cc x S0,e,S,h=>by
  refine⟨trivial,?_⟩
  unfold ay.uF at h
  split at h
  ·rename_i heq;cases heq
  ·rename_i m cZ heq
   cases heq
   split at h
   ·rename_i ad
    cases h;rw[←Nat.eq_of_beq_eq_true ad];exact⟨e,rfl⟩
   ·cases h
  ·cases h
 | .eW _ _,_,_,h=>by cases h
 | .it _ _ _,_,_,h=>by cases h
 | .c3 _ _ _ _,_,_,h=>by cases h
 | .dJ _ _ _ _ _ _ _,_,_,h=>by cases h
 | .eh _ _ _ _ _,_,_,h=>by cases h
 | .bad _,_,_,h=>by cases h
theorem Ms{dt:aq}: ∀{ps:fa},AS dt ps=true→∀{i:Nat} {r:aU} {p:dN},hX ps i=some (r,p)→p.cH dt= .bb r i
 |(j,dW,ft)::l,h,i,r,p,ak=>by
  simp only[AS,Bool.and_eq_true]at h;simp only[hX]at ak
  split at ak
  ·rename_i ad
   cases ak;rw[fC h.1,Nat.eq_of_beq_eq_true ad]
  ·exact Ms h.2 ak
theorem Mt{J bV:fJ}{aR kx bI cur:Nat}: ∀{l:List (bH × aq)},qT J bV aR kx bI cur l=true→∀{x:bH} {aN:aq},(x,aN)∈l→(x= .bY→AR J aR kx bI aN=true)∧(x= .ext cur→ik bV aR aN=true)
 |(y,dt)::r,h,x,aN,hm=>by
  have aV:qT J bV aR kx bI cur r=true∧(y= .bY→AR J aR kx bI dt=true)∧(y= .ext cur→ik bV aR dt=true):=by
   cases y with
   |bY=>
    simp only[qT,Bool.and_eq_true]at h;exact⟨h.2,fun _=>h.1,fun e=>(by cases e)⟩
   |ext m=>
    simp only[qT,Bool.and_eq_true]at h;refine⟨h.2,fun e=>(by cases e),fun e=>?_⟩
    cases e
    have aa:=h.1
    rw[Nat.beq_refl]at aa;exact aa
   |ret=>exact⟨h,fun e=>(by cases e),fun e=>(by cases e)⟩
   |kg m=>exact⟨h,fun e=>(by cases e),fun e=>(by cases e)⟩
  rcases List.mem_cons.1 hm with q|q
  ·cases q;exact aV.2
  ·exact Mt aV.1 q
theorem bL.rel{c:Code}{Q:Exit→aJ→Prop}{s:aJ}(h:(∃E a w,Rel E G s a w)→bL P G c Q s):bL P G c Q s:=fun E a w ae=>h ⟨E,a,w,ae⟩ E a w ae
theorem Vf{ps:fa}: ∀{k i:Nat},hh k ps=true→k≤i→i<k+ps.length→∃r p,hX ps i=some (r,p):=by
 induction ps with
 |nil=>intro k i _ aa af;simp at af;omega
 |cons q l aO=>
  obtain⟨j,r,p⟩:=q;intro k i h aa af;simp only[hh,Bool.and_eq_true]at h
  have ai:=Nat.eq_of_beq_eq_true h.1
  simp only[hX]
  split
  ·exact⟨r,p,rfl⟩
  ·rename_i ad
   refine aO h.2.2 ?_ (by simp only[List.length_cons]at af;omega)
   have:j≠i:=fun e=>by rw[e,Nat.beq_refl]at ad;cases ad
   omega
theorem Mu{i:Nat}: ∀{ca:List gE} {e aw:Env} {ds:List aS},Env.at e i=Env.at aw i→Env.at (po e ca ds) i=Env.at (po aw ca ds) i
 |[],_,_,[],h=>h
 |[],_,_,_::_,h=>h
 |_::_,_,_,[],h=>h
 |a::l,e,aw,d::ds,h=>by
  simp only[po];refine Mu (ca:=l) ?_
  rw[Env.jg,Env.jg,h]
theorem Gh{c:Code}{f:aq→ay}(hf:jT P G N B M c f){cur:Nat}{S:aq}{I:nN}{e:Env}(ad:S.cd)(eu:S.cf e)(ah:(uG N B f cur S I).safe M e):bL P G (.loop c) (im G N B M (uG N B f cur S I) e S.k) (S.den G N B e):=by
 unfold uG Mh at ah⊢
 split at ah
 rotate_left
 ·exact ah.elim
 rename_i qU
 generalize xB:f (I.H S)=t1 at ah qU⊢
 generalize xC:f (I.E S)=t2 at qU
 simp only[Mg,Bool.and_eq_true]at qU
 obtain⟨⟨aF,ea,fU⟩,⟨kk,pE,oE⟩,⟨my,xD,xE⟩,⟨AV,pG⟩,Gi,⟨Gj,Gk⟩,xF⟩:=qU
 have AV:=eF AV
 have pG:=Nat.le_of_ble_eq_true pG
 obtain⟨fc,ey⟩:=ll ah
 have ey:(ay.dJ (t1.lvl+1) cur (.pj (.int .i64) I.y) (I.kx S) (b2 S I.J.ps) (t1.rel (e8 (t1.lvl+1))) (.cc (.ext cur) ⟨eJ I.bV.l,I.bV.h,I.bV.n,I.kx S,S.g⟩)).safe M e:=ey
 refine bL.rel fun⟨Mq,ac,w,c1⟩=>?_
 obtain⟨Vg,z2⟩:=Vc (M:=M) (e:=e) eu fc c1
 have Gl:I.y.rt=some (.int .i64):=by
  unfold isInt at pE
  split at pE
  ·assumption
  ·cases pE
 generalize gy:ay.dJ (t1.lvl+1) cur (.pj (.int .i64) I.y) (I.kx S) (b2 S I.J.ps) (t1.rel (e8 (t1.lvl+1))) (.cc (.ext cur) ⟨eJ I.bV.l,I.bV.h,I.bV.n,I.kx S,S.g⟩)=oG at ey
 have Vh:run M (emit S.k [] (xx N S I.y) oG) e=run M oG e:=kJ
 refine bL.mono (Q':=im G N B M (emit S.k [] (xx N S I.y) oG) e S.k) ?_ fun ex st h=>h
 refine bL.mono (Q:=im G N B M oG e S.k) ?_ fun ex st h=>h.sub Vh (bM.refl _ _) (Nat.le_refl _)
 have pF:I.kx S=S.k+I.J.ps.length:=rfl
 have uI:I.H S=aq.put ⟨eJ I.J.l,I.J.h,I.J.n,I.kx S+1,.rg (I.kx S) I.y::S.g⟩ (some I.bI) (.bb (.int .i64) (I.kx S)):=rfl
 have AW:I.E S=aq.put ⟨eJ I.J.l,I.J.h,I.J.n,I.kx S,S.g⟩ (some I.bI) I.y:=rfl
 generalize ig:I.kx S=kx at*
 have oD:b1 ((bG.pj (.int .i64) I.y).den M e)=b1 (I.y.dyn e):=by
  rw[lh Gl];rfl
 generalize AX:b1 (I.y.dyn e)=Z at*
 have Gm:t1.lvl<t1.lvl+1:=Nat.lt_succ_self _
 have iR:=Er Gm
 subst gy
 obtain⟨⟨Inv,Gn,AY⟩,aj⟩:=ey
 rw[oD]at AY
 have cD: ∀L,bS (fun i (v:bB (b2 S I.J.ps))=>cx M (t1.lvl+1) cur (b2 S I.J.ps) (t1.rel (e8 (t1.lvl+1))) (a7 (aZ.put e kx ⟨.int .i64,(i:Int)⟩) (b2 S I.J.ps) v) v) 0 Z.toNat (bQ _ (c9 e (b2 S I.J.ps)))=L→
  run M (ay.dJ (t1.lvl+1) cur (.pj (.int .i64) I.y) kx (b2 S I.J.ps) (t1.rel (e8 (t1.lvl+1))) (.cc (.ext cur) ⟨eJ I.bV.l,I.bV.h,I.bV.n,kx,S.g⟩)) e=Sum.elim (fun r=>r) (fun v=>some (.ext cur,⟨eJ I.bV.l,I.bV.h,I.bV.n,kx,S.g⟩,a7 e (b2 S I.J.ps) v)) L:=fun L fm=>by
  rw[Ah,oD,fm];rfl
 generalize Vi:ay.dJ (t1.lvl+1) cur (.pj (.int .i64) I.y) kx (b2 S I.J.ps) (t1.rel (e8 (t1.lvl+1))) (.cc (.ext cur) ⟨eJ I.bV.l,I.bV.h,I.bV.n,kx,S.g⟩)=oG at cD

 have uJ: ∀(i:Nat) (v:bB (b2 S I.J.ps)),bM S.k e (a7 (aZ.put e kx ⟨.int .i64,(i:Int)⟩) (b2 S I.J.ps) v):=fun i v j ai=>by
  rw[uH aF (.inl ai),Env.jg,if_neg (by omega)]
 have Gp: ∀(i:Nat) (v:bB (b2 S I.J.ps)),Env.at (a7 (aZ.put e kx ⟨.int .i64,(i:Int)⟩) (b2 S I.J.ps) v) kx=⟨.int .i64,(i:Int)⟩:=fun i v=>by
  rw[uH aF (.inr (by omega)),Env.jg,if_pos rfl]
 have Vj: ∀(i:Nat) (v:bB (b2 S I.J.ps)),bM kx (a7 (aZ.put e kx ⟨.int .i64,(i:Int)⟩) (b2 S I.J.ps) v) (a7 e (b2 S I.J.ps) v):=fun i v j ai=>by
  refine Mu ?_
  rw[Env.jg,if_neg (by omega)]
 have qV: ∀(v:bB (b2 S I.J.ps)),bM S.k e (a7 e (b2 S I.J.ps) v):=fun v j ai=>uH aF (.inl ai)
 have Vk:(I.H S).k=kx+1:=by rw[uI,jr]
 have Vl:(I.E S).k=kx:=by rw[AW,jr]
 have Mv:I.y.lt kx=true:=fT (by omega) oE
 have Gq:(I.H S).cd:=by
  rw[uI];refine jo ⟨fun i x hx=>fT (Nat.le_succ kx) (qL ea (nF hx)),sd (Nat.le_succ kx) fU,?_⟩ (iS (Nat.lt_succ_self kx))
  show(bJ.lt (kx+1) (.rg kx I.y)&&eI (kx+1) S.g)=true;simp only[bJ.lt,fT (Nat.le_succ kx) Mv,iS (Nat.lt_succ_self kx),ny (show S.k≤kx+1 by omega) ad.g,Bool.and_self]
 have Vm:(I.E S).cd:=by
  rw[AW];exact jo ⟨fun i x hx=>qL ea (nF hx),fU,ny (show S.k≤kx by omega) ad.g⟩ Mv
 have Mw: ∀aw,bM S.k e aw→b1 (I.y.dyn aw)=Z:=fun aw h=>by rw[qu h oE,AX]
 have Gr: ∀(i:Nat) (v:bB (b2 S I.J.ps)),i<Z.toNat→(I.H S).cf (a7 (aZ.put e kx ⟨.int .i64,(i:Int)⟩) (b2 S I.J.ps) v):=fun i v hi=>by
  rw[uI];refine jq fun d hd=>?_
  rcases List.mem_cons.1 hd with rfl|hd
  ·show 0≤b1 (Env.at _ kx)∧b1 (Env.at _ kx)<b1 (I.y.dyn _)
   rw[Gp,Mw _ (uJ i v)];show 0≤(i:Int)∧(i:Int)<Z;omega
  ·exact hE (uJ i v) ad.g eu d hd
 have Vn: ∀(i:Nat) (v:bB (b2 S I.J.ps)),(I.E S).cf (a7 (aZ.put e kx ⟨.int .i64,(i:Int)⟩) (b2 S I.J.ps) v):=fun i v=>by
  rw[AW];exact jq (hE (uJ i v) ad.g eu)
 have AZ: ∀cZ:aq,cZ=⟨eJ I.bV.l,I.bV.h,I.bV.n,kx,S.g⟩→cZ.cd:=fun cZ h=>by
  subst h;exact⟨fun i x hx=>qL Gj (nF hx),Gk,ny (show S.k≤kx by omega) ad.g⟩

 have oH: ∀(v:bB (b2 S I.J.ps)) (st:aJ),run M oG e=some (.ext cur,⟨eJ I.bV.l,I.bV.h,I.bV.n,kx,S.g⟩,a7 e (b2 S I.J.ps) v)→cw st ((aq.mk (eJ I.bV.l) I.bV.h I.bV.n kx S.g).den G N B (a7 e (b2 S I.J.ps) v))→im G N B M oG e S.k (.exit cur) st:=fun v st aa af=>
  ⟨.ext cur,_,_,aa,rfl,af,AZ _ rfl,hE (qV v) ad.g eu,qV v,(show S.k≤kx by omega)⟩
 refine Va (n:=Z.toNat) (b:=fun i (v:bB (b2 S I.J.ps))=>cx M (t1.lvl+1) cur (b2 S I.J.ps) (t1.rel (e8 (t1.lvl+1))) (a7 (aZ.put e kx ⟨.int .i64,(i:Int)⟩) (b2 S I.J.ps) v) v) (a0:=bQ _ (c9 e (b2 S I.J.ps)))
  (hd:=fun i v=>(I.H S).den G N B (a7 (aZ.put e kx ⟨.int .i64,(i:Int)⟩) (b2 S I.J.ps) v)) (I:=Inv) ?_ Gn (fun k v nj b5 fm=>?_) (fun v b5 fm=>?_)
 ·rw[Ge,uI]
  exact Mn (g':=S.g) aF pF ea fU eu my xD xE pG AV (bM.refl _ _) (by rw[fC kk];rfl)
 ·obtain⟨dx,dG⟩:=AY k v nj b5
  have uK:=hf (I.H S) (a7 (aZ.put e kx ⟨.int .i64,(k:Int)⟩) (b2 S I.J.ps) v) Gq (Gr k v nj) (by rw[xB];exact(kG iR).1 dx)
  refine bL.mono uK fun ex st ⟨x,aN,aC,aa,af,ar,aQ,bx,ct,dw⟩=>?_
  rw[xB]at aa;rw[Vk]at ct dw;obtain⟨m1,m2⟩:=Mt Gi (mz aa)
  have nx:run M (t1.rel (e8 (t1.lvl+1))) (a7 (aZ.put e kx ⟨.int .i64,(k:Int)⟩) (b2 S I.J.ps) v)=some (e8 (t1.lvl+1) x,aN,aC):=by rw[wM iR,aa];rfl
  have kM:cx M (t1.lvl+1) cur (b2 S I.J.ps) (t1.rel (e8 (t1.lvl+1))) (a7 (aZ.put e kx ⟨.int .i64,(k:Int)⟩) (b2 S I.J.ps) v) v=dE (t1.lvl+1) cur (b2 S I.J.ps) (fun x S e=>some (x,S,e)) (e8 (t1.lvl+1) x) aN aC:=by
   unfold cx;rw[nx]
  have sC:bM S.k e aC:=bM.trans (uJ k v) ct (by omega)
  have out: ∀ex,xf x ex→e8 (t1.lvl+1) x=x→x.bu (t1.lvl+1)=false→x.cp cur=false→im G N B M oG e S.k ex st:=fun ex af hm ai hx=>by
   rw[hm,jj ai hx]at kM
   have:=cD _ (S1 fm nj kM)
   exact⟨x,aN,aC,this,af,ar,aQ,bx,sC,by omega⟩
  cases x with
  |kg m=>cases ex<;>exact af.elim
  |ret=>cases ex<;>first|exact af.elim|exact out _ af rfl rfl rfl
  |bY=>
   cases ex with
   |normal=>
    have hx:=m1 rfl
    simp only[AR,Bool.and_eq_true]at hx;rw[mq (x:=e8 (t1.lvl+1) .bY) (show bH.bu (t1.lvl+1) (.kg (t1.lvl+1))=true from Nat.beq_refl _)]at kM
    refine⟨_,kM,dG _ (by rw[hW,kM];rfl),ar.trans ?_⟩
    simp only[uI];refine Mn (g':=S.g) aF pF ea fU bx hx.1 xD xE pG AV sC (Ve hx.2 bx ?_ (by omega))
    rw[ct kx (Nat.lt_succ_self kx),Gp]
   |_=>exact af.elim
  |ext m=>
   cases ex with
   |exit Gs=>
    have af:m=Gs:=af
    subst af
    cases hm:Nat.beq m cur with
    |false=>exact out _ rfl rfl rfl hm
    |true=>
     have:=Nat.eq_of_beq_eq_true hm
     subst this;rw[mr (x:=e8 (t1.lvl+1) (.ext m)) (show bH.bu (t1.lvl+1) (.ext m)=false from rfl) (show bH.cp m (.ext m)=true from hm)]at kM
     have xG:=cD _ (S2 fm nj kM)
     refine oH _ st xG (ar.trans ?_)
     rw[xy];exact Aq (J:=⟨I.bV.l,I.bV.h,I.bV.n,I.J.ps⟩) aF bx (m2 rfl) (g:=S.g) sC
   |_=>exact af.elim
 ·cases Gt:t2.uF cur with
  |none=>rw[Gt]at xF;cases xF
  |some dt=>
   rw[Gt]at xF;simp only[Bool.and_eq_true]at xF;obtain⟨lz,kV⟩:=xF;obtain⟨s1,a6,s2⟩:=Mr (M:=M) (e:=a7 (aZ.put e kx ⟨.int .i64,(Z.toNat:Int)⟩) (b2 S I.J.ps) v) Gt
   have uK:=hf (I.E S) (a7 (aZ.put e kx ⟨.int .i64,(Z.toNat:Int)⟩) (b2 S I.J.ps) v) Vm (Vn _ v) (by rw[xC];exact s1)
   have nI:(I.E S).den G N B (a7 (aZ.put e kx ⟨.int .i64,(Z.toNat:Int)⟩) (b2 S I.J.ps) v)=(I.H S).den G N B (a7 (aZ.put e kx ⟨.int .i64,(Z.toNat:Int)⟩) (b2 S I.J.ps) v):=by
    rw[AW,uI,fh,fh]
    have aa:I.y.den G (a7 (aZ.put e kx ⟨.int .i64,(Z.toNat:Int)⟩) (b2 S I.J.ps) v)= .au (.v (.int .i64 Z)):=by
     rw[iL Gl,←lh Gl,Mw _ (uJ _ v)]
    have af:(ab.bb (.int .i64) kx).den G (a7 (aZ.put e kx ⟨.int .i64,(Z.toNat:Int)⟩) (b2 S I.J.ps) v)= .au (.v (.int .i64 Z)):=by
     simp only[ab.den,Gp,cA,fz,kD];rw[Int.toNat_of_nonneg Vg]
    rw[aa,af];rfl
   rw[nI]at uK;refine bL.mono uK fun ex st ⟨x,aN,aC,aa,af,ar,aQ,bx,ct,dw⟩=>?_
   rw[xC,s2]at aa;cases aa;rw[Vl]at ct
   cases ex with
   |exit m=>
    have af:cur=m:=af
    subst af;refine oH v st (cD _ fm) (ar.trans ?_)
    have hle:=Aq (G:=G) (N:=N) (B:=B) (J:=⟨I.bV.l,I.bV.h,I.bV.n,I.J.ps⟩) aF bx lz (g:=S.g) (bM.trans (uJ _ v) ct (by omega):bM S.k e a6)
    refine hle.trans ?_
    have cW:bM kx (fg e (fun r p=>⟨r,(p.cH dt).get a6 r⟩) I.J.ps) (a7 e (b2 S I.J.ps) v):=fun i hi=>by
     rcases Nat.lt_or_ge i S.k with bz|hO
     ·rw[w9 aF i bz,qV v i bz]
     ·obtain⟨r,p,ak⟩:=Vf aF hO (by omega)
      rw[FA aF ak,Ms kV ak]
      have oY:=(Lv aF ak).2.2
      have ag:(ab.bb r i).get a6 r=(Env.at a6 i).as r:=by
       cases r<;>first|(simp only[ab.get,ab.aD,ab.fu,ab.dyn,cA];done)|cases oY
      rw[ag,ct i hi,←Vj Z.toNat v i hi]
      have sD:=Ml (S:=S) (e:=e) (v:=v) aF ak
      generalize Env.at (a7 e (b2 S I.J.ps) v) i=d at sD⊢;obtain⟨dW,kc⟩:=d;simp only at sD;subst sD;rw[cA]
    have F1:=AZ ⟨eJ I.bV.l,I.bV.h,I.bV.n,kx,S.g⟩ rfl
    have Vo:=ki (G:=G) (N:=N) (B:=B) (S:=⟨eJ I.bV.l,I.bV.h,I.bV.n,kx,S.g⟩) cW F1
    rw[Vo];exact cw.refl _
   |_=>exact af.elim
end
end Go.aG
namespace Go.aG
open Go
def qW(J bV:fJ)(aR cur:Nat):List (bH × aq)→Bool
 |[]=>true
 |(.bY,aN)::r=>ik (ln J (Nat.max aN.n J.n)) aR aN&&qW J bV aR cur r
 |(.ext m,aN)::r=>(match Nat.beq m cur with
  |true=>ik bV aR aN
  |false=>true)&&qW J bV aR cur r
 |_::r=>qW J bV aR cur r
def Mx(B cur:Nat)(S:aq)(J bV:fJ)(t1:ay):Bool:=
 (hh S.k J.ps&&(pA (S.k+J.ps.length) J.l&&ei (S.k+J.ps.length) J.h))&&((ik (ln J (Nat.max S.n J.n)) S.k S&&(sA J.n J.l&&mw J.n J.h))&&(Nat.ble B J.n&&(qW J ⟨bV.l,bV.h,bV.n,J.ps⟩ S.k cur t1.ends&&(pA (S.k+J.ps.length) bV.l&&ei (S.k+J.ps.length) bV.h))))
def My(B cur:Nat)(S:aq)(J bV:fJ)(t1:ay):ay:=
 match Mx B cur S J bV t1 with
 |true=>.eh (t1.lvl+1) cur (b2 S J.ps) (t1.rel (e8 (t1.lvl+1))) (.cc (.ext cur) ⟨eJ bV.l,bV.h,bV.n,S.k+J.ps.length,S.g⟩)
 |false=>.bad (uD t1.lW 61)
def A0(B:Nat)(f:aq→ay)(cur:Nat)(S:aq)(J bV:fJ):ay:=My B cur S J bV (f (J.S S.k S.g))
def xH(cur:Nat):List (bH × aq)→List aq × List aq
 |[]=>([],[])
 |(.bY,S)::r=>match xH cur r with
  |(a,b)=>(S::a,b)
 |(.ext m,S)::r=>match xH cur r with
  |(a,b)=>match Nat.beq m cur with
   |true=>(a,S::b)
   |false=>(a,b)
 |_::r=>xH cur r
def A1(S:aq):Nat→Nat→List (Nat × ab)
 |0,_=>[]
 |n+1,i=>match S.at i with
  | .top=>A1 S n (i+1)
  |x=>(i,x)::A1 S n (i+1)
def Vp(N aR cur:Nat)(S:aq)(t:ay):fJ:=
 match xH cur t.ends with
 |(a,b)=>ln (xa N aR S (a++b)) S.n
def Mz:fa→fa→Bool
 |[],[]=>true
 |(i,r,p)::l,(j,q,u)::m=>(Nat.beq i j&&iH r q)&&(mv p u&&Mz l m)
 |_,_=>false
def xI{α:Type}:List α→Nat
 |[]=>0
 |_::r=>Nat.succ (xI r)
def Vq(J K:fJ):Bool:=Mz J.ps K.ps&&(Nat.beq (xI J.l) (xI K.l)&&Nat.beq (xI J.h) (xI K.h))
def Gu(N:Nat)(f:aq→ay)(cur:Nat)(S:aq):Nat→fJ→ay→fJ × ay
 |0,J,t=>(J,t)
 |n+1,J,t=>match Vp N S.k cur S t with
  |K=>match Vq J K with
   |true=>(K,t)
   |false=>Gu N f cur S n K (f (K.S S.k S.g))
def Gv(j:Nat):List (Nat × bG)→Option bG
 |[]=>none
 |(i,x)::r=>match Nat.beq i j with
  |true=>some x
  |false=>Gv j r
inductive Gw where
 |cH (y:ab)
 |ex (x:bG)
 |none
def Vr(aR:Nat)(ds:List (Nat × bG))(y:ab):Gw:=
 match y.lt aR with
 |true=>.cH y
 |false=>match y with
  | .bb (.int .i64) j=>match Gv j ds with
   |some (.f1 .mm x)=>match x.lt aR with
    |true=>.ex (.f1 .mm x)
    |false=>.none
   |some (.f1 (.hU c) x)=>match x.lt aR with
    |true=>.ex (.f1 (.hU c) x)
    |false=>.none
   |_=>.none
  |_=>.none
def MA(aR cur i:Nat):ay→List (Nat × bG)→Gw
 | .lt j x t,ds=>MA aR cur i t ((j,x)::ds)
 | .it (.bb .bool g) _ b,ds=>match Gv g ds with
  |some (.f2 (.nt .lss .i64) (.bb (.int .i64) vZ) y)=>match Nat.beq vZ i with
   |true=>match b.uF cur with
    |some _=>Vr aR ds y
    |none=>.none
   |false=>.none
  |_=>.none
 |_,_=>.none
def MB(i s:Nat):List aq→Bool
 |[]=>true
 |S::r=>AQ i s S&&MB i s r
def Vs(x:ab):Bool:=fi x (.cs (.int .i64 0))
def A2(S:aq)(cur:Nat)(t:ay)(rD:List aq):fa→Option (Nat × Gw)
 |[]=>none
 |(i,.int .i64,.slot s [])::l=>match Vs (S.at s)&&MB i s rD with
  |true=>match MA S.k cur i t []with
   | .none=>A2 S cur t rD l
   |b=>some (s,b)
  |false=>A2 S cur t rD l
 |_::l=>A2 S cur t rD l
def MC(s:Nat):List aq→List aq
 |[]=>[]
 |S::r=>S.put (some s) .top::MC s r
def Gx(N aR:Nat)(S:aq)(s:Nat)(y:ab)(a b:List aq):nN:=
 match ln (xa N aR (S.put (some s) .top) (MC s (a++b))) S.n with
 |J=>⟨J,ln J (As S.n b),s,y⟩
def A3(N:Nat)(f:aq→ay):Nat→aq→ay
 |0,_=>.bad 63
 |n+1,S=>jR N S (f S) (A3 N f n)
def Vt(y:ab):Option Nat:=
 match y with
 | .cs (.int .i64 (.ofNat n))=>match Nat.ble n 16 with
  |true=>some (n+1)
  |false=>none
 |_=>none
def ay.nO:ay→Bool
 | .cc _ _=>false
 | .lt _ _ t=>t.nO
 | .eW _ t=>t.nO
 | .it _ a b=>a.nO||b.nO
 | .c3 _ a _ k=>a.nO||k.nO
 | .dJ _ _ _ _ _ a k=>a.nO||k.nO
 | .eh _ _ _ a k=>a.nO||k.nO
 | .bad _=>true
def MD(t:ay)(u:Unit→ay):ay:=
 match t.nO with
 |true=>u ()
 |false=>t
def ME(N B:Nat)(f:aq→ay)(cur:Nat)(S:aq):fJ × ay→ay
 |(J,t)=>match xH cur t.ends with
  |(a,b)=>match A2 S cur t a J.ps with
   |some (s,.cH y)=>match Vt y with
    |some n=>MD (uG N B f cur S (Gx N S.k S s y a b)) fun _=>A3 N f n S
    |none=>uG N B f cur S (Gx N S.k S s y a b)
   |some (s,.ex x)=>match gx S.k [x]with
    |true=>emit S.k [x] [] (uG N B f cur (S.ej S.k [x]) (Gx N (S.k+1) S s (.bb (.int .i64) S.k) a b))
    |false=>.bad 62
   |_=>A0 B f cur S J (ln J (As S.n b))
def A4(x:ab):Bool:=fi x (.cs (.slice none 0 0))
def Vu(n i:Nat)(S:aq):Option (TypeId × bC):=
 match S.at i with
 | .aL id=>match Nat.ble n id,c2 S.h id with
  |true,some (.rw t c _)=>some (t,c)
  |_,_=>none
 |_=>none
def MF(n i:Nat):List aq→Option (TypeId × bC)
 |[]=>none
 |S::r=>match Vu n i S with
  |some x=>some x
  |none=>MF n i r
def A5(S:aq)(a:List aq):Nat→Nat→List (Nat × TypeId × bC)
 |0,_=>[]
 |k+1,i=>match A4 (S.at i)with
  |true=>match MF S.n i a with
   |some (t,c)=>(i,t,c)::A5 S a k (i+1)
   |none=>A5 S a k (i+1)
  |false=>A5 S a k (i+1)
def lX(N B:Nat):List (Nat × TypeId × bC)→aq→aq
 |[],S=>S
 |(i,t,c)::r,S=>match A4 (S.at i)&&(Nat.blt i N&&Nat.ble B S.n)with
  |true=>lX N B r ⟨S.l.put i (.aL S.n),(S.n,.rw t c (.cs (.slice none 0 0)))::S.h,S.n+1,S.k,S.g⟩
  |false=>lX N B r S
def pH(N B:Nat)(f:aq→ay)(cur:Nat)(S:aq)(t:ay):ay:=
 ME N B f cur S (Gu N f cur S 6 ⟨A1 S N 0,S.h,S.n,[]⟩ t)
def ay.kN:ay→List aq
 | .cc _ S=>[S]
 | .lt _ _ t=>t.kN
 | .eW _ t=>t.kN
 | .it _ a b=>a.kN++b.kN
 | .c3 _ a _ k=>a.kN++k.kN
 | .dJ _ _ _ _ _ a k=>a.kN++k.kN
 | .eh _ _ _ a k=>a.kN++k.kN
 | .bad _=>[]
def Vv(n id off:Nat)(S:aq):Option (TypeId × bC):=
 match c2 S.h id with
 |some (.cT _ l)=>match en .top l off with
  | .aL k=>match Nat.ble n k,c2 S.h k with
   |true,some (.rw t c _)=>some (t,c)
   |_,_=>none
  |_=>none
 |_=>none
def MG(n id off:Nat):List aq→Option (TypeId × bC)
 |[]=>none
 |S::r=>match Vv n id off S with
  |some x=>some x
  |none=>MG n id off r
def A6(S:aq)(a:List aq)(id:Nat):Nat→List ab→List (Nat × Nat × TypeId × bC)
 |_,[]=>[]
 |off,x::r=>match A4 x with
  |true=>match MG S.n id off a with
   |some (t,c)=>(id,off,t,c)::A6 S a id (off+1) r
   |none=>A6 S a id (off+1) r
  |false=>A6 S a id (off+1) r
def uL(S:aq)(a:List aq):List (Nat × bq)→List (Nat × Nat × TypeId × bC)
 |[]=>[]
 |(id,.cT _ l)::r=>A6 S a id 0 l++uL S a r
 |_::r=>uL S a r
def js(B:Nat):List (Nat × Nat × TypeId × bC)→aq→aq
 |[],S=>S
 |(id,off,t,c)::r,S=>match c2 S.h id with
  |some (.cT bt l)=>match(match l[off]? with|some x=>A4 x|none=>false)&&Nat.ble B S.n with
   |true=>js B r ⟨S.l,jO ((S.n,.rw t c (.cs (.slice none 0 0)))::S.h) id (.cT bt (l.set off (.aL S.n))),S.n+1,S.k,S.g⟩
   |false=>js B r S
  |_=>js B r S
def MH(N B:Nat)(f:aq→ay)(cur:Nat)(S:aq)(t:ay):ay:=
 match A5 S t.kN N 0 with
 |[]=>match uL S t.kN S.h with
  |[]=>pH N B f cur S t
  |q::qs=>pH N B f cur (js B (q::qs) S) (f (js B (q::qs) S))
 |p::r=>pH N B f cur (js B (uL S t.kN S.h) (lX N B (p::r) S)) (f (js B (uL S t.kN S.h) (lX N B (p::r) S)))
def Gy(N B:Nat)(f:aq→ay)(cur:Nat)(S:aq):ay:=MH N B f cur S (f S)
section
variable {P:Program} {G:aY} {N B:Nat} {M:List bc}
theorem MI{J bV:fJ}{aR cur:Nat}: ∀{l:List (bH × aq)},qW J bV aR cur l=true→∀{x:bH} {aN:aq},(x,aN)∈l→(x= .bY→ik (ln J (Nat.max aN.n J.n)) aR aN=true)∧(x= .ext cur→ik bV aR aN=true)
 |(y,dt)::r,h,x,aN,hm=>by
  have aV:qW J bV aR cur r=true∧(y= .bY→ik (ln J (Nat.max dt.n J.n)) aR dt=true)∧(y= .ext cur→ik bV aR dt=true):=by
   cases y with
   |bY=>
    simp only[qW,Bool.and_eq_true]at h;exact⟨h.2,fun _=>h.1,fun e=>(by cases e)⟩
   |ext m=>
    simp only[qW,Bool.and_eq_true]at h;refine⟨h.2,fun e=>(by cases e),fun e=>?_⟩
    cases e
    have aa:=h.1
    rw[Nat.beq_refl]at aa;exact aa
   |ret=>exact⟨h,fun e=>(by cases e),fun e=>(by cases e)⟩
   |kg m=>exact⟨h,fun e=>(by cases e),fun e=>(by cases e)⟩
  rcases List.mem_cons.1 hm with q|q
  ·cases q;exact aV.2
  ·exact MI aV.1 q
theorem Vw{c:Code}{R A:Type}{n:Nat}{b:A→Step R A}{a0:A}{hd:A→aJ}{Q:Exit→aJ→Prop}{cV:aJ}{I:A→Prop}
    (aP:cw cV (hd a0))(hi:I a0)(he:je b n a0)
    (ae: ∀a,I a→(∀r,b a= .ret r→b3 b n a0= .inl r)→(∀v,b a= .b9 v→b3 b n a0= .inr v)→bL P G c (fun e st=>match e with
      | .normal=>∃aW,b a= .bP aW∧I aW∧cw st (hd aW)
      |e=>Q e st) (hd a)):bL P G (.loop c) Q cV:=by
  refine bL.loop (ι:=Nat × A) (fun x=>hd x.2) (fun x=>(b3 b n a0=b3 b x.1 x.2∧je b x.1 x.2)∧I x.2) (fun x=>x.1) (n,a0) aP ⟨⟨rfl,he⟩,hi⟩ ?_
  rintro⟨k,a⟩ ⟨fm,b5⟩
  refine bL.mono (ae a b5 (fun r ad=>S7 fm ad) (fun v ad=>S8 fm ad)) fun e st ah=>?_
  cases e with
  |normal=>
    obtain⟨aW,aa,ar,af⟩:=ah;obtain⟨m,aQ,bx⟩:=S6 fm aa;exact⟨(m,aW),⟨bx,ar⟩,by show m<k;omega,af⟩
  |_=>exact ah
theorem MJ{J:fJ}{aR kx:Nat}{S0 aN:aq}{e aC:Env}{k:Nat}{g g':List bJ}(ak:hh aR J.ps=true)(mZ: ∀c∈aN.g,c.ok aC)(h:ik (ln J (Nat.max aN.n J.n)) aR aN=true)(hQ:sA J.n J.l=true)(od:mw J.n J.h=true)(gi:B≤J.n)(bs:bM aR e aC):
 cw (aN.den G N B aC) ((aq.mk (eJ J.l) J.h J.n k g).den G N B (a7 e (b2 S0 J.ps) (bQ _ (eX aN aC (b2 S0 J.ps))))):=by
 have aa:=FB (G:=G) (N:=N) (B:=B) (J:=ln J (Nat.max aN.n J.n)) ak mZ h (g:=g') bs
 refine aa.le.trans ?_
 rw[xy]
 refine cw.low (m:=Nat.max aN.n J.n) ?_ ?_ gi
 ·exact Gf (n:=J.n) (l:=eJ J.l) (fun i x hx=>Gg hQ (nF hx)) N 0
 ·exact uw od
theorem Vx{c:Code}{f:aq→ay}(hf:jT P G N B M c f){cur:Nat}{S:aq}{J bV:fJ}{e:Env}(ad:S.cd)(eu:S.cf e)(ah:(A0 B f cur S J bV).safe M e):bL P G (.loop c) (im G N B M (A0 B f cur S J bV) e S.k) (S.den G N B e):=by
 unfold A0 My at ah⊢
 split at ah
 rotate_left
 ·exact ah.elim
 rename_i qU
 generalize xB:f (J.S S.k S.g)=t1 at ah qU⊢
 simp only[Mx,Bool.and_eq_true]at qU
 obtain⟨⟨aF,ea,fU⟩,⟨my,xD,xE⟩,pG,Gi,Gj,Gk⟩:=qU
 have pG:=Nat.le_of_ble_eq_true pG
 have Gm:t1.lvl<t1.lvl+1:=Nat.lt_succ_self _
 have iR:=Er Gm
 obtain⟨⟨Inv,Gn,AY⟩,Vy,aj⟩:=ah
 generalize pF:S.k+J.ps.length=kx at*
 have hle:S.k≤kx:=by rw[←pF];exact Nat.le_add_right _ _
 have cD: ∀L,b3 (fun(v:bB (b2 S J.ps))=>cx M (t1.lvl+1) cur (b2 S J.ps) (t1.rel (e8 (t1.lvl+1))) (a7 e (b2 S J.ps) v) v) cX (bQ _ (c9 e (b2 S J.ps)))=L→
  run M (ay.eh (t1.lvl+1) cur (b2 S J.ps) (t1.rel (e8 (t1.lvl+1))) (.cc (.ext cur) ⟨eJ bV.l,bV.h,bV.n,kx,S.g⟩)) e=Sum.elim (fun r=>r) (fun v=>some (.ext cur,⟨eJ bV.l,bV.h,bV.n,kx,S.g⟩,a7 e (b2 S J.ps) v)) L:=fun L fm=>by
  rw[Ai,fm];rfl
 have Vz:je (fun(v:bB (b2 S J.ps))=>cx M (t1.lvl+1) cur (b2 S J.ps) (t1.rel (e8 (t1.lvl+1))) (a7 e (b2 S J.ps) v) v) cX (bQ _ (c9 e (b2 S J.ps))):=
  (Eo (fun _=>()) (fun v=>hW _ _ _ _ _ v) _ _).1 Vy
 generalize Vi:ay.eh (t1.lvl+1) cur (b2 S J.ps) (t1.rel (e8 (t1.lvl+1))) (.cc (.ext cur) ⟨eJ bV.l,bV.h,bV.n,kx,S.g⟩)=oG at cD
 have qV: ∀(v:bB (b2 S J.ps)),bM S.k e (a7 e (b2 S J.ps) v):=fun v j ai=>uH aF (.inl ai)
 have Gq:(J.S S.k S.g).cd:=⟨fun i x hx=>by show x.lt (S.k+J.ps.length)=true;rw[pF];exact qL ea (nF hx),by show ei (S.k+J.ps.length) J.h=true;rw[pF];exact fU,by show eI (S.k+J.ps.length) S.g=true;rw[pF];exact ny hle ad.g⟩
 have Gr: ∀(v:bB (b2 S J.ps)),(J.S S.k S.g).cf (a7 e (b2 S J.ps) v):=fun v=>hE (qV v) ad.g eu
 have AZ: ∀cZ:aq,cZ=⟨eJ bV.l,bV.h,bV.n,kx,S.g⟩→cZ.cd:=fun cZ h=>by
  subst h;exact⟨fun i x hx=>qL Gj (nF hx),Gk,ny hle ad.g⟩
 refine Vw (n:=cX) (b:=fun(v:bB (b2 S J.ps))=>cx M (t1.lvl+1) cur (b2 S J.ps) (t1.rel (e8 (t1.lvl+1))) (a7 e (b2 S J.ps) v) v) (a0:=bQ _ (c9 e (b2 S J.ps)))
  (hd:=fun v=>(J.S S.k S.g).den G N B (a7 e (b2 S J.ps) v)) (I:=Inv) ?_ Gn Vz (fun v b5 VA VB=>?_)
 ·rw[Ge]
  exact MJ (kx:=kx) (g':=S.g) aF eu my xD xE pG (bM.refl _ _)
 ·obtain⟨dx,dG⟩:=AY v b5
  have uK:=hf (J.S S.k S.g) (a7 e (b2 S J.ps) v) Gq (Gr v) (by rw[xB];exact(kG iR).1 dx)
  refine bL.mono uK fun ex st ⟨x,aN,aC,aa,af,ar,aQ,bx,ct,dw⟩=>?_
  rw[xB]at aa
  have VC:(J.S S.k S.g).k=kx:=pF
  rw[VC]at ct dw;obtain⟨m1,m2⟩:=MI Gi (mz aa)
  have nx:run M (t1.rel (e8 (t1.lvl+1))) (a7 e (b2 S J.ps) v)=some (e8 (t1.lvl+1) x,aN,aC):=by rw[wM iR,aa];rfl
  have kM:cx M (t1.lvl+1) cur (b2 S J.ps) (t1.rel (e8 (t1.lvl+1))) (a7 e (b2 S J.ps) v) v=dE (t1.lvl+1) cur (b2 S J.ps) (fun x S e=>some (x,S,e)) (e8 (t1.lvl+1) x) aN aC:=by
   unfold cx;rw[nx]
  have sC:bM S.k e aC:=bM.trans (qV v) ct hle
  have out: ∀ex,xf x ex→e8 (t1.lvl+1) x=x→x.bu (t1.lvl+1)=false→x.cp cur=false→im G N B M oG e S.k ex st:=fun ex af hm ai hx=>by
   rw[hm,jj ai hx]at kM;exact⟨x,aN,aC,cD _ (VA _ kM),af,ar,aQ,bx,sC,Nat.le_trans hle dw⟩
  cases x with
  |kg m=>cases ex<;>exact af.elim
  |ret=>cases ex<;>first|exact af.elim|exact out _ af rfl rfl rfl
  |bY=>
   cases ex with
   |normal=>
    rw[mq (x:=e8 (t1.lvl+1) .bY) (show bH.bu (t1.lvl+1) (.kg (t1.lvl+1))=true from Nat.beq_refl _)]at kM
    exact⟨_,kM,dG _ (by rw[hW,kM];rfl),ar.trans (MJ (kx:=kx) (g':=S.g) aF bx (m1 rfl) xD xE pG sC)⟩
   |_=>exact af.elim
  |ext m=>
   cases ex with
   |exit Gs=>
    have af:m=Gs:=af
    subst af
    cases hm:Nat.beq m cur with
    |false=>exact out _ rfl rfl rfl hm
    |true=>
     have:=Nat.eq_of_beq_eq_true hm
     subst this;rw[mr (x:=e8 (t1.lvl+1) (.ext m)) (show bH.bu (t1.lvl+1) (.ext m)=false from rfl) (show bH.cp m (.ext m)=true from hm)]at kM
     refine⟨.ext m,_,_,cD _ (VB _ kM),rfl,ar.trans ?_,AZ _ rfl,hE (qV _) ad.g eu,qV _,hle⟩
     rw[xy];exact Aq (J:=⟨bV.l,bV.h,bV.n,J.ps⟩) aF bx (m2 rfl) (g:=S.g) sC
   |_=>exact af.elim
theorem MK{c:Code}{f:aq→ay}(hf:jT P G N B M c f){Q:Exit→aJ→Prop}: ∀(n:Nat) {S:aq} {e:Env},S.cd→S.cf e→(A3 N f n S).safe M e→(∀ex st,im G N B M (A3 N f n S) e S.k ex st→Q ex st)→tx P G c Q n (S.den G N B e)
 |0,_,_,_,_,ah,_=>ah.elim
 |n+1,S,e,ad,eu,ah,dP=>by
  obtain⟨t1,t2,t3⟩:=Au (G:=G) (B:=B) ad eu ah;refine tx.rd n (bL.mono (hf S e ad eu t1) fun ex st ak=>?_)
  obtain⟨x,cZ,aw,aa,af,ar,aQ,bx,ct,dw⟩:=ak
  have other:x≠ .bY→Q ex st:=fun bX=>dP ex st ⟨x,cZ,aw,t2 x cZ aw aa bX (LW af),af,ar,aQ,bx,ct,dw⟩
  cases x with
  |bY=>
   cases ex with
   |normal=>
    obtain⟨dt,a6,s1,s2,lV,nJ,nK,nL,nM⟩:=t3 cZ aw aa aQ bx ct dw
    have:=MK hf n s2 lV nL (Q:=Q) fun ex st ak=>dP ex st (ak.sub nM nJ nK)
    exact fun E a w ae=>this E a w (s1 E G a w (ar E G a w ae))
   |_=>exact af.elim
  |ret=>cases ex<;>first|exact af.elim|exact other (by simp)
  |ext n=>cases ex<;>first|exact af.elim|exact other (by simp)
  |kg n=>cases ex<;>exact af.elim
theorem Gz{c:Code}{Q:Exit→aJ→Prop}{e:Env}: ∀(l:List (Nat × TypeId × bC)) {S:aq},S.cd→S.cf e→(lX N B l S).cd∧(lX N B l S).cf e∧(lX N B l S).k=S.k∧(bL P G c Q ((lX N B l S).den G N B e)→bL P G c Q (S.den G N B e))
 |[],_,ad,hf=>⟨ad,hf,rfl,fun h=>h⟩
 |(i,t,d)::r,S,ad,hf=>by
  unfold lX
  split
  ·rename_i hc
   simp only[Bool.and_eq_true]at hc;obtain⟨aF,ea,fU⟩:=hc
   have gK:(⟨S.l.put i (.aL S.n),(S.n,.rw t d (.cs (.slice none 0 0)))::S.h,S.n+1,S.k,S.g⟩:aq).cd:=by
    refine⟨fun j x hx=>?_,?_,ad.g⟩
    ·simp only[aZ.jf]at hx
     split at hx
     ·cases hx;rfl
     ·exact ad.l j x hx
    ·show(bq.lt S.k (.rw t d (.cs (.slice none 0 0)))&&ei S.k S.h)=true
     rw[ad.h];rfl
   obtain⟨aa,af,ar,aQ⟩:=Gz r gK hf;refine⟨aa,af,ar,fun h=>?_⟩
   refine bL.Ea i t (cO d) ?_ (by rw[sb,if_pos (eF ea),fC aF];rfl) fU
   have:=aQ h
   have hd:(⟨S.l.put i (.aL S.n),(S.n,.rw t d (.cs (.slice none 0 0)))::S.h,S.n+1,S.k,S.g⟩:aq).den G N B e={S.den G N B e with cl:=(S.den G N B e).cl.set i (.aL (S.den G N B e).next),heap:=((S.den G N B e).next,.row false t (cO d) [])::(S.den G N B e).heap,next:=(S.den G N B e).next+1}:=by
    simp only[aq.den,Ey,cv,ab.den,bq.den,ab.aD,ab.fu,cA];rfl
   rw[hd]at this;exact this
  ·exact Gz r ad hf
theorem xJ{c:Code}{Q:Exit→aJ→Prop}{e:Env}: ∀(l:List (Nat × Nat × TypeId × bC)) {S:aq},S.cd→S.cf e→(js B l S).cd∧(js B l S).cf e∧(js B l S).k=S.k∧(bL P G c Q ((js B l S).den G N B e)→bL P G c Q (S.den G N B e))
 |[],_,ad,hf=>⟨ad,hf,rfl,fun h=>h⟩
 |(id,off,t,d)::r,S,ad,hf=>by
  unfold js
  split
  ·rename_i bt l ag
   split
   ·rename_i hc
    simp only[Bool.and_eq_true]at hc;obtain⟨aF,fU⟩:=hc
    have an:=AE ad.h ag
    have gK:(⟨S.l,jO ((S.n,.rw t d (.cs (.slice none 0 0)))::S.h) id (.cT bt (l.set off (.aL S.n))),S.n+1,S.k,S.g⟩:aq).cd:=by
     refine⟨ad.l,AD (o:=.cT bt (l.set off (.aL S.n))) (FU (x:=.aL S.n) rfl an) ?_,ad.g⟩
     show(bq.lt S.k (.rw t d (.cs (.slice none 0 0)))&&ei S.k S.h)=true;rw[ad.h];rfl
    obtain⟨aa,af,ar,aQ⟩:=xJ r gK hf;refine⟨aa,af,ar,fun h=>?_⟩
    have:=aQ h
    have hid:aA (S.den G N B e).heap id=some (.box bt (ab.bF G e l)):=by simp only[aq.den,et,ag,Option.map_some,bq.den]
    have aj:(ab.bF G e l)[off]? =some (.au (.v (.slice none 0 0))):=by
     rw[eg,List.getElem?_map]
     cases hx:l[off]? with
     |none=>rw[hx]at aF;cases aF
     |some x=>
      rw[hx]at aF
      have:=fC aF
      subst this;rfl
    refine bL.le (cw.Td (s:=S.den G N B e) id off t (cO d) hid aj (Nat.le_of_ble_eq_true fU) rfl) ?_
    have hd:(⟨S.l,jO ((S.n,.rw t d (.cs (.slice none 0 0)))::S.h) id (.cT bt (l.set off (.aL S.n))),S.n+1,S.k,S.g⟩:aq).den G N B e={S.den G N B e with heap:=eG (((S.den G N B e).next,.row false t (cO d) [])::(S.den G N B e).heap) id (.box bt ((ab.bF G e l).set off (.aL (S.den G N B e).next))),next:=(S.den G N B e).next+1}:=by
     simp only[aq.den,sc,cv,bq.den,FV,ab.den,ab.aD,ab.fu,cA];rfl
    rw[hd]at this;exact this
   ·exact xJ r ad hf
  ·exact xJ r ad hf
theorem GA{c:Code}{f:aq→ay}{cur:Nat}{S:aq}{e:Env}{t:ay}(hf:jT P G N B M c f)(ad:S.cd)(eu:S.cf e)(ah:(pH N B f cur S t).safe M e):bL P G (.loop c) (im G N B M (pH N B f cur S t) e S.k) (S.den G N B e):=by
 unfold pH at ah⊢
 generalize Gu N f cur S 6 ⟨A1 S N 0,S.h,S.n,[]⟩ t=VD at ah⊢
 obtain⟨J,t⟩:=VD
 simp only[ME]at ah⊢
 split at ah
 ·split at ah
  ·unfold MD at ah⊢
   split at ah
   ·exact bL.rounds _ (MK hf _ ad eu ah fun _ _ h=>h)
   ·exact Gh hf ad eu ah
  ·exact Gh hf ad eu ah
 ·rename_i s x _
  split at ah
  ·rename_i hx
   obtain⟨_,ey⟩:=ll ah;obtain⟨bN,a2,a3⟩:=pD (M:=M) (G:=G) (N:=N) (B:=B) ad eu hx
   have:=Gh hf bN a2 ey
   rw[a3]at this;exact bL.mono this fun ex st ak=>ak.sub (by rw[kJ]) (iN (Nat.le_refl _)) (Nat.le_add_right _ _)
  ·exact ah.elim
 ·exact Vx hf ad eu ah
theorem VE:F6 P G N B M (Gy N B):=by
 intro c f cur hf S e ad eu ah
 unfold Gy MH at ah⊢
 generalize f S=t at ah⊢
 split at ah
 ·split at ah
  ·exact GA hf ad eu ah
  ·rename_i q qs _
   obtain⟨aa,af,ar,aQ⟩:=xJ (P:=P) (G:=G) (N:=N) (B:=B) (c:=.loop c) (Q:=im G N B M (pH N B f cur (js B (q::qs) S) (f (js B (q::qs) S))) e S.k) (e:=e) (q::qs) ad eu;refine aQ ?_
   have:=GA hf aa af ah
   rw[ar]at this;exact this
 ·rename_i p r _
  generalize uL S t.kN S.h=cC at ah⊢;obtain⟨g1,g2,g3,g4⟩:=Gz (P:=P) (G:=G) (N:=N) (B:=B) (c:=.loop c) (Q:=im G N B M (pH N B f cur (js B cC (lX N B (p::r) S)) (f (js B cC (lX N B (p::r) S)))) e S.k) (e:=e) (p::r) ad eu;obtain⟨aa,af,ar,aQ⟩:=xJ (P:=P) (G:=G) (N:=N) (B:=B) (c:=.loop c) (Q:=im G N B M (pH N B f cur (js B cC (lX N B (p::r) S)) (f (js B cC (lX N B (p::r) S)))) e S.k) (e:=e) cC g1 g2;refine g4 (aQ ?_)
  have:=GA hf aa af ah
  rw[ar,g3]at this;exact this
end
end Go.aG
namespace Go.aG
open Go
def GB(ops:Array Oper)(m:List Bool)(i:Nat)(D:List Nat)(j:Nat):Bool:=
 !(m.toArray.getD j true)&&(!(Nat.beq j i)&&match ops[j]? with
  |some o=>o.after.any fun e=>Region.binds .any e&&(e.on==i||D.contains e.on)
  |none=>false)
def A7(ops:Array Oper)(m:List Bool)(i:Nat):List Nat→List Nat→List Nat
 |[],D=>D
 |j::r,D=>match GB ops m i D j with
  |true=>A7 ops m i r (j::D)
  |false=>A7 ops m i r D
def A8(ops:Array Oper)(wr:List Bool)(m:List Bool)(i:Nat):Bool:=
 match A7 ops m i (List.range ops.size) []with
 |D=>!(wr.getD i false)&&(D.all (GB ops m i D)&&(List.range ops.size).all fun j=>!(wr.getD j false)||(m.toArray.getD j true||D.contains j))
section
variable {P:Program} {ops:Array Oper} {Q:Exit→Act→World→Prop} {S:World→Prop} {wr:Nat→Bool}
theorem VF{i:Nat}{oi:Oper}{v:Value}(hi:ops[i]? =some oi)(qo:wr i=false)(ke: ∀(j:Nat) (o:Oper) cs b,ops[j]? =some o→o.op≠ .select cs b)
 (dP: ∀c a w,Q (.panic c) (a.put oi.dst v) w→Q (.panic c) a w)(D:Nat→Prop):
 ∀(fuel:Nat) (listed:Array Bool) (a:Act) (w:World),
  (∀j er,ops[j]? =some er→j≠i→listed.getD j true=false→(∀e∈er.after,Region.binds .any e=true→e.on≠i)→oi.apart ops er=true)→
  (∀j er,ops[j]? =some er→wr j=true→listed.getD j true=false→D j)→
  (∀j,D j→listed.getD j true=false∧j≠i∧∃er,ops[j]? =some er∧∃e∈er.after,Region.binds .any e=true∧(e.on=i∨D e.on))→
  i∈Region.ready .any ops listed→YieldsIf P ops S oi v a→S w→
  kd P ops Q S wr fuel (listed.setIfInBounds i true) (a.put oi.dst v) w→kd P ops Q S wr (fuel+1) listed a w:=by
 intro fuel
 induction fuel with
 |zero=>
  intro listed a w _ _ _ ae ax hS H;refine⟨fun h=>(by rw[h]at ae;cases ae),fun j ai=>?_⟩
  by_cases gd:j=i
  ·subst gd;exact ax.wpOp hi hS (.inr ⟨qo,hS,H⟩)
  ·have:=ready_mono ai gd
   rw[H.1]at this
   cases this
 |succ fuel aO=>
  intro listed a w qp wB k1 ae ax hS H;refine⟨fun h=>(by rw[h]at ae;cases ae),fun j ai=>?_⟩
  by_cases gd:j=i
  ·subst gd;exact ax.wpOp hi hS (.inr ⟨qo,hS,H⟩)
  ·have aa:=H.2 j (ready_mono ai gd)
   obtain⟨oj,er,hB,dz⟩:=mem_ready.1 ai
   have un: ∀k,listed.getD k true=false→∀e∈er.after,Region.binds .any e=true→e.on≠k:=fun k aj e he ad heq=>by
    have aa:=dz e he ad
    rw[heq]at aa
    rcases Nat.lt_or_ge k listed.size with h'|h'
    ·simp[h']at aj aa;rw[aj]at aa;cases aa
    ·simp[Array.getElem?_eq_none h']at aa
   have r5: ∀e∈er.after,Region.binds .any e=true→e.on≠i:=un i (mem_ready.1 ae).1
   have ML: ¬D j:=fun hd=>by
    obtain⟨_,_,YD,MM,e,he,ad,aV⟩:=k1 j hd;rw[hB]at MM
    cases MM
    rcases aV with aV|aV
    ·exact r5 e he ad aV
    ·exact un e.on (k1 _ aV).1 e he ad rfl
   have r6:wr j=false:=by
    cases hw:wr j with
    |false=>rfl
    |true=>exact absurd (wB j er hB hw oj) ML
   have aa:=wpOp_mono (K':=fun aW w'=>S w'∧kd P ops Q S wr fuel ((listed.setIfInBounds i true).setIfInBounds j true) aW w') (fun aW w' h'=>by
    rcases h' with⟨h',_⟩|⟨_,h'⟩
    ·rw[r6]at h';cases h'
    ·exact h') aa
   have af:=wpOp_putIf hB (qp j er hB gd oj r5) (fun cs b=>ke i oi cs b hi) (fun cs b=>ke j er cs b hB) dP ax aa
   have low: ∀k,(listed.setIfInBounds j true).getD k true=false→listed.getD k true=false:=fun k gQ=>by
    by_cases om:j=k
    ·subst om;exact oj
    ·rw[getD_set_ne true om]at gQ;exact gQ
   have tC: ∀k ok,ops[k]? =some ok→k≠i→(listed.setIfInBounds j true).getD k true=false→
    (∀e∈ok.after,Region.binds .any e=true→e.on≠i)→oi.apart ops ok=true:=fun k ok aj bf gQ gM=>qp k ok aj bf (low k gQ) gM
   have VG: ∀k,D k→(listed.setIfInBounds j true).getD k true=false∧k≠i∧∃ok,ops[k]? =some ok∧∃e∈ok.after,Region.binds .any e=true∧(e.on=i∨D e.on):=fun k aj=>by
    obtain⟨g1,g2⟩:=k1 k aj;refine⟨?_,g2⟩
    have om:j≠k:=fun aV=>ML (by rw[aV];exact aj)
    rw[getD_set_ne true om];exact g1
   refine wpOp_mono (fun aW w' ar=>.inr ⟨r6,ar.2.1,aO (listed.setIfInBounds j true) aW w' tC (fun k ok aj hw gQ=>wB k ok aj hw (low k gQ)) VG (ready_mono ae (Ne.symm gd)) ar.1 ar.2.1 ?_⟩) af
   rw[Array.setIfInBounds_comm _ _ gd];exact ar.2.2
theorem VH{i:Nat}{oi:Oper}{v:Value}(hi:ops[i]? =some oi)(qo:wr i=false)(ke: ∀(j:Nat) (o:Oper) cs b,ops[j]? =some o→o.op≠ .select cs b)
 (dP: ∀c a w,Q (.panic c) (a.put oi.dst v) w→Q (.panic c) a w):
 ∀(fuel:Nat) (listed:Array Bool) (a:Act) (w:World),
  (∀j er,ops[j]? =some er→j≠i→listed.getD j true=false→(∀e∈er.after,Region.binds .any e=true→e.on≠i)→oi.apart ops er=true)→
  i∈Region.ready .any ops listed→Yields P ops oi v a→S w→
  kd P ops Q S wr fuel (listed.setIfInBounds i true) (a.put oi.dst v) w→kd P ops Q S wr (fuel+1) listed a w:=by
 intro fuel
 induction fuel with
 |zero=>
  intro listed a w _ ae ax hS H;refine⟨fun h=>(by rw[h]at ae;cases ae),fun j ai=>?_⟩
  by_cases gd:j=i
  ·subst gd;exact ax.yieldsIf.wpOp hi hS (.inr ⟨qo,hS,H⟩)
  ·have:=ready_mono ai gd
   rw[H.1]at this
   cases this
 |succ fuel aO=>
  intro listed a w qp ae ax hS H;refine⟨fun h=>(by rw[h]at ae;cases ae),fun j ai=>?_⟩
  by_cases gd:j=i
  ·subst gd;exact ax.yieldsIf.wpOp hi hS (.inr ⟨qo,hS,H⟩)
  ·have aa:=H.2 j (ready_mono ai gd)
   obtain⟨oj,er,hB,dz⟩:=mem_ready.1 ai
   have r5: ∀e∈er.after,Region.binds .any e=true→e.on≠i:=fun e he ad heq=>by
    have aa:=dz e he ad
    have aP:=(mem_ready.1 ae).1
    rw[heq]at aa
    rcases Nat.lt_or_ge i listed.size with h'|h'
    ·simp[h']at aP aa;rw[aP]at aa;cases aa
    ·simp[Array.getElem?_eq_none h']at aa
   have af:=wpOp_put hB (qp j er hB gd oj r5) (fun cs b=>ke i oi cs b hi) (fun cs b=>ke j er cs b hB) dP ax aa
   have low: ∀k,(listed.setIfInBounds j true).getD k true=false→listed.getD k true=false:=fun k gQ=>by
    by_cases om:j=k
    ·subst om;exact oj
    ·rw[getD_set_ne true om]at gQ;exact gQ
   have tC: ∀k ok,ops[k]? =some ok→k≠i→(listed.setIfInBounds j true).getD k true=false→
    (∀e∈ok.after,Region.binds .any e=true→e.on≠i)→oi.apart ops ok=true:=fun k ok aj bf gQ gM=>qp k ok aj bf (low k gQ) gM
   refine wpOp_mono (fun aW w' ⟨lg,ar⟩=>?_) af
   rcases ar with⟨hw,ar⟩|⟨hw,MN,ar⟩
   ·refine .inl ⟨hw,wpAny_first hi ke dP fuel _ aW w' tC (ready_mono ae (Ne.symm gd)) lg ?_⟩
    rw[Array.setIfInBounds_comm _ _ gd];exact ar
   ·refine .inr ⟨hw,MN,aO (listed.setIfInBounds j true) aW w' tC (ready_mono ae (Ne.symm gd)) lg MN ?_⟩
    rw[Array.setIfInBounds_comm _ _ gd];exact ar
end
section
variable {P:Program} {G:aY} {Q:Exit→aJ→Prop} {L:List Oper} {wr:List Bool}
theorem e4.VI{fuel:Nat}{m:List Bool}{s bd:aJ}(i:Nat){o:Oper}(ao:L[i]? =some o)(ak:iG P G L.toArray o s bd)(k:e4 P G L Q wr fuel (m.set i true) bd)(ah:Region.noSelect L.toArray=true)
 (hf:Region.free .any L.toArray m.toArray i=true)(ae:(Region.ready .any L.toArray m.toArray).contains i=true)(hw:A8 L.toArray wr m i=true):e4 P G L Q wr (fuel+1) m s:=by
 intro E a w c1
 obtain⟨v,av,o8⟩:=ak E a w c1
 unfold A8 at hw
 simp only at hw
 generalize k1:A7 L.toArray m i (List.range L.toArray.size) []=D at hw
 simp only[Bool.and_eq_true]at hw
 obtain⟨aa,af,ar⟩:=hw
 refine VF (i:=i) (oi:=o) (v:=v) (by simpa using ao) (by simpa using aa) (Region.noSelect_spec ah) (fun c a w aH=>?_) (fun j=>D.contains j=true) fuel m.toArray a w (Region.free_spec (by simpa using ao) hf) (fun j er hB r6 gQ=>?_) (fun j ai=>?_) (by simpa using ae) av (fy.refl w) (by simpa using k E _ w o8)
 ·obtain⟨_,⟨h,_⟩,_⟩:=aH
  cases h
 ·have:=List.all_eq_true.1 ar j (List.mem_range.2 (Array.getElem?_eq_some_iff.1 hB).1)
  rw[r6,gQ]at this;simpa using this
 ·have hm:j∈D:=by simpa using ai
  have:=List.all_eq_true.1 af j hm
  unfold GB at this;simp only[Bool.and_eq_true,Bool.not_eq_true']at this;obtain⟨g1,g2,g3⟩:=this;refine⟨g1,fun aV=>(by rw[aV,Nat.beq_refl]at g2;cases g2),?_⟩
  cases hB:L.toArray[j]? with
  |none=>rw[hB]at g3;cases g3
  |some er=>
   rw[hB]at g3;obtain⟨e,he,ad⟩:=Array.any_eq_true'.1 g3;simp only[Bool.and_eq_true,Bool.or_eq_true,beq_iff_eq]at ad;exact⟨er,rfl,e,he,ad⟩
theorem e4.VJ{fuel:Nat}{m:List Bool}{s bd:aJ}(i:Nat){o:Oper}(ao:L[i]? =some o)(ak:gw P G L.toArray o s bd)(k:e4 P G L Q wr fuel (m.set i true) bd)(ah:Region.noSelect L.toArray=true)
 (hf:Region.free .any L.toArray m.toArray i=true)(ae:(Region.ready .any L.toArray m.toArray).contains i=true)(hw:wr.getD i false=false):e4 P G L Q wr (fuel+1) m s:=by
 intro E a w c1
 obtain⟨v,av,o8⟩:=ak E a w c1
 refine VH (i:=i) (oi:=o) (v:=v) (by simpa using ao) hw (Region.noSelect_spec ah) (fun c a w aH=>?_) fuel m.toArray a w (Region.free_spec (by simpa using ao) hf) (by simpa using ae) av (fy.refl w) (by simpa using k E _ w o8)
 obtain⟨_,⟨h,_⟩,_⟩:=aH
 cases h
theorem e4.any{fuel:Nat}{m:List Bool}{s:aJ}(bX:Region.ready .any L.toArray m.toArray≠[])(h: ∀i∈Region.ready .any L.toArray m.toArray,∃o,L[i]? =some o∧∃A:aJ→Prop,(∀t,A t→e4 P G L Q wr fuel (m.set i true) t)∧
      ∀E a w,Rel E G s a w→(Region.wanted o (yielded L.toArray a.tmps)=true∧∀(K:Act→World→Prop) (Q:Exit→Act→World→Prop),(∀t,A t→∀aW w',Rel E G t aW w'→(wr.getD i false=true∨fy w w')→K aW w')→o.wp P a w K Q)∨(wr.getD i false=false∧Region.wanted o (yielded L.toArray a.tmps)=false∧∃t,A t∧Rel E G t (a.put o.dst undef) w)):e4 P G L Q wr (fuel+1) m s:=by
  intro E a w ae;refine⟨fun hn=>absurd hn bX,fun j ai=>?_⟩
  obtain⟨o,ao,A,k,ah⟩:=h j ai
  have eG:m.toArray.setIfInBounds j true=(m.set j true).toArray:=by simp
  have next: ∀t,A t→∀aW w',Rel E G t aW w'→(wr.getD j false=true∨fy w w')→(wr.getD j false=true∧wpAny P .any L.toArray (lift E G (ml Q)) fuel (m.toArray.setIfInBounds j true) aW w')∨(wr.getD j false=false∧fy w w'∧kd P L.toArray (lift E G (ml Q)) (fy w) (fun i=>wr.getD i false) fuel (m.toArray.setIfInBounds j true) aW w'):=fun t aB aW w' dC aj=>by
    rw[eG]
    cases hw:wr.getD j false with
    |true=>exact .inl ⟨rfl,(k t aB).cz E aW w' dC⟩
    |false=>
      rcases aj with aj|aj
      · rw[hw]at aj;cases aj
      · exact .inr ⟨rfl,aj,zD (fun c0 af=>aj.trans af) _ _ _ _ (k t aB E aW w' dC)⟩
  unfold wpOp;rw[show L.toArray[j]? =some o from by simpa using ao]
  simp only
  rcases ah E a w ae with⟨eV,ar⟩|⟨hw,eV,t,aQ,ar⟩
  · rw[if_pos eV]
    exact .inl (ar _ _ next)
  · rw[if_neg (by rw[eV];decide)]
    exact next t aQ _ _ ar (.inr (fy.refl w))
end
section
variable {P:Program} {G:aY} {N B:Nat} {M:List bc}
theorem cP.later{E:Entry}{s:aJ}{a:Act}{w cY:World}{β:Nat→Value}{ro:Nat→Prop}(h:cP E G s a w β ro)(aj:fy w cY):cP ⟨cY,ro,s.heap,β,E.n⟩ G s a cY β ro:=by
 have bA:w.heap.size≤cY.heap.size:=by
  rcases Nat.eq_zero_or_pos w.heap.size with aP|aP
  ·omega
  ·have aa:=aj (w.heap.size-1) (by omega)
   rcases Nat.lt_or_ge (w.heap.size-1) cY.heap.size with af|af
   ·omega
   ·rw[Array.getElem?_eq_none af,Array.getElem?_eq_getElem (by omega)]at aa
    cases aa
 have hw: ∀b,ro b→cY.heap[b]? =w.heap[b]? :=fun b ad=>aj b (h.heap.lt b ad)
 refine⟨h.defers,h.size,fun i x hx=>(h.slot i x hx).keep hw (fun _ h=>h) (Nat.le_refl _) (fun _ t cs ag=>⟨rfl,t,cs,ag⟩) (fun _ z t _ es ag=>⟨rfl,z,t,es,ag⟩) (fun _ br ag=>⟨rfl,br,ag⟩),
  ⟨fun id hv ag=>(h.heap.cL id hv ag).keep hw (fun _ h=>h) (Nat.le_refl _) bA rfl (fun an b ad=>aj b ((h.heap.cL id hv ag).gI an ad)) (fun _ t cs ag=>⟨rfl,t,cs,ag⟩) (fun _ z t _ es ag=>⟨rfl,z,t,es,ag⟩) (fun _ br ag=>⟨rfl,br,ag⟩),h.heap.inj,h.heap.fe,fun b ad=>Nat.lt_of_lt_of_le (h.heap.lt b ad) bA⟩,
  h.ha.keep hw fun _ h=>h,⟨rfl,rfl,rfl,Nat.le_refl _,fun _ _ _=>rfl,fun b ad=>.inl ad,fun b ad=>ad,fun b ad=>.inl ad,fun id hi o ag=>⟨by rw[ag];simp,rfl⟩,h.trans.new,h.trans.le⟩,h.base⟩
theorem MO{w:World}{ro:Nat→Prop}{σ:bp}{β:Nat→Value}{n:Nat}{x:Value}{c:Value}(h:bk w ro σ β n (.au (.v x)) c):c=x:=by
 cases h with
 |au _ _ h=>
  cases h;rfl
theorem iG.pc{ops:Array Oper}{o:Oper}{s:aJ}{x:Value}(h:cE P G o s (.au (.v x)))(ag:dD ops s o=some true):iG P G ops o s (s.put o.dst (.au (.v x))):=by
 intro E a w ⟨β,ro,ae⟩
 have hw:=mj (ops:=ops) ⟨β,ro,ae⟩ ag
 obtain⟨c,_,af⟩:=h E a w β ro ae
 refine⟨x,.inl ⟨hw,fun cY aj=>?_⟩,β,ro,ae.put _ _ _ (by rw[MO af]at af;exact af)⟩
 obtain⟨aF,ar,aQ⟩:=h _ a cY β ro (ae.later aj)
 rw[MO aQ]at ar
 exact ar
def jt(P:Program)(G:aY)(ops:Array Oper)(o:Oper)(s:aJ)(A:aJ→Prop):Prop:=∀E a w,Rel E G s a w→
 (Region.wanted o (yielded ops a.tmps)=true∧∀(K:Act→World→Prop) (Q:Exit→Act→World→Prop),(∀t,A t→∀aW w',Rel E G t aW w'→fy w w'→K aW w')→o.wp P a w K Q)∨
 (Region.wanted o (yielded ops a.tmps)=false∧∃t,A t∧Rel E G t (a.put o.dst undef) w)
theorem jt.v{ops:Array Oper}{o:Oper}{s:aJ}{v:az}{A:aJ→Prop}(h:cE P G o s v)(ag:dD ops s o=some true)(cW:A (s.put o.dst v)):jt P G ops o s A:=fun E a w ae=>
 .inl ⟨mj ae ag,fun K Q hK=>h.I8 E a w ae K Q fun aW w' dC aj=>hK _ cW aW w' dC aj⟩
theorem jt.no{ops:Array Oper}{o:Oper}{s:aJ}{A:aJ→Prop}(ag:dD ops s o=some false)(cW:A (s.put o.dst (.tuple []))):jt P G ops o s A:=fun E a w ae=>
 .inr ⟨mj ae ag,_,cW,ae.zb o.dst⟩
theorem e4.one{L:List Oper}{Q:Exit→aJ→Prop}{wr:List Bool}{fuel:Nat}{m:List Bool}{s:aJ}{A:aJ→Prop}{i:Nat}{o:Oper}(ao:L[i]? =some o)(h:Region.ready .any L.toArray m.toArray=[i])(hw:wr.getD i false=false)
 (ah:jt P G L.toArray o s A)(k: ∀t,A t→e4 P G L Q wr fuel (m.set i true) t):e4 P G L Q wr (fuel+1) m s:=by
 intro E a w ae
 refine⟨fun hn=>(by rw[h]at hn;cases hn),fun j ai=>?_⟩
 rw[h]at ai
 rcases List.mem_cons.1 ai with rfl|ai
 rotate_left
 ·cases ai
 have eG:m.toArray.setIfInBounds j true=(m.set j true).toArray:=by simp
 have next: ∀t,A t→∀aW w',Rel E G t aW w'→fy w w'→wr.getD j false=false∧fy w w'∧kd P L.toArray (lift E G (ml Q)) (fy w) (fun i=>wr.getD i false) fuel (m.toArray.setIfInBounds j true) aW w':=fun t aB aW w' dC aj=>by
  rw[eG];exact⟨hw,aj,zD (fun c0 af=>aj.trans af) _ _ _ _ (k t aB E aW w' dC)⟩
 unfold wpOp
 rw[show L.toArray[j]? =some o from by simpa using ao]
 simp only
 rcases ah E a w ae with⟨eV,ar⟩|⟨eV,t,aQ,ar⟩
 ·rw[if_pos eV]
  exact .inl (ar _ _ fun t aB aW w' dC aj=>.inr (next t aB aW w' dC aj))
 ·rw[if_neg (by rw[eV];decide)]
  exact .inr (next t aQ _ _ ar (fy.refl w))
def GC(P:Program)(G:aY)(ops:Array Oper)(o:Oper)(s:aJ)(A:aJ→Prop):Prop:=∀E a w,Rel E G s a w→
 Region.wanted o (yielded ops a.tmps)=true∧∀(K:Act→World→Prop) (Q:Exit→Act→World→Prop),(∀t,A t→∀aW w',Rel E G t aW w'→K aW w')→o.wp P a w K Q
theorem e4.VK{L:List Oper}{Q:Exit→aJ→Prop}{wr:List Bool}{fuel:Nat}{m:List Bool}{s:aJ}{A:aJ→Prop}{i:Nat}{o:Oper}(ao:L[i]? =some o)(h:Region.ready .any L.toArray m.toArray=[i])(hw:wr.getD i false=true)
 (ah:GC P G L.toArray o s A)(k: ∀t,A t→e4 P G L Q wr fuel (m.set i true) t):e4 P G L Q wr (fuel+1) m s:=by
 intro E a w ae
 refine⟨fun hn=>(by rw[h]at hn;cases hn),fun j ai=>?_⟩
 rw[h]at ai
 rcases List.mem_cons.1 ai with rfl|ai
 rotate_left
 ·cases ai
 have eG:m.toArray.setIfInBounds j true=(m.set j true).toArray:=by simp
 have next: ∀t,A t→∀aW w',Rel E G t aW w'→wr.getD j false=true∧wpAny P .any L.toArray (lift E G (ml Q)) fuel (m.toArray.setIfInBounds j true) aW w':=fun t aB aW w' dC=>by
  rw[eG];exact⟨hw,(k t aB).cz E aW w' dC⟩
 unfold wpOp
 rw[show L.toArray[j]? =some o from by simpa using ao]
 simp only
 obtain⟨eV,ar⟩:=ah E a w ae
 rw[if_pos eV]
 exact .inl (ar _ _ fun t aB aW w' dC=>.inl (next t aB aW w' dC))
theorem jt.call{ops:Array Oper}{o:Oper}{s:aJ}{x:Operand}{xs:Array Operand}{ts:Array TypeId}(ao:o.op= .call {callee:=.value x,args:=xs,argTypes:=ts}){f:FuncId}{p q:List az}(hx:aE G s x= .fn (.func f) p q)(fR:lH P f=true)
 (ag:dD ops s o=some true)(ni:ep (p++xs.toList.map (aE G s)++q)=true){R:az→bp→Prop}(hc:dn P G f (p++xs.toList.map (aE G s)++q) [] 0 R){A:aJ→Prop}(fk: ∀r bE,R r bE→e1 r=true∧A (s.put o.dst r)):jt P G ops o s A:=by
 intro E a w ⟨β,ro,h⟩
 refine .inl ⟨mj ⟨β,ro,h⟩ ag,fun K Q hK=>?_⟩
 have iF:=h.eval x
 rw[hx]at iF
 generalize he:a.eval x=zg at iF
 cases iF with
 |fn _ _ _ c d aa af kj w1=>
  unfold Oper.wp;simp only[execOp,ao,resolve,he,Deferred.ofValue,Sem.run_bind,Sem.run_pure,Result.andThen_ok,invoke];rw[ze fR]
  have gv:=hc w β ro (c++xs.map a.eval++d) (by simp[aa,af,Nat.add_assoc]) (fun i y ax=>mf (Le (x:=x) (f:=.func f) h aa af kj w1 i y ax) (lG ni ax))
   ⟨by simp[aA],by simp[aA],fun b _ ⟨_,_,ag,_⟩=>by simp[aA]at ag,h.heap.lt⟩ h.ha (by simp[aA])
  refine Calls.mono gv fun e w' aH=>?_
  obtain⟨v,r,bE,dB,ro',cy,rfl,ae,c1,gO,cb⟩:=aH;obtain⟨VL,cW⟩:=fk r bE ae
  have iT: ∀b,¬Own ([]:bp) β b:=fun b ⟨_,_,ag,_⟩=>by simp[aA]at ag
  have kA: ∀b,b<w.heap.size→w'.heap[b]? =w.heap[b]? :=fun b ad=>cb.frame b ad (iT b)
  have cJ:=h.grow (w':=w') (ro':=ro') cb.os cb.tape cb.output cb.size kA cb.iV (fun b ad=>by
   rcases cb.h3 b ad with q|q|q
   ·exact .inl q
   ·exact absurd q (iT b)
   ·exact .inr ⟨q,gO.lt b ad⟩)
  exact hK _ cW _ _ ⟨β,ro',cJ.put o.dst r v (mf c1 VL)⟩ kA
theorem bL.VM{id:Nat}{L:List Oper}{Q:Exit→aJ→Prop}{wr:List Bool}{s:aJ}(n:Nat)(h:e4 P G L Q wr n (List.replicate n false) s)(mN:P.follows .mixedOrders=true)(hn:Nat.beq L.length n=true):bL P G (.region id L.toArray true) Q s:=bL.S4 n h.cz mN hn
end
end Go.aG
