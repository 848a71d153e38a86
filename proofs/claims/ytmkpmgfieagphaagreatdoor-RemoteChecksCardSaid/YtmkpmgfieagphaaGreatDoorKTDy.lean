/- TD, part V: loops that count: how they are made, their parts. Conditions: none. -/
import Derived.Test.YtmkpmgfieagphaaGreatDoorKTDu
import Derived.Test.YtmkpmgfieagphaaGreatDoorKTDa
namespace Go.aK
open Go
def aC.ends:aC→List (bZ × ao)
 | .cG x S=>[(x,S)]
 | .lt _ _ t=>t.ends
 | .eF _ t=>t.ends
 | .it _ a b=>a.ends++b.ends
 | .dB _ a _ k=>a.ends++k.ends
 | .en _ _ _ _ _ a k=>a.ends++k.ends
 | .eZ _ _ _ a k=>a.ends++k.ends
 | .bad _=>[]
def cp(S:ao):fL→List hD
 |[]=>[]
 |(i,r,p)::l=>⟨i,r,p.dc S,p⟩::cp S l
def x7(kx j:Nat):List b4→Bool
 |[]=>false
 | .d2 i (.jt .add .i64 .i64) x y::r=>match Nat.beq i j&&(eH x (.aT (.int .i64) kx)&&eH y (.cs (.int .i64 1)))with
  |true=>true
  |false=>x7 kx j r
 |_::r=>x7 kx j r
def Ff(kx b0:Nat)(aS:ao):Bool:=
 match aS.at b0 with
 | .aT (.int .i64) j=>x7 kx j aS.g
 |_=>false
def mH(J:gl)(n:Nat):gl:=⟨J.l,J.h,n,J.ps⟩
def vI(n:Nat):List (Nat × ab)→Bool
 |[]=>true
 |(_,x)::r=>ab.r5 n x&&vI n r
def Fg(J:gl)(aW kx b0:Nat)(aS:ao):Bool:=jz (mH J (Nat.max aS.n J.n)) aW aS&&Ff kx b0 aS
def tE(J cf:gl)(aW kx b0 cur:Nat):List (bZ × ao)→Bool
 |[]=>true
 |(.ch,aS)::r=>Fg J aW kx b0 aS&&tE J cf aW kx b0 cur r
 |(.ext m,aS)::r=>(match Nat.beq m cur with
  |true=>jz cf aW aS
  |false=>true)&&tE J cf aW kx b0 cur r
 |_::r=>tE J cf aW kx b0 cur r
def Fh(dO:ao):fL→Bool
 |[]=>true
 |(i,r,p)::l=>eH (p.dc dO) (.aT r i)&&Fh dO l
def aC.x8(cur:Nat):aC→Option ao
 | .lt _ _ t=>t.x8 cur
 | .cG (.ext m) S=>match Nat.beq m cur with
  |true=>some S
  |false=>none
 |_=>none
structure pE where
 J:gl
 cf:gl
 b0:Nat
 y:ab
def pE.kx(I:pE)(S:ao):Nat:=S.k+I.J.ps.length
def pE.H(I:pE)(S:ao):ao:=ao.put ⟨fk I.J.l,I.J.h,I.J.n,I.kx S+1,.rg (I.kx S) I.y::S.g⟩ (some I.b0) (.aT (.int .i64) (I.kx S))
def pE.E(I:pE)(S:ao):ao:=ao.put ⟨fk I.J.l,I.J.h,I.J.n,I.kx S,S.g⟩ (some I.b0) I.y
def Fi(S:ao)(x:ab):Nat→Bool
 |0=>false
 |n+1=>eH (S.at n) x||Fi S x n
def lenOf(j:Nat):List b4→Option (bK × ab)
 |[]=>none
 | .d1 i (.iT c) x::r=>match Nat.beq i j with
  |true=>some (c,x)
  |false=>lenOf j r
 |_::r=>lenOf j r
def An(c:bK)(x:ab):Bool:=
 match x.rt with
 |some (.li d)=>decide (d=c)
 |_=>false
def Bb(N:Nat)(S:ao)(y:ab):List fe:=
 match y with
 | .cs (.int .i64 n)=>match decide (0≤n∧n<9223372036854775808)with
  |true=>[]
  |false=>[.nth 9223372036854775808 y]
 | .aT (.int .i64) j=>match lenOf j S.g with
  |some (c,x)=>match Fi S x N&&An c x with
   |true=>[]
   |false=>[.nth 9223372036854775808 y]
  |none=>[.nth 9223372036854775808 y]
 |y=>[.nth 9223372036854775808 y]
def isInt(y:ab):Bool:=
 match y.rt with
 |some (.int .i64)=>true
 |_=>false
def Ue(N B cur:Nat)(S:ao)(I:pE)(t1 t2:aC):Bool:=
 (il S.k I.J.ps&&(r4 (I.kx S) I.J.l&&eG (I.kx S) I.J.h))&&((eH (S.at I.b0) (.cs (.int .i64 0))&&(isInt I.y&&I.y.lt S.k))&&
 ((jz (mH I.J (Nat.max S.n I.J.n)) S.k S&&(vI I.J.n I.J.l&&oe I.J.n I.J.h))&&((Nat.blt I.b0 N&&Nat.ble B I.J.n)&&
 (tE I.J ⟨I.cf.l,I.cf.h,I.cf.n,I.J.ps⟩ S.k (I.kx S) I.b0 cur t1.ends&&((r4 (I.kx S) I.cf.l&&eG (I.kx S) I.cf.h)&&(match t2.x8 cur with
  |some dO=>jz ⟨I.cf.l,I.cf.h,I.cf.n,I.J.ps⟩ S.k dO&&Fh dO I.J.ps
  |none=>false))))))
def Uf(N B cur:Nat)(S:ao)(I:pE)(t1 t2:aC):aC:=
 match Ue N B cur S I t1 t2 with
 |true=>emit S.k [] (Bb N S I.y) (.en (t1.lvl+1) cur (.rR (.int .i64) I.y) (I.kx S) (cp S I.J.ps) (t1.rel (fJ (t1.lvl+1))) (.cG (.ext cur) ⟨fk I.cf.l,I.cf.h,I.cf.n,I.kx S,S.g⟩))
 |false=>.bad (x6 t1.nq 60)
def x9(N B:Nat)(f:ao→aC)(cur:Nat)(S:ao)(I:pE):aC:=Uf N B cur S I (f (I.H S)) (f (I.E S))
section
variable {P:Program} {G:a7} {N B:Nat} {M:List aQ}
theorem oh: ∀{t:aC} {x:bZ} {e ay:Env} {S:ao},run M t e=some (x,S,ay)→(x,S)∈t.ends
 | .cG x S0,_,e,ay,S,h=>by
  simp only[run,aC.fold]at h;cases h;simp[aC.ends]
 | .lt _ _ t,_,_,_,_,h=>oh (t:=t) h
 | .eF _ t,_,_,_,_,h=>oh (t:=t) h
 | .it c a b,_,e,ay,S,h=>by
  simp only[run,aC.fold]at h;simp only[aC.ends,List.mem_append]
  cases hc:c.az e .bool with
  |true=>rw[hc]at h;exact .inl (oh (t:=a) h)
  |false=>rw[hc]at h;exact .inr (oh (t:=b) h)
 | .dB n a ps k,y,e,ay,S,h=>by
  simp only[aC.ends,List.mem_append]
  cases ag:run M a e with
  |none=>unfold run at h;rw[tf ag]at h;cases h
  |some l=>
   obtain⟨x,aS,aB⟩:=l
   cases hx:x.bS n with
   |true=>
    unfold run at h;rw[qD ag hx]at h;exact .inr (oh (t:=k) h)
   |false=>
    unfold run at h;rw[ng ag hx]at h;cases h;exact .inl (oh (t:=a) ag)
 | .en m xid dj b0 ca a k,y,e,ay,S,h=>by
  rw[EH]at h;simp only[aC.ends,List.mem_append]
  cases aq:bn (fun i (v:bX ca)=>c3 M m xid ca a (bk (a8.put e b0 ⟨.int .i64,(i:Int)⟩) ca v) v) 0 (cl (dj.den M e)).toNat (b8 _ (dD e ca))with
  |inl r=>
   rw[aq]at h
   have h:r=some (y,S,ay):=h
   subst h;obtain⟨i,v,ad⟩:=Mf aq;exact .inl (oh (t:=a) (EG ad))
  |inr v=>rw[aq]at h;exact .inr (oh (t:=k) h)
 | .eZ m xid ca a k,y,e,ay,S,h=>by
  rw[EI]at h;simp only[aC.ends,List.mem_append]
  cases aq:c4 (fun(v:bX ca)=>c3 M m xid ca a (bk e ca v) v) dU (b8 _ (dD e ca))with
  |inl r=>
   rw[aq]at h
   have h:r=some (y,S,ay):=h
   subst h;obtain⟨v,ad⟩:=Mg aq;exact .inl (oh (t:=a) (EG ad))
  |inr v=>rw[aq]at h;exact .inr (oh (t:=k) h)
 | .bad _,_,_,_,_,h=>by cases h
theorem Ug(S:ao)(e:Env): ∀ca:List hD,dx (rU ca) (b8 (rU ca) (fz S e ca))=fz S e ca
 |[]=>rfl
 |[a]=>by simp only[rU,fz,b8,dx,cA]
 |a::b::l=>by
  have:=Ug S e (b::l)
  simp only[rU,fz]at this;simp only[rU,fz,b8,dx,cA,this]
theorem M6{S:ao}{e:Env}: ∀{ps:fL},dD e (cp S ps)=fz S e (cp S ps)
 |[]=>rfl
 |(_,_,_)::l=>by simp only[cp,dD,fz,M6 (ps:=l)]
theorem Bc{S0 aS:ao}{e aB:Env}{ps:fL}:bk e (cp S0 ps) (b8 _ (fz aS aB (cp S0 ps)))=fQ e (fun r p=>⟨r,(p.dc aS).get aB r⟩) ps:=by
 unfold bk
 rw[Ug]
 induction ps generalizing e with
 |nil=>rfl
 |cons q l aX=>
  obtain⟨i,r,p⟩:=q;simp only[cp,fz,rV,fQ];exact aX
theorem Uh{i:Nat}: ∀{ca:List hD} {e:Env} {ds:List aF},(∀a∈ca,a.i≠i)→Env.at (rV e ca ds) i=Env.at e i
 |[],_,[],_=>rfl
 |[],_,_::_,_=>rfl
 |_::_,_,[],_=>rfl
 |a::l,e,d::ds,h=>by
  simp only[rV];rw[Uh (ca:=l) fun b ad=>h b (by simp[ad]),Env.ih,if_neg (h a (by simp))]
theorem Ui{S:ao}: ∀{ps:fL} {k:Nat},il k ps=true→∀a∈cp S ps,k≤a.i∧a.i<k+ps.length
 |(j,r,p)::l,k,h,a,aZ=>by
  simp only[il,Bool.and_eq_true]at h
  have af:=Nat.eq_of_beq_eq_true h.1
  simp only[cp]at aZ
  rcases List.mem_cons.1 aZ with rfl|aZ
  ·simp only[List.length_cons];omega
  ·have:=Ui (k:=k+1) h.2.2 a aZ
   simp only[List.length_cons];omega
 |[],_,_,a,aZ=>by cases aZ
theorem ya{S:ao}{e:Env}{ps:fL}{k i:Nat}{v:bX (cp S ps)}(h:il k ps=true)(hi:i<k∨k+ps.length≤i):Env.at (bk e (cp S ps) v) i=Env.at e i:=
 Uh fun a aZ=>by have:=Ui h a aZ;omega
theorem Uj{S:ao}: ∀{ps:fL} {k:Nat} {e:Env} {v:bX (cp S ps)},il k ps=true→∀{i:Nat} {r:aU} {p:ez},iV ps i=some (r,p)→(Env.at (bk e (cp S ps) v) i).r=r
 |[],_,_,_,_,_,_,_,ak=>by cases ak
 |[(j,eP,fW)],k,e,v,h,i,r,p,ak=>by
  simp only[iV]at ak
  split at ak
  ·rename_i ad
   cases ak;rw[←Nat.eq_of_beq_eq_true ad];simp only[bk,cp,rU,dx,rV];rw[Env.ih,if_pos rfl]
  ·cases ak
 |(j,eP,fW)::q::l,k,e,v,h,i,r,p,ak=>by
  simp only[il,Bool.and_eq_true]at h
  have af:=Nat.eq_of_beq_eq_true h.1
  obtain⟨bN,eQ,pC⟩:=q
  have ai:bk e (cp S ((j,eP,fW)::(bN,eQ,pC)::l)) v=bk (a8.put e j ⟨eP,v.1⟩) (cp S ((bN,eQ,pC)::l)) v.2:=rfl
  have ae:il (k+1) ((bN,eQ,pC)::l)=true:=by
   simp only[il,Bool.and_eq_true];exact h.2.2
  simp only[iV]at ak
  split at ak
  ·rename_i ad
   cases ak
   have:=Nat.eq_of_beq_eq_true ad
   rw[ai];refine(congrArg aF.r (ya (S:=S) (e:=a8.put e j ⟨eP,v.1⟩) (ps:=(bN,eQ,pC)::l) (k:=k+1) (i:=i) (v:=v.2) ae (.inl (by omega)))).trans ?_
   rw[Env.ih,if_pos this]
  ·rw[ai]
   exact Uj (S:=S) (e:=a8.put e j ⟨eP,v.1⟩) (ps:=(bN,eQ,pC)::l) (k:=k+1) (v:=v.2) ae ak
theorem Uk{f:aU→ez→aF}{i:Nat}: ∀{ps:fL} {e ay:Env},Env.at e i=Env.at ay i→Env.at (fQ e f ps) i=Env.at (fQ ay f ps) i
 |[],_,_,h=>h
 |(j,r,p)::l,e,ay,h=>by
  simp only[fQ];refine Uk (ps:=l) ?_
  rw[Env.ih,Env.ih,h]
theorem zgM{c:Code}{R A:Type}{n:Nat}{b:Nat→A→Step R A}{a0:A}{hd:Nat→A→aO}{Q:Exit→aO→Prop}{dq:aO}{I:Nat→A→Prop}
    (aL:cm dq (hd 0 a0))(hi:I 0 a0)
    (ag: ∀k a,k<n→I k a→bn b 0 n a0=bn b k (n-k) a→b1 P G c (fun e st=>match e with
      | .normal=>∃bb,b k a= .bq bb∧I (k+1) bb∧cm st (hd (k+1) bb)
      |e=>Q e st) (hd k a))
    (he: ∀a,I n a→bn b 0 n a0= .inr a→b1 P G c (fun e st=>match e with
      | .normal=>False
      |e=>Q e st) (hd n a)):b1 P G (.loop c) Q dq:=by
  refine b1.loop (ι:=Nat × A) (fun x=>hd x.1 x.2) (fun x=>x.1≤n∧bn b 0 n a0=bn b x.1 (n-x.1) x.2∧I x.1 x.2) (fun x=>n-x.1) (0,a0) aL ⟨Nat.zero_le _,rfl,hi⟩ ?_
  rintro⟨k,a⟩ ⟨aj,fK,bV⟩
  simp only at aj fK bV⊢
  by_cases o5:k<n
  · refine b1.mono (ag k a o5 bV fK) fun e st ai=>?_
    cases e with
    |normal=>
      obtain⟨bb,aa,au,ae⟩:=ai;exact⟨(k+1,bb),⟨o5,zee fK o5 aa,au⟩,by show n-(k+1)<n-k;omega,ae⟩
    |_=>exact ai
  · have:k=n:=by omega
    subst this;refine b1.mono (he a bV (zeh fK (Nat.le_refl _))) fun e st ai=>?_
    cases e with
    |normal=>exact ai.elim
    |_=>exact ai
theorem cm.low{aN:List aD}{h:Heap}{m n b:Nat}(aa:la n aN=true)(ae:lb n h=true)(au:b≤n):cm ⟨aN,h,m,b⟩ ⟨aN,h,n,b⟩:=by
 intro E G a w ⟨β,ro,ag⟩
 refine⟨β,ro,ag.defers,ag.size,fun i x hx=>?_,⟨fun id o ah=>?_,ag.heap.inj,ag.heap.fg,ag.heap.lt⟩,ag.ib,?_,ag.base⟩
 ·exact(ag.slot i x hx).lower (rD aa hx)
 ·have an:=ag.heap.c5 id o ah
  obtain⟨_,zS⟩:=rE ae ah
  cases an with
  |box t cs b arr aB bd cj eo=>exact .box t cs b arr aB bd cj fun j x af=>(eo j x af).lower (rD (zS t cs rfl) af)
  |row t n es xs aB bd cj=>exact .row t n es xs aB bd cj
  |ga t n es aB=>exact .ga t n es aB
  |bL bO b o aB bd cj=>exact .bL bO b o aB bd cj
 ·have t:=ag.trans
  exact⟨t.os,t.tape,t.output,t.size,t.frame,t.jk,t.j1,t.hj,t.dK,fun id o ah=>(rE ae ah).1,Nat.le_trans ag.base au⟩
theorem M7{n:Nat}{e:Env}{l:a8 ab}(h: ∀i x,l.get i=some x→ab.r5 n x=true): ∀(k i:Nat),la n (kc G e l i k)=true
 |0,_=>rfl
 |k+1,i=>by
  simp only[kc,la,M7 h k (i+1),Bool.and_true]
  cases ah:l.get i with
  |none=>rfl
  |some x=>exact E3 (h i x ah)
theorem M8{n:Nat}: ∀{l:List (Nat × ab)},vI n l=true→∀{i:Nat} {x:ab},(i,x)∈l→ab.r5 n x=true
 |(_,_)::r,h,i,x,hm=>by
  simp only[vI,Bool.and_eq_true]at h
  rcases List.mem_cons.1 hm with q|q
  ·cases q;exact h.1
  ·exact M8 h.2 q
theorem Ul{J:gl}{aW kx b0 j:Nat}{S0 aS:ao}{e aB:Env}{k:Nat}{g g':List b4}(ak:il aW J.ps=true)(r8:kx=aW+J.ps.length)(aq:r4 kx J.l=true)(ba:eG kx J.h=true)
 (mg: ∀c∈aS.g,c.ok aB)(h:jz (mH J (Nat.max aS.n J.n)) aW aS=true)(ig:vI J.n J.l=true)(pa:oe J.n J.h=true)(gR:B≤J.n)(vJ:b0<N)(bQ:bW aW e aB)(aw:(aS.at b0).den G aB= .av (.v (.int .i64 (j:Int)))):
 cm (aS.den G N B aB) ((ao.put ⟨fk J.l,J.h,J.n,k,g⟩ (some b0) (.aT (.int .i64) kx)).den G N B (bk (a8.put e kx ⟨.int .i64,(j:Int)⟩) (cp S0 J.ps) (b8 _ (fz aS aB (cp S0 J.ps))))):=by
 have aa:=Mi (G:=G) (N:=N) (B:=B) (J:=mH J (Nat.max aS.n J.n)) ak mg h (g:=g') bQ
 have ae:=aa.put (i:=b0) (x:=.v (.int .i64 (j:Int))) (by rw[vj,if_pos vJ,aw])
 refine ae.le.trans ?_
 rw[Bc,fa]
 have zgN:Env.at (fQ (a8.put e kx ⟨.int .i64,(j:Int)⟩) (fun r p=>⟨r,(p.dc aS).get aB r⟩) J.ps) kx=⟨.int .i64,(j:Int)⟩:=by
  rw[←Bc (S0:=S0),ya ak (.inr (by omega)),Env.ih,if_pos rfl]
 have Um:(ab.aT (.int .i64) kx).den G (fQ (a8.put e kx ⟨.int .i64,(j:Int)⟩) (fun r p=>⟨r,(p.dc aS).get aB r⟩) J.ps)= .av (.v (.int .i64 (j:Int))):=by
  simp only[ab.den,zgN,cA,fG,j8]
 rw[Um]
 have dn:bW kx (fQ e (fun r p=>⟨r,(p.dc aS).get aB r⟩) J.ps) (fQ (a8.put e kx ⟨.int .i64,(j:Int)⟩) (fun r p=>⟨r,(p.dc aS).get aB r⟩) J.ps):=fun i hi=>
  Uk (by rw[Env.ih,if_neg (by omega)])
 have qO:(⟨fk J.l,J.h,J.n,kx,[]⟩:ao).cr:=⟨fun i x hx=>tw aq (pz hx),ba,rfl⟩
 have aj:=lu (G:=G) (N:=N) (B:=B) (S:=⟨fk J.l,J.h,J.n,kx,[]⟩) dn qO
 have au:(ao.mk (fk J.l) J.h J.n k g).den G N B (fQ (a8.put e kx ⟨.int .i64,(j:Int)⟩) (fun r p=>⟨r,(p.dc aS).get aB r⟩) J.ps)=(ao.mk (fk J.l) J.h J.n kx []).den G N B (fQ e (fun r p=>⟨r,(p.dc aS).get aB r⟩) J.ps):=aj
 rw[au]
 refine cm.low (m:=Nat.max aS.n J.n) ?_ ?_ gR
 ·have:=M7 (G:=G) (e:=fQ (a8.put e kx ⟨.int .i64,(j:Int)⟩) (fun r p=>⟨r,(p.dc aS).get aB r⟩) J.ps) (n:=J.n) (l:=(fk J.l).put b0 (.aT (.int .i64) kx)) (fun i x hx=>by
   rw[a8.hZ]at hx
   split at hx
   ·cases hx;rfl
   ·exact M8 ig (pz hx)) N 0
  rw[Lc,Um]at this
  have qk:kc G (fQ (a8.put e kx ⟨.int .i64,(j:Int)⟩) (fun r p=>⟨r,(p.dc aS).get aB r⟩) J.ps) (fk J.l) 0 N=kc G (fQ e (fun r p=>⟨r,(p.dc aS).get aB r⟩) J.ps) (fk J.l) 0 N:=congrArg aO.cR aj
  rw[qk]at this;exact this
 ·exact xW pa
end
end Go.aK
namespace Go.aK
open Go
section
variable {P:Program} {G:a7} {N B:Nat} {M:List aQ}
theorem Un{S:ao}{x:ab}: ∀{n:Nat},Fi S x n=true→∃i,i<n∧S.at i=x
 |n+1,h=>by
  simp only[Fi,Bool.or_eq_true]at h
  rcases h with h|h
  ·exact⟨n,Nat.lt_succ_self n,e0 h⟩
  ·obtain⟨i,aa,ae⟩:=Un h
   exact⟨i,by omega,ae⟩
theorem Bd{j:Nat}{c:bK}{x:ab}{e:Env}: ∀{l:List b4},lenOf j l=some (c,x)→(∀c∈l,c.ok e)→Env.at e j=⟨.int .i64,(List.length (x.az e (.li c)):Int)⟩
 | .d1 i f y::r,h,hc=>by
  have ag: ∀{c x},lenOf j r=some (c,x)→Env.at e j=⟨.int .i64,(List.length (x.az e (.li c)):Int)⟩:=fun h=>Bd h fun c hm=>hc c (by simp[hm])
  have aL:=hc (.d1 i f y) (by simp)
  cases f with
  |iT d=>
   simp only[lenOf]at h
   split at h
   ·rename_i ad
    cases h;rw[←Nat.eq_of_beq_eq_true ad];exact aL
   ·exact ag h
  |_=>exact ag h
 | .d2 _ _ _ _::r,h,hc=>Bd (l:=r) h fun c hm=>hc c (by simp[hm])
 | .rg _ _::r,h,hc=>Bd (l:=r) h fun c hm=>hc c (by simp[hm])
 | .dT _ _::r,h,hc=>Bd (l:=r) h fun c hm=>hc c (by simp[hm])
theorem zgO{S:ao}{y:ab}{e:Env}{Uo:Entry}{a:Act}{w:World}(hf:S.ct e)(h: ∀n∈Bb N S y,n.ok M e)(ag:Rel Uo G (S.den G N B e) a w):0≤cl (y.dyn e)∧cl (y.dyn e)<9223372036854775808:=by
 have key:(fe.nth 9223372036854775808 y).ok M e→0≤cl (y.dyn e)∧cl (y.dyn e)<9223372036854775808:=fun h=>h
 unfold Bb at h
 split at h
 ·rename_i n
  split at h
  ·rename_i hd
   exact of_decide_eq_true hd
  ·exact key (h _ (by simp))
 ·rename_i j
  split at h
  ·rename_i c x aq
   split at h
   ·rename_i ad
    simp only[Bool.and_eq_true]at ad;obtain⟨i,hi,hx⟩:=Un ad.1
    have aa:=Bd aq hf
    have zgP:x.rt=some (.li c):=by
     have:=ad.2
     unfold An at this
     split at this
     ·rename_i d hd
      rw[hd,of_decide_eq_true this]
     ·cases this
    have ae:=fX (G:=G) (e:=e) zgP
    have vK:aI G (S.den G N B e) (.tmp i)= .av (.li c (x.az e (.li c))):=by
     simp only[aI,List.getD_eq_getElem?_getD,vj,if_pos hi,hx,ae]
     rfl
    have:=zeD ag vK
    have hd:cl ((ab.aT (.int .i64) j).dyn e)=(List.length (x.az e (.li c)):Int):=by
     simp only[ab.dyn,aa,cA,cl]
    rw[hd];omega
   ·exact key (h _ (by simp))
  ·exact key (h _ (by simp))
 ·exact key (h _ (by simp))
theorem Be{kx j:Nat}{e:Env}: ∀{l:List b4},x7 kx j l=true→(∀c∈l,c.ok e)→Env.at e j=⟨.int .i64,IntKind.i64.wrap (((Env.at e kx).as (.int .i64):Int)+1)⟩
 | .d2 i f x y::r,h,hc=>by
  have ag:x7 kx j r=true→Env.at e j=⟨.int .i64,IntKind.i64.wrap (((Env.at e kx).as (.int .i64):Int)+1)⟩:=fun h=>Be h fun c hm=>hc c (by simp[hm])
  have aL:=hc (.d2 i f x y) (by simp)
  unfold x7 at h
  split at h
  ·cases h
  ·rename_i heq
   cases heq
   split at h
   ·rename_i ad
    simp only[Bool.and_eq_true]at ad;rw[←Nat.eq_of_beq_eq_true ad.1]
    have aL:Env.at e i=_:=aL
    rw[aL,e0 ad.2.1,e0 ad.2.2];simp only[cC.den,ab.az,ab.fq,ab.dyn,cA,bz]
   ·exact ag h
  ·rename_i heq
   cases heq;exact ag h
 | .d1 _ _ _::r,h,hc=>Be (l:=r) h fun c hm=>hc c (by simp[hm])
 | .rg _ _::r,h,hc=>Be (l:=r) h fun c hm=>hc c (by simp[hm])
 | .dT _ _::r,h,hc=>Be (l:=r) h fun c hm=>hc c (by simp[hm])
theorem zgQ{kx b0:Nat}{aS:ao}{e:Env}{i:Nat}(h:Ff kx b0 aS=true)(hf:aS.ct e)(aj:Env.at e kx=⟨.int .i64,(i:Int)⟩)(hi:(i:Int)<9223372036854775807):(aS.at b0).den G e= .av (.v (.int .i64 ((i+1:Nat):Int))):=by
 unfold Ff at h
 split at h
 ·rename_i j hx
  have:=Be h hf
  rw[hx];simp only[ab.den,this,cA,aj,fG,j8];rw[zdU (by omega)]
 ·cases h
theorem Up{cur:Nat}: ∀{t:aC} {e:Env} {S:ao},t.x8 cur=some S→t.safe M e∧∃ay,run M t e=some (.ext cur,S,ay)
 | .lt _ _ t,e,S,h=>Up (t:=t) h
 | .cG x S0,e,S,h=>by
  refine⟨trivial,?_⟩
  unfold aC.x8 at h
  split at h
  ·rename_i heq;cases heq
  ·rename_i m db heq
   cases heq
   split at h
   ·rename_i ad
    cases h;rw[←Nat.eq_of_beq_eq_true ad];exact⟨e,rfl⟩
   ·cases h
  ·cases h
 | .eF _ _,_,_,h=>by cases h
 | .it _ _ _,_,_,h=>by cases h
 | .dB _ _ _ _,_,_,h=>by cases h
 | .en _ _ _ _ _ _ _,_,_,h=>by cases h
 | .eZ _ _ _ _ _,_,_,h=>by cases h
 | .bad _,_,_,h=>by cases h
theorem Uq{dO:ao}: ∀{ps:fL},Fh dO ps=true→∀{i:Nat} {r:aU} {p:ez},iV ps i=some (r,p)→p.dc dO= .aT r i
 |(j,eP,fW)::l,h,i,r,p,ak=>by
  simp only[Fh,Bool.and_eq_true]at h;simp only[iV]at ak
  split at ak
  ·rename_i ad
   cases ak;rw[e0 h.1,Nat.eq_of_beq_eq_true ad]
  ·exact Uq h.2 ak
theorem Ur{J cf:gl}{aW kx b0 cur:Nat}: ∀{l:List (bZ × ao)},tE J cf aW kx b0 cur l=true→∀{x:bZ} {aS:ao},(x,aS)∈l→(x= .ch→Fg J aW kx b0 aS=true)∧(x= .ext cur→jz cf aW aS=true)
 |(y,dO)::r,h,x,aS,hm=>by
  have ba:tE J cf aW kx b0 cur r=true∧(y= .ch→Fg J aW kx b0 dO=true)∧(y= .ext cur→jz cf aW dO=true):=by
   cases y with
   |ch=>
    simp only[tE,Bool.and_eq_true]at h;exact⟨h.2,fun _=>h.1,fun e=>(by cases e)⟩
   |ext m=>
    simp only[tE,Bool.and_eq_true]at h;refine⟨h.2,fun e=>(by cases e),fun e=>?_⟩
    cases e
    have aa:=h.1
    rw[Nat.beq_refl]at aa;exact aa
   |ret=>exact⟨h,fun e=>(by cases e),fun e=>(by cases e)⟩
   |lq m=>exact⟨h,fun e=>(by cases e),fun e=>(by cases e)⟩
  rcases List.mem_cons.1 hm with q|q
  ·cases q;exact ba.2
  ·exact Ur ba.1 q
theorem b1.rel{c:Code}{Q:Exit→aO→Prop}{s:aO}(h:(∃E a w,Rel E G s a w)→b1 P G c Q s):b1 P G c Q s:=fun E a w ag=>h ⟨E,a,w,ag⟩ E a w ag
theorem zgR{ps:fL}: ∀{k i:Nat},il k ps=true→k≤i→i<k+ps.length→∃r p,iV ps i=some (r,p):=by
 induction ps with
 |nil=>intro k i _ aa ae;simp at ae;omega
 |cons q l aX=>
  obtain⟨j,r,p⟩:=q;intro k i h aa ae;simp only[il,Bool.and_eq_true]at h
  have af:=Nat.eq_of_beq_eq_true h.1
  simp only[iV]
  split
  ·exact⟨r,p,rfl⟩
  ·rename_i ad
   refine aX h.2.2 ?_ (by simp only[List.length_cons]at ae;omega)
   have:j≠i:=fun e=>by rw[e,Nat.beq_refl]at ad;cases ad
   omega
theorem Us{i:Nat}: ∀{ca:List hD} {e ay:Env} {ds:List aF},Env.at e i=Env.at ay i→Env.at (rV e ca ds) i=Env.at (rV ay ca ds) i
 |[],_,_,[],h=>h
 |[],_,_,_::_,h=>h
 |_::_,_,_,[],h=>h
 |a::l,e,ay,d::ds,h=>by
  simp only[rV];refine Us (ca:=l) ?_
  rw[Env.ih,Env.ih,h]
theorem M9{c:Code}{f:ao→aC}(hf:jb P G N B M c f){cur:Nat}{S:ao}{I:pE}{e:Env}(ad:S.cr)(e7:S.ct e)(ai:(x9 N B f cur S I).safe M e):b1 P G (.loop c) (jA G N B M (x9 N B f cur S I) e S.k) (S.den G N B e):=by
 unfold x9 Uf at ai⊢
 split at ai
 rotate_left
 ·exact ai.elim
 rename_i tF
 generalize Bf:f (I.H S)=t1 at ai tF⊢
 generalize Ut:f (I.E S)=t2 at tF
 simp only[Ue,Bool.and_eq_true]at tF
 obtain⟨⟨aV,dp,c7⟩,⟨gi,iN,kC⟩,⟨jH,wM,wN⟩,⟨zz,qg⟩,sO,⟨C9,Da⟩,wO⟩:=tF
 have zz:=e6 zz
 have qg:=Nat.le_of_ble_eq_true qg
 obtain⟨gU,gu⟩:=mF ai
 have gu:(aC.en (t1.lvl+1) cur (.rR (.int .i64) I.y) (I.kx S) (cp S I.J.ps) (t1.rel (fJ (t1.lvl+1))) (.cG (.ext cur) ⟨fk I.cf.l,I.cf.h,I.cf.n,I.kx S,S.g⟩)).safe M e:=gu
 refine b1.rel fun⟨Uo,ac,w,dA⟩=>?_
 obtain⟨xD,z2⟩:=zgO (M:=M) (e:=e) e7 gU dA
 have Na:I.y.rt=some (.int .i64):=by
  unfold isInt at iN
  split at iN
  ·assumption
  ·cases iN
 generalize gO:aC.en (t1.lvl+1) cur (.rR (.int .i64) I.y) (I.kx S) (cp S I.J.ps) (t1.rel (fJ (t1.lvl+1))) (.cG (.ext cur) ⟨fk I.cf.l,I.cf.h,I.cf.n,I.kx S,S.g⟩)=qQ at gu
 have zgS:run M (emit S.k [] (Bb N S I.y) qQ) e=run M qQ e:=lU
 refine b1.mono (Q':=jA G N B M (emit S.k [] (Bb N S I.y) qQ) e S.k) ?_ fun ex st h=>h
 refine b1.mono (Q:=jA G N B M qQ e S.k) ?_ fun ex st h=>h.sub zgS (bW.refl _ _) (Nat.le_refl _)
 have r8:I.kx S=S.k+I.J.ps.length:=rfl
 have yb:I.H S=ao.put ⟨fk I.J.l,I.J.h,I.J.n,I.kx S+1,.rg (I.kx S) I.y::S.g⟩ (some I.b0) (.aT (.int .i64) (I.kx S)):=rfl
 have Fj:I.E S=ao.put ⟨fk I.J.l,I.J.h,I.J.n,I.kx S,S.g⟩ (some I.b0) I.y:=rfl
 generalize hT:I.kx S=kx at*
 have qO:cl ((bJ.rR (.int .i64) I.y).den M e)=cl (I.y.dyn e):=by
  rw[lS Na];rfl
 generalize sN:cl (I.y.dyn e)=Z at*
 have Nb:t1.lvl<t1.lvl+1:=Nat.lt_succ_self _
 have od:=K6 Nb
 subst gO
 obtain⟨⟨Inv,Nc,Fk⟩,aj⟩:=gu
 rw[qO]at Fk
 have cq: ∀L,bn (fun i (v:bX (cp S I.J.ps))=>c3 M (t1.lvl+1) cur (cp S I.J.ps) (t1.rel (fJ (t1.lvl+1))) (bk (a8.put e kx ⟨.int .i64,(i:Int)⟩) (cp S I.J.ps) v) v) 0 Z.toNat (b8 _ (dD e (cp S I.J.ps)))=L→
  run M (aC.en (t1.lvl+1) cur (.rR (.int .i64) I.y) kx (cp S I.J.ps) (t1.rel (fJ (t1.lvl+1))) (.cG (.ext cur) ⟨fk I.cf.l,I.cf.h,I.cf.n,kx,S.g⟩)) e=Sum.elim (fun r=>r) (fun v=>some (.ext cur,⟨fk I.cf.l,I.cf.h,I.cf.n,kx,S.g⟩,bk e (cp S I.J.ps) v)) L:=fun L fK=>by
  rw[EH,qO,fK];rfl
 generalize zgT:aC.en (t1.lvl+1) cur (.rR (.int .i64) I.y) kx (cp S I.J.ps) (t1.rel (fJ (t1.lvl+1))) (.cG (.ext cur) ⟨fk I.cf.l,I.cf.h,I.cf.n,kx,S.g⟩)=qQ at cq

 have yc: ∀(i:Nat) (v:bX (cp S I.J.ps)),bW S.k e (bk (a8.put e kx ⟨.int .i64,(i:Int)⟩) (cp S I.J.ps) v):=fun i v j af=>by
  rw[ya aV (.inl af),Env.ih,if_neg (by omega)]
 have Nd: ∀(i:Nat) (v:bX (cp S I.J.ps)),Env.at (bk (a8.put e kx ⟨.int .i64,(i:Int)⟩) (cp S I.J.ps) v) kx=⟨.int .i64,(i:Int)⟩:=fun i v=>by
  rw[ya aV (.inr (by omega)),Env.ih,if_pos rfl]
 have zgU: ∀(i:Nat) (v:bX (cp S I.J.ps)),bW kx (bk (a8.put e kx ⟨.int .i64,(i:Int)⟩) (cp S I.J.ps) v) (bk e (cp S I.J.ps) v):=fun i v j af=>by
  refine Us ?_
  rw[Env.ih,if_neg (by omega)]
 have tG: ∀(v:bX (cp S I.J.ps)),bW S.k e (bk e (cp S I.J.ps) v):=fun v j af=>ya aV (.inl af)
 have zgV:(I.H S).k=kx+1:=by rw[yb,je]
 have zgW:(I.E S).k=kx:=by rw[Fj,je]
 have Uu:I.y.lt kx=true:=gD (by omega) kC
 have Nf:(I.H S).cr:=by
  rw[yb];refine jc ⟨fun i x hx=>gD (Nat.le_succ kx) (tw dp (pz hx)),tj (Nat.le_succ kx) c7,?_⟩ (jR (Nat.lt_succ_self kx))
  show(b4.lt (kx+1) (.rg kx I.y)&&fj (kx+1) S.g)=true;simp only[b4.lt,gD (Nat.le_succ kx) Uu,jR (Nat.lt_succ_self kx),n9 (show S.k≤kx+1 by omega) ad.g,Bool.and_self]
 have zgX:(I.E S).cr:=by
  rw[Fj];exact jc ⟨fun i x hx=>tw dp (pz hx),c7,n9 (show S.k≤kx by omega) ad.g⟩ Uu
 have Uv: ∀ay,bW S.k e ay→cl (I.y.dyn ay)=Z:=fun ay h=>by rw[rP h kC,sN]
 have Ng: ∀(i:Nat) (v:bX (cp S I.J.ps)),i<Z.toNat→(I.H S).ct (bk (a8.put e kx ⟨.int .i64,(i:Int)⟩) (cp S I.J.ps) v):=fun i v hi=>by
  rw[yb];refine jd fun d hd=>?_
  rcases List.mem_cons.1 hd with rfl|hd
  ·show 0≤cl (Env.at _ kx)∧cl (Env.at _ kx)<cl (I.y.dyn _)
   rw[Nd,Uv _ (yc i v)];show 0≤(i:Int)∧(i:Int)<Z;omega
  ·exact ij (yc i v) ad.g e7 d hd
 have zgY: ∀(i:Nat) (v:bX (cp S I.J.ps)),(I.E S).ct (bk (a8.put e kx ⟨.int .i64,(i:Int)⟩) (cp S I.J.ps) v):=fun i v=>by
  rw[Fj];exact jd (ij (yc i v) ad.g e7)
 have Fl: ∀db:ao,db=⟨fk I.cf.l,I.cf.h,I.cf.n,kx,S.g⟩→db.cr:=fun db h=>by
  subst h;exact⟨fun i x hx=>tw C9 (pz hx),Da,n9 (show S.k≤kx by omega) ad.g⟩

 have lW: ∀(v:bX (cp S I.J.ps)) (st:aO),run M qQ e=some (.ext cur,⟨fk I.cf.l,I.cf.h,I.cf.n,kx,S.g⟩,bk e (cp S I.J.ps) v)→cm st ((ao.mk (fk I.cf.l) I.cf.h I.cf.n kx S.g).den G N B (bk e (cp S I.J.ps) v))→jA G N B M qQ e S.k (.exit cur) st:=fun v st aa ae=>
  ⟨.ext cur,_,_,aa,rfl,ae,Fl _ rfl,ij (tG v) ad.g e7,tG v,(show S.k≤kx by omega)⟩
 refine zgM (n:=Z.toNat) (b:=fun i (v:bX (cp S I.J.ps))=>c3 M (t1.lvl+1) cur (cp S I.J.ps) (t1.rel (fJ (t1.lvl+1))) (bk (a8.put e kx ⟨.int .i64,(i:Int)⟩) (cp S I.J.ps) v) v) (a0:=b8 _ (dD e (cp S I.J.ps)))
  (hd:=fun i v=>(I.H S).den G N B (bk (a8.put e kx ⟨.int .i64,(i:Int)⟩) (cp S I.J.ps) v)) (I:=Inv) ?_ Nc (fun k v o5 bV fK=>?_) (fun v bV fK=>?_)
 ·rw[M6,yb]
  exact Ul (g':=S.g) aV r8 dp c7 e7 jH wM wN qg zz (bW.refl _ _) (by rw[e0 gi];rfl)
 ·obtain⟨c0,df⟩:=Fk k v o5 bV
  have yd:=hf (I.H S) (bk (a8.put e kx ⟨.int .i64,(k:Int)⟩) (cp S I.J.ps) v) Nf (Ng k v o5) (by rw[Bf];exact(k6 od).1 c0)
  refine b1.mono yd fun ex st ⟨x,aS,aB,aa,ae,au,aP,bE,cF,dZ⟩=>?_
  rw[Bf]at aa;rw[zgV]at cF dZ;obtain⟨Nh,Ni⟩:=Ur sO (oh aa)
  have pn:run M (t1.rel (fJ (t1.lvl+1))) (bk (a8.put e kx ⟨.int .i64,(k:Int)⟩) (cp S I.J.ps) v)=some (fJ (t1.lvl+1) x,aS,aB):=by rw[wH od,aa];rfl
  have lX:c3 M (t1.lvl+1) cur (cp S I.J.ps) (t1.rel (fJ (t1.lvl+1))) (bk (a8.put e kx ⟨.int .i64,(k:Int)⟩) (cp S I.J.ps) v) v=eg (t1.lvl+1) cur (cp S I.J.ps) (fun x S e=>some (x,S,e)) (fJ (t1.lvl+1) x) aS aB:=by
   unfold c3;rw[pn]
  have vL:bW S.k e aB:=bW.trans (yc k v) cF (by omega)
  have out: ∀ex,AZ x ex→fJ (t1.lvl+1) x=x→x.bS (t1.lvl+1)=false→x.cX cur=false→jA G N B M qQ e S.k ex st:=fun ex ae hm af hx=>by
   rw[hm,kd af hx]at lX
   have:=cq _ (zef fK o5 lX)
   exact⟨x,aS,aB,this,ae,au,aP,bE,vL,by omega⟩
  cases x with
  |lq m=>cases ex<;>exact ae.elim
  |ret=>cases ex<;>first|exact ae.elim|exact out _ ae rfl rfl rfl
  |ch=>
   cases ex with
   |normal=>
    have hx:=Nh rfl
    simp only[Fg,Bool.and_eq_true]at hx;rw[n6 (x:=fJ (t1.lvl+1) .ch) (show bZ.bS (t1.lvl+1) (.lq (t1.lvl+1))=true from Nat.beq_refl _)]at lX
    refine⟨_,lX,df _ (by rw[iU,lX];rfl),au.trans ?_⟩
    simp only[yb];refine Ul (g':=S.g) aV r8 dp c7 bE hx.1 wM wN qg zz vL (zgQ hx.2 bE ?_ (by omega))
    rw[cF kx (Nat.lt_succ_self kx),Nd]
   |_=>exact ae.elim
  |ext m=>
   cases ex with
   |exit vM=>
    have ae:m=vM:=ae
    subst ae
    cases hm:Nat.beq m cur with
    |false=>exact out _ rfl rfl rfl hm
    |true=>
     have:=Nat.eq_of_beq_eq_true hm
     subst this;rw[n7 (x:=fJ (t1.lvl+1) (.ext m)) (show bZ.bS (t1.lvl+1) (.ext m)=false from rfl) (show bZ.cX m (.ext m)=true from hm)]at lX
     have mI:=cq _ (zeg fK o5 lX)
     refine lW _ st mI (au.trans ?_)
     rw[Bc];exact EP (J:=⟨I.cf.l,I.cf.h,I.cf.n,I.J.ps⟩) aV bE (Ni rfl) (g:=S.g) vL
   |_=>exact ae.elim
 ·cases Nj:t2.x8 cur with
  |none=>rw[Nj]at wO;cases wO
  |some dO=>
   rw[Nj]at wO;simp only[Bool.and_eq_true]at wO;obtain⟨r3,pC⟩:=wO;obtain⟨s1,bd,s2⟩:=Up (M:=M) (e:=bk (a8.put e kx ⟨.int .i64,(Z.toNat:Int)⟩) (cp S I.J.ps) v) Nj
   have yd:=hf (I.E S) (bk (a8.put e kx ⟨.int .i64,(Z.toNat:Int)⟩) (cp S I.J.ps) v) zgX (zgY _ v) (by rw[Ut];exact s1)
   have mV:(I.E S).den G N B (bk (a8.put e kx ⟨.int .i64,(Z.toNat:Int)⟩) (cp S I.J.ps) v)=(I.H S).den G N B (bk (a8.put e kx ⟨.int .i64,(Z.toNat:Int)⟩) (cp S I.J.ps) v):=by
    rw[Fj,yb,fa,fa]
    have aa:I.y.den G (bk (a8.put e kx ⟨.int .i64,(Z.toNat:Int)⟩) (cp S I.J.ps) v)= .av (.v (.int .i64 Z)):=by
     rw[jw Na,←lS Na,Uv _ (yc _ v)]
    have ae:(ab.aT (.int .i64) kx).den G (bk (a8.put e kx ⟨.int .i64,(Z.toNat:Int)⟩) (cp S I.J.ps) v)= .av (.v (.int .i64 Z)):=by
     simp only[ab.den,Nd,cA,fG,j8];rw[Int.toNat_of_nonneg xD]
    rw[aa,ae];rfl
   rw[mV]at yd;refine b1.mono yd fun ex st ⟨x,aS,aB,aa,ae,au,aP,bE,cF,dZ⟩=>?_
   rw[Ut,s2]at aa;cases aa;rw[zgW]at cF
   cases ex with
   |exit m=>
    have ae:cur=m:=ae
    subst ae;refine lW v st (cq _ fK) (au.trans ?_)
    have hle:=EP (G:=G) (N:=N) (B:=B) (J:=⟨I.cf.l,I.cf.h,I.cf.n,I.J.ps⟩) aV bE r3 (g:=S.g) (bW.trans (yc _ v) cF (by omega):bW S.k e bd)
    refine hle.trans ?_
    have dn:bW kx (fQ e (fun r p=>⟨r,(p.dc dO).get bd r⟩) I.J.ps) (bk e (cp S I.J.ps) v):=fun i hi=>by
     rcases Nat.lt_or_ge i S.k with bG|hW
     ·rw[AS aV i bG,tG v i bG]
     ·obtain⟨r,p,ak⟩:=zgR aV hW (by omega)
      rw[Mh aV ak,Uq pC ak]
      have oZ:=(Tw aV ak).2.2
      have ah:(ab.aT r i).get bd r=(Env.at bd i).as r:=by
       cases r<;>first|(simp only[ab.get,ab.az,ab.fq,ab.dyn,cA];done)|cases oZ
      rw[ah,cF i hi,←zgU Z.toNat v i hi]
      have vN:=Uj (S:=S) (e:=e) (v:=v) aV ak
      generalize Env.at (bk e (cp S I.J.ps) v) i=d at vN⊢;obtain⟨eP,iM⟩:=d;simp only at vN;subst vN;rw[cA]
    have MQ:=Fl ⟨fk I.cf.l,I.cf.h,I.cf.n,kx,S.g⟩ rfl
    have P3:=lu (G:=G) (N:=N) (B:=B) (S:=⟨fk I.cf.l,I.cf.h,I.cf.n,kx,S.g⟩) dn MQ
    rw[P3];exact cm.refl _
   |_=>exact ae.elim
end
end Go.aK
namespace Go.aK
open Go
def tH(J cf:gl)(aW cur:Nat):List (bZ × ao)→Bool
 |[]=>true
 |(.ch,aS)::r=>jz (mH J (Nat.max aS.n J.n)) aW aS&&tH J cf aW cur r
 |(.ext m,aS)::r=>(match Nat.beq m cur with
  |true=>jz cf aW aS
  |false=>true)&&tH J cf aW cur r
 |_::r=>tH J cf aW cur r
def Uw(B cur:Nat)(S:ao)(J cf:gl)(t1:aC):Bool:=
 (il S.k J.ps&&(r4 (S.k+J.ps.length) J.l&&eG (S.k+J.ps.length) J.h))&&((jz (mH J (Nat.max S.n J.n)) S.k S&&(vI J.n J.l&&oe J.n J.h))&&(Nat.ble B J.n&&(tH J ⟨cf.l,cf.h,cf.n,J.ps⟩ S.k cur t1.ends&&(r4 (S.k+J.ps.length) cf.l&&eG (S.k+J.ps.length) cf.h))))
def Ux(B cur:Nat)(S:ao)(J cf:gl)(t1:aC):aC:=
 match Uw B cur S J cf t1 with
 |true=>.eZ (t1.lvl+1) cur (cp S J.ps) (t1.rel (fJ (t1.lvl+1))) (.cG (.ext cur) ⟨fk cf.l,cf.h,cf.n,S.k+J.ps.length,S.g⟩)
 |false=>.bad (x6 t1.nq 61)
def Fm(B:Nat)(f:ao→aC)(cur:Nat)(S:ao)(J cf:gl):aC:=Ux B cur S J cf (f (J.S S.k S.g))
def Bg(cur:Nat):List (bZ × ao)→List ao × List ao
 |[]=>([],[])
 |(.ch,S)::r=>match Bg cur r with
  |(a,b)=>(S::a,b)
 |(.ext m,S)::r=>match Bg cur r with
  |(a,b)=>match Nat.beq m cur with
   |true=>(a,S::b)
   |false=>(a,b)
 |_::r=>Bg cur r
def Fo(S:ao):Nat→Nat→List (Nat × ab)
 |0,_=>[]
 |n+1,i=>match S.at i with
  | .top=>Fo S n (i+1)
  |x=>(i,x)::Fo S n (i+1)
def zgZ(N aW cur:Nat)(S:ao)(t:aC):gl:=
 match Bg cur t.ends with
 |(a,b)=>mH (AT N aW S (a++b)) S.n
def Uy:fL→fL→Bool
 |[],[]=>true
 |(i,r,p)::l,(j,q,u)::m=>(Nat.beq i j&&hR r q)&&(oc p u&&Uy l m)
 |_,_=>false
def Bh{α:Type}:List α→Nat
 |[]=>0
 |_::r=>Nat.succ (Bh r)
def zg0(J K:gl):Bool:=Uy J.ps K.ps&&(Nat.beq (Bh J.l) (Bh K.l)&&Nat.beq (Bh J.h) (Bh K.h))
def Nk(N:Nat)(f:ao→aC)(cur:Nat)(S:ao):Nat→gl→aC→gl × aC
 |0,J,t=>(J,t)
 |n+1,J,t=>match zgZ N S.k cur S t with
  |K=>match zg0 J K with
   |true=>(K,t)
   |false=>Nk N f cur S n K (f (K.S S.k S.g))
def Nl(j:Nat):List (Nat × bJ)→Option bJ
 |[]=>none
 |(i,x)::r=>match Nat.beq i j with
  |true=>some x
  |false=>Nl j r
inductive Nn where
 |dc (y:ab)
 |ex (x:bJ)
 |none
def zg1(aW:Nat)(ds:List (Nat × bJ))(y:ab):Nn:=
 match y.lt aW with
 |true=>.dc y
 |false=>match y with
  | .aT (.int .i64) j=>match Nl j ds with
   |some (.f1 .n5 x)=>match x.lt aW with
    |true=>.ex (.f1 .n5 x)
    |false=>.none
   |some (.f1 (.iT c) x)=>match x.lt aW with
    |true=>.ex (.f1 (.iT c) x)
    |false=>.none
   |_=>.none
  |_=>.none
def Uz(aW cur i:Nat):aC→List (Nat × bJ)→Nn
 | .lt j x t,ds=>Uz aW cur i t ((j,x)::ds)
 | .it (.aT .bool g) _ b,ds=>match Nl g ds with
  |some (.f2 (.pg .lss .i64) (.aT (.int .i64) zU) y)=>match Nat.beq zU i with
   |true=>match b.x8 cur with
    |some _=>zg1 aW ds y
    |none=>.none
   |false=>.none
  |_=>.none
 |_,_=>.none
def UA(i s:Nat):List ao→Bool
 |[]=>true
 |S::r=>Ff i s S&&UA i s r
def zg2(x:ab):Bool:=eH x (.cs (.int .i64 0))
def Fp(S:ao)(cur:Nat)(t:aC)(Fq:List ao):fL→Option (Nat × Nn)
 |[]=>none
 |(i,.int .i64,.slot s [])::l=>match zg2 (S.at s)&&UA i s Fq with
  |true=>match Uz S.k cur i t []with
   | .none=>Fp S cur t Fq l
   |b=>some (s,b)
  |false=>Fp S cur t Fq l
 |_::l=>Fp S cur t Fq l
def UB(s:Nat):List ao→List ao
 |[]=>[]
 |S::r=>S.put (some s) .top::UB s r
def No(N aW:Nat)(S:ao)(s:Nat)(y:ab)(a b:List ao):pE:=
 match mH (AT N aW (S.put (some s) .top) (UB s (a++b))) S.n with
 |J=>⟨J,mH J (ES S.n b),s,y⟩
def Fs(N:Nat)(f:ao→aC):Nat→ao→aC
 |0,_=>.bad 63
 |n+1,S=>iL N S (f S) (Fs N f n)
def zg3(y:ab):Option Nat:=
 match y with
 | .cs (.int .i64 (.ofNat n))=>match Nat.ble n 16 with
  |true=>some (n+1)
  |false=>none
 |_=>none
def aC.pF:aC→Bool
 | .cG _ _=>false
 | .lt _ _ t=>t.pF
 | .eF _ t=>t.pF
 | .it _ a b=>a.pF||b.pF
 | .dB _ a _ k=>a.pF||k.pF
 | .en _ _ _ _ _ a k=>a.pF||k.pF
 | .eZ _ _ _ a k=>a.pF||k.pF
 | .bad _=>true
def UC(t:aC)(u:Unit→aC):aC:=
 match t.pF with
 |true=>u ()
 |false=>t
def UD(N B:Nat)(f:ao→aC)(cur:Nat)(S:ao):gl × aC→aC
 |(J,t)=>match Bg cur t.ends with
  |(a,b)=>match Fp S cur t a J.ps with
   |some (s,.dc y)=>match zg3 y with
    |some n=>UC (x9 N B f cur S (No N S.k S s y a b)) fun _=>Fs N f n S
    |none=>x9 N B f cur S (No N S.k S s y a b)
   |some (s,.ex x)=>match hv S.k [x]with
    |true=>emit S.k [x] [] (x9 N B f cur (S.e1 S.k [x]) (No N (S.k+1) S s (.aT (.int .i64) S.k) a b))
    |false=>.bad 62
   |_=>Fm B f cur S J (mH J (ES S.n b))
def Ft(x:ab):Bool:=eH x (.cs (.slice none 0 0))
def zg4(n i:Nat)(S:ao):Option (TypeId × bK):=
 match S.at i with
 | .aN id=>match Nat.ble n id,c9 S.h id with
  |true,some (.rw t c _)=>some (t,c)
  |_,_=>none
 |_=>none
def UE(n i:Nat):List ao→Option (TypeId × bK)
 |[]=>none
 |S::r=>match zg4 n i S with
  |some x=>some x
  |none=>UE n i r
def Fu(S:ao)(a:List ao):Nat→Nat→List (Nat × TypeId × bK)
 |0,_=>[]
 |k+1,i=>match Ft (S.at i)with
  |true=>match UE S.n i a with
   |some (t,c)=>(i,t,c)::Fu S a k (i+1)
   |none=>Fu S a k (i+1)
  |false=>Fu S a k (i+1)
def nr(N B:Nat):List (Nat × TypeId × bK)→ao→ao
 |[],S=>S
 |(i,t,c)::r,S=>match Ft (S.at i)&&(Nat.blt i N&&Nat.ble B S.n)with
  |true=>nr N B r ⟨S.l.put i (.aN S.n),(S.n,.rw t c (.cs (.slice none 0 0)))::S.h,S.n+1,S.k,S.g⟩
  |false=>nr N B r S
def r9(N B:Nat)(f:ao→aC)(cur:Nat)(S:ao)(t:aC):aC:=
 UD N B f cur S (Nk N f cur S 6 ⟨Fo S N 0,S.h,S.n,[]⟩ t)
def aC.lY:aC→List ao
 | .cG _ S=>[S]
 | .lt _ _ t=>t.lY
 | .eF _ t=>t.lY
 | .it _ a b=>a.lY++b.lY
 | .dB _ a _ k=>a.lY++k.lY
 | .en _ _ _ _ _ a k=>a.lY++k.lY
 | .eZ _ _ _ a k=>a.lY++k.lY
 | .bad _=>[]
def zg5(n id off:Nat)(S:ao):Option (TypeId × bK):=
 match c9 S.h id with
 |some (.di _ l)=>match eT .top l off with
  | .aN k=>match Nat.ble n k,c9 S.h k with
   |true,some (.rw t c _)=>some (t,c)
   |_,_=>none
  |_=>none
 |_=>none
def UF(n id off:Nat):List ao→Option (TypeId × bK)
 |[]=>none
 |S::r=>match zg5 n id off S with
  |some x=>some x
  |none=>UF n id off r
def Fv(S:ao)(a:List ao)(id:Nat):Nat→List ab→List (Nat × Nat × TypeId × bK)
 |_,[]=>[]
 |off,x::r=>match Ft x with
  |true=>match UF S.n id off a with
   |some (t,c)=>(id,off,t,c)::Fv S a id (off+1) r
   |none=>Fv S a id (off+1) r
  |false=>Fv S a id (off+1) r
def ye(S:ao)(a:List ao):List (Nat × bF)→List (Nat × Nat × TypeId × bK)
 |[]=>[]
 |(id,.di _ l)::r=>Fv S a id 0 l++ye S a r
 |_::r=>ye S a r
def kh(B:Nat):List (Nat × Nat × TypeId × bK)→ao→ao
 |[],S=>S
 |(id,off,t,c)::r,S=>match c9 S.h id with
  |some (.di bt l)=>match(match l[off]? with|some x=>Ft x|none=>false)&&Nat.ble B S.n with
   |true=>kh B r ⟨S.l,ju ((S.n,.rw t c (.cs (.slice none 0 0)))::S.h) id (.di bt (l.set off (.aN S.n))),S.n+1,S.k,S.g⟩
   |false=>kh B r S
  |_=>kh B r S
def UG(N B:Nat)(f:ao→aC)(cur:Nat)(S:ao)(t:aC):aC:=
 match Fu S t.lY N 0 with
 |[]=>match ye S t.lY S.h with
  |[]=>r9 N B f cur S t
  |q::qs=>r9 N B f cur (kh B (q::qs) S) (f (kh B (q::qs) S))
 |p::r=>r9 N B f cur (kh B (ye S t.lY S.h) (nr N B (p::r) S)) (f (kh B (ye S t.lY S.h) (nr N B (p::r) S)))
def Np(N B:Nat)(f:ao→aC)(cur:Nat)(S:ao):aC:=UG N B f cur S (f S)
section
variable {P:Program} {G:a7} {N B:Nat} {M:List aQ}
theorem UH{J cf:gl}{aW cur:Nat}: ∀{l:List (bZ × ao)},tH J cf aW cur l=true→∀{x:bZ} {aS:ao},(x,aS)∈l→(x= .ch→jz (mH J (Nat.max aS.n J.n)) aW aS=true)∧(x= .ext cur→jz cf aW aS=true)
 |(y,dO)::r,h,x,aS,hm=>by
  have ba:tH J cf aW cur r=true∧(y= .ch→jz (mH J (Nat.max dO.n J.n)) aW dO=true)∧(y= .ext cur→jz cf aW dO=true):=by
   cases y with
   |ch=>
    simp only[tH,Bool.and_eq_true]at h;exact⟨h.2,fun _=>h.1,fun e=>(by cases e)⟩
   |ext m=>
    simp only[tH,Bool.and_eq_true]at h;refine⟨h.2,fun e=>(by cases e),fun e=>?_⟩
    cases e
    have aa:=h.1
    rw[Nat.beq_refl]at aa;exact aa
   |ret=>exact⟨h,fun e=>(by cases e),fun e=>(by cases e)⟩
   |lq m=>exact⟨h,fun e=>(by cases e),fun e=>(by cases e)⟩
  rcases List.mem_cons.1 hm with q|q
  ·cases q;exact ba.2
  ·exact UH ba.1 q
theorem zg6{c:Code}{R A:Type}{n:Nat}{b:A→Step R A}{a0:A}{hd:A→aO}{Q:Exit→aO→Prop}{dq:aO}{I:A→Prop}
    (aL:cm dq (hd a0))(hi:I a0)(he:ka b n a0)
    (ag: ∀a,I a→(∀r,b a= .ret r→c4 b n a0= .inl r)→(∀v,b a= .cN v→c4 b n a0= .inr v)→b1 P G c (fun e st=>match e with
      | .normal=>∃bb,b a= .bq bb∧I bb∧cm st (hd bb)
      |e=>Q e st) (hd a)):b1 P G (.loop c) Q dq:=by
  refine b1.loop (ι:=Nat × A) (fun x=>hd x.2) (fun x=>(c4 b n a0=c4 b x.1 x.2∧ka b x.1 x.2)∧I x.2) (fun x=>x.1) (n,a0) aL ⟨⟨rfl,he⟩,hi⟩ ?_
  rintro⟨k,a⟩ ⟨fK,bV⟩
  refine b1.mono (ag a bV (fun r ad=>zer fK ad) (fun v ad=>zes fK ad)) fun e st ai=>?_
  cases e with
  |normal=>
    obtain⟨bb,aa,au,ae⟩:=ai;obtain⟨m,aP,bE⟩:=zeq fK aa;exact⟨(m,bb),⟨bE,au⟩,by show m<k;omega,ae⟩
  |_=>exact ai
theorem UI{J:gl}{aW kx:Nat}{S0 aS:ao}{e aB:Env}{k:Nat}{g g':List b4}(ak:il aW J.ps=true)(mg: ∀c∈aS.g,c.ok aB)(h:jz (mH J (Nat.max aS.n J.n)) aW aS=true)(ig:vI J.n J.l=true)(pa:oe J.n J.h=true)(gR:B≤J.n)(bQ:bW aW e aB):
 cm (aS.den G N B aB) ((ao.mk (fk J.l) J.h J.n k g).den G N B (bk e (cp S0 J.ps) (b8 _ (fz aS aB (cp S0 J.ps))))):=by
 have aa:=Mi (G:=G) (N:=N) (B:=B) (J:=mH J (Nat.max aS.n J.n)) ak mg h (g:=g') bQ
 refine aa.le.trans ?_
 rw[Bc]
 refine cm.low (m:=Nat.max aS.n J.n) ?_ ?_ gR
 ·exact M7 (n:=J.n) (l:=fk J.l) (fun i x hx=>M8 ig (pz hx)) N 0
 ·exact xW pa
theorem zg7{c:Code}{f:ao→aC}(hf:jb P G N B M c f){cur:Nat}{S:ao}{J cf:gl}{e:Env}(ad:S.cr)(e7:S.ct e)(ai:(Fm B f cur S J cf).safe M e):b1 P G (.loop c) (jA G N B M (Fm B f cur S J cf) e S.k) (S.den G N B e):=by
 unfold Fm Ux at ai⊢
 split at ai
 rotate_left
 ·exact ai.elim
 rename_i tF
 generalize Bf:f (J.S S.k S.g)=t1 at ai tF⊢
 simp only[Uw,Bool.and_eq_true]at tF
 obtain⟨⟨aV,dp,c7⟩,⟨jH,wM,wN⟩,qg,sO,C9,Da⟩:=tF
 have qg:=Nat.le_of_ble_eq_true qg
 have Nb:t1.lvl<t1.lvl+1:=Nat.lt_succ_self _
 have od:=K6 Nb
 obtain⟨⟨Inv,Nc,Fk⟩,Nq,aj⟩:=ai
 generalize r8:S.k+J.ps.length=kx at*
 have hle:S.k≤kx:=by rw[←r8];exact Nat.le_add_right _ _
 have cq: ∀L,c4 (fun(v:bX (cp S J.ps))=>c3 M (t1.lvl+1) cur (cp S J.ps) (t1.rel (fJ (t1.lvl+1))) (bk e (cp S J.ps) v) v) dU (b8 _ (dD e (cp S J.ps)))=L→
  run M (aC.eZ (t1.lvl+1) cur (cp S J.ps) (t1.rel (fJ (t1.lvl+1))) (.cG (.ext cur) ⟨fk cf.l,cf.h,cf.n,kx,S.g⟩)) e=Sum.elim (fun r=>r) (fun v=>some (.ext cur,⟨fk cf.l,cf.h,cf.n,kx,S.g⟩,bk e (cp S J.ps) v)) L:=fun L fK=>by
  rw[EI,fK];rfl
 have zg8:ka (fun(v:bX (cp S J.ps))=>c3 M (t1.lvl+1) cur (cp S J.ps) (t1.rel (fJ (t1.lvl+1))) (bk e (cp S J.ps) v) v) dU (b8 _ (dD e (cp S J.ps))):=
  (K4 (fun _=>()) (fun v=>iU _ _ _ _ _ v) _ _).1 Nq
 generalize zgT:aC.eZ (t1.lvl+1) cur (cp S J.ps) (t1.rel (fJ (t1.lvl+1))) (.cG (.ext cur) ⟨fk cf.l,cf.h,cf.n,kx,S.g⟩)=qQ at cq
 have tG: ∀(v:bX (cp S J.ps)),bW S.k e (bk e (cp S J.ps) v):=fun v j af=>ya aV (.inl af)
 have Nf:(J.S S.k S.g).cr:=⟨fun i x hx=>by show x.lt (S.k+J.ps.length)=true;rw[r8];exact tw dp (pz hx),by show eG (S.k+J.ps.length) J.h=true;rw[r8];exact c7,by show fj (S.k+J.ps.length) S.g=true;rw[r8];exact n9 hle ad.g⟩
 have Ng: ∀(v:bX (cp S J.ps)),(J.S S.k S.g).ct (bk e (cp S J.ps) v):=fun v=>ij (tG v) ad.g e7
 have Fl: ∀db:ao,db=⟨fk cf.l,cf.h,cf.n,kx,S.g⟩→db.cr:=fun db h=>by
  subst h;exact⟨fun i x hx=>tw C9 (pz hx),Da,n9 hle ad.g⟩
 refine zg6 (n:=dU) (b:=fun(v:bX (cp S J.ps))=>c3 M (t1.lvl+1) cur (cp S J.ps) (t1.rel (fJ (t1.lvl+1))) (bk e (cp S J.ps) v) v) (a0:=b8 _ (dD e (cp S J.ps)))
  (hd:=fun v=>(J.S S.k S.g).den G N B (bk e (cp S J.ps) v)) (I:=Inv) ?_ Nc zg8 (fun v bV zg9 zha=>?_)
 ·rw[M6]
  exact UI (kx:=kx) (g':=S.g) aV e7 jH wM wN qg (bW.refl _ _)
 ·obtain⟨c0,df⟩:=Fk v bV
  have yd:=hf (J.S S.k S.g) (bk e (cp S J.ps) v) Nf (Ng v) (by rw[Bf];exact(k6 od).1 c0)
  refine b1.mono yd fun ex st ⟨x,aS,aB,aa,ae,au,aP,bE,cF,dZ⟩=>?_
  rw[Bf]at aa
  have zhb:(J.S S.k S.g).k=kx:=r8
  rw[zhb]at cF dZ;obtain⟨Nh,Ni⟩:=UH sO (oh aa)
  have pn:run M (t1.rel (fJ (t1.lvl+1))) (bk e (cp S J.ps) v)=some (fJ (t1.lvl+1) x,aS,aB):=by rw[wH od,aa];rfl
  have lX:c3 M (t1.lvl+1) cur (cp S J.ps) (t1.rel (fJ (t1.lvl+1))) (bk e (cp S J.ps) v) v=eg (t1.lvl+1) cur (cp S J.ps) (fun x S e=>some (x,S,e)) (fJ (t1.lvl+1) x) aS aB:=by
   unfold c3;rw[pn]
  have vL:bW S.k e aB:=bW.trans (tG v) cF hle
  have out: ∀ex,AZ x ex→fJ (t1.lvl+1) x=x→x.bS (t1.lvl+1)=false→x.cX cur=false→jA G N B M qQ e S.k ex st:=fun ex ae hm af hx=>by
   rw[hm,kd af hx]at lX;exact⟨x,aS,aB,cq _ (zg9 _ lX),ae,au,aP,bE,vL,Nat.le_trans hle dZ⟩
  cases x with
  |lq m=>cases ex<;>exact ae.elim
  |ret=>cases ex<;>first|exact ae.elim|exact out _ ae rfl rfl rfl
  |ch=>
   cases ex with
   |normal=>
    rw[n6 (x:=fJ (t1.lvl+1) .ch) (show bZ.bS (t1.lvl+1) (.lq (t1.lvl+1))=true from Nat.beq_refl _)]at lX
    exact⟨_,lX,df _ (by rw[iU,lX];rfl),au.trans (UI (kx:=kx) (g':=S.g) aV bE (Nh rfl) wM wN qg vL)⟩
   |_=>exact ae.elim
  |ext m=>
   cases ex with
   |exit vM=>
    have ae:m=vM:=ae
    subst ae
    cases hm:Nat.beq m cur with
    |false=>exact out _ rfl rfl rfl hm
    |true=>
     have:=Nat.eq_of_beq_eq_true hm
     subst this;rw[n7 (x:=fJ (t1.lvl+1) (.ext m)) (show bZ.bS (t1.lvl+1) (.ext m)=false from rfl) (show bZ.cX m (.ext m)=true from hm)]at lX
     refine⟨.ext m,_,_,cq _ (zha _ lX),rfl,au.trans ?_,Fl _ rfl,ij (tG _) ad.g e7,tG _,hle⟩
     rw[Bc];exact EP (J:=⟨cf.l,cf.h,cf.n,J.ps⟩) aV bE (Ni rfl) (g:=S.g) vL
   |_=>exact ae.elim
theorem UJ{c:Code}{f:ao→aC}(hf:jb P G N B M c f){Q:Exit→aO→Prop}: ∀(n:Nat) {S:ao} {e:Env},S.cr→S.ct e→(Fs N f n S).safe M e→(∀ex st,jA G N B M (Fs N f n S) e S.k ex st→Q ex st)→xb P G c Q n (S.den G N B e)
 |0,_,_,_,_,ai,_=>ai.elim
 |n+1,S,e,ad,e7,ai,eu=>by
  obtain⟨t1,t2,t3⟩:=EU (G:=G) (B:=B) ad e7 ai;refine xb.rd n (b1.mono (hf S e ad e7 t1) fun ex st ak=>?_)
  obtain⟨x,db,ay,aa,ae,au,aP,bE,cF,dZ⟩:=ak
  have other:x≠ .ch→Q ex st:=fun b3=>eu ex st ⟨x,db,ay,t2 x db ay aa b3 (TT ae),ae,au,aP,bE,cF,dZ⟩
  cases x with
  |ch=>
   cases ex with
   |normal=>
    obtain⟨dO,bd,s1,s2,kv,ky,kz,kA,kW⟩:=t3 db ay aa aP bE cF dZ
    have:=UJ hf n s2 kv kA (Q:=Q) fun ex st ak=>eu ex st (ak.sub kW ky kz)
    exact fun E a w ag=>this E a w (s1 E G a w (au E G a w ag))
   |_=>exact ae.elim
  |ret=>cases ex<;>first|exact ae.elim|exact other (by simp)
  |ext n=>cases ex<;>first|exact ae.elim|exact other (by simp)
  |lq n=>cases ex<;>exact ae.elim
theorem Nr{c:Code}{Q:Exit→aO→Prop}{e:Env}: ∀(l:List (Nat × TypeId × bK)) {S:ao},S.cr→S.ct e→(nr N B l S).cr∧(nr N B l S).ct e∧(nr N B l S).k=S.k∧(b1 P G c Q ((nr N B l S).den G N B e)→b1 P G c Q (S.den G N B e))
 |[],_,ad,hf=>⟨ad,hf,rfl,fun h=>h⟩
 |(i,t,d)::r,S,ad,hf=>by
  unfold nr
  split
  ·rename_i hc
   simp only[Bool.and_eq_true]at hc;obtain⟨aV,dp,c7⟩:=hc
   have gy:(⟨S.l.put i (.aN S.n),(S.n,.rw t d (.cs (.slice none 0 0)))::S.h,S.n+1,S.k,S.g⟩:ao).cr:=by
    refine⟨fun j x hx=>?_,?_,ad.g⟩
    ·simp only[a8.hZ]at hx
     split at hx
     ·cases hx;rfl
     ·exact ad.l j x hx
    ·show(bF.lt S.k (.rw t d (.cs (.slice none 0 0)))&&eG S.k S.h)=true
     rw[ad.h];rfl
   obtain⟨aa,ae,au,aP⟩:=Nr r gy hf;refine⟨aa,ae,au,fun h=>?_⟩
   refine b1.KF i t (bY d) ?_ (by rw[vj,if_pos (e6 dp),e0 aV];rfl) c7
   have:=aP h
   have hd:(⟨S.l.put i (.aN S.n),(S.n,.rw t d (.cs (.slice none 0 0)))::S.h,S.n+1,S.k,S.g⟩:ao).den G N B e={S.den G N B e with cR:=(S.den G N B e).cR.set i (.aN (S.den G N B e).next),heap:=((S.den G N B e).next,.row false t (bY d) [])::(S.den G N B e).heap,next:=(S.den G N B e).next+1}:=by
    simp only[ao.den,Lc,cx,ab.den,bF.den,ab.az,ab.fq,cA];rfl
   rw[hd]at this;exact this
  ·exact Nr r ad hf
theorem Bi{c:Code}{Q:Exit→aO→Prop}{e:Env}: ∀(l:List (Nat × Nat × TypeId × bK)) {S:ao},S.cr→S.ct e→(kh B l S).cr∧(kh B l S).ct e∧(kh B l S).k=S.k∧(b1 P G c Q ((kh B l S).den G N B e)→b1 P G c Q (S.den G N B e))
 |[],_,ad,hf=>⟨ad,hf,rfl,fun h=>h⟩
 |(id,off,t,d)::r,S,ad,hf=>by
  unfold kh
  split
  ·rename_i bt l ah
   split
   ·rename_i hc
    simp only[Bool.and_eq_true]at hc;obtain⟨aV,c7⟩:=hc
    have aq:=vH ad.h ah
    have gy:(⟨S.l,ju ((S.n,.rw t d (.cs (.slice none 0 0)))::S.h) id (.di bt (l.set off (.aN S.n))),S.n+1,S.k,S.g⟩:ao).cr:=by
     refine⟨ad.l,E4 (o:=.di bt (l.set off (.aN S.n))) (MG (x:=.aN S.n) rfl aq) ?_,ad.g⟩
     show(bF.lt S.k (.rw t d (.cs (.slice none 0 0)))&&eG S.k S.h)=true;rw[ad.h];rfl
    obtain⟨aa,ae,au,aP⟩:=Bi r gy hf;refine⟨aa,ae,au,fun h=>?_⟩
    have:=aP h
    have bc:aE (S.den G N B e).heap id=some (.box bt (ab.bP G e l)):=by simp only[ao.den,eh,ah,Option.map_some,bF.den]
    have aj:(ab.bP G e l)[off]? =some (.av (.v (.slice none 0 0))):=by
     rw[e5,List.getElem?_map]
     cases hx:l[off]? with
     |none=>rw[hx]at aV;cases aV
     |some x=>
      rw[hx]at aV
      have:=e0 aV
      subst this;rfl
    refine b1.le (cm.zex (s:=S.den G N B e) id off t (bY d) bc aj (Nat.le_of_ble_eq_true c7) rfl) ?_
    have hd:(⟨S.l,ju ((S.n,.rw t d (.cs (.slice none 0 0)))::S.h) id (.di bt (l.set off (.aN S.n))),S.n+1,S.k,S.g⟩:ao).den G N B e={S.den G N B e with heap:=eM (((S.den G N B e).next,.row false t (bY d) [])::(S.den G N B e).heap) id (.box bt ((ab.bP G e l).set off (.aN (S.den G N B e).next))),next:=(S.den G N B e).next+1}:=by
     simp only[ao.den,ti,cx,bF.den,MH,ab.den,ab.az,ab.fq,cA];rfl
    rw[hd]at this;exact this
   ·exact Bi r ad hf
  ·exact Bi r ad hf
theorem Ns{c:Code}{f:ao→aC}{cur:Nat}{S:ao}{e:Env}{t:aC}(hf:jb P G N B M c f)(ad:S.cr)(e7:S.ct e)(ai:(r9 N B f cur S t).safe M e):b1 P G (.loop c) (jA G N B M (r9 N B f cur S t) e S.k) (S.den G N B e):=by
 unfold r9 at ai⊢
 generalize Nk N f cur S 6 ⟨Fo S N 0,S.h,S.n,[]⟩ t=zhc at ai⊢
 obtain⟨J,t⟩:=zhc
 simp only[UD]at ai⊢
 split at ai
 ·split at ai
  ·unfold UC at ai⊢
   split at ai
   ·exact b1.rounds _ (UJ hf _ ad e7 ai fun _ _ h=>h)
   ·exact M9 hf ad e7 ai
  ·exact M9 hf ad e7 ai
 ·rename_i s x _
  split at ai
  ·rename_i hx
   obtain⟨_,gu⟩:=mF ai;obtain⟨b5,a2,a3⟩:=r7 (M:=M) (G:=G) (N:=N) (B:=B) ad e7 hx
   have:=M9 hf b5 a2 gu
   rw[a3]at this;exact b1.mono this fun ex st ak=>ak.sub (by rw[lU]) (jS (Nat.le_refl _)) (Nat.le_add_right _ _)
  ·exact ai.elim
 ·exact zg7 hf ad e7 ai
theorem zhd:MY P G N B M (Np N B):=by
 intro c f cur hf S e ad e7 ai
 unfold Np UG at ai⊢
 generalize f S=t at ai⊢
 split at ai
 ·split at ai
  ·exact Ns hf ad e7 ai
  ·rename_i q qs _
   obtain⟨aa,ae,au,aP⟩:=Bi (P:=P) (G:=G) (N:=N) (B:=B) (c:=.loop c) (Q:=jA G N B M (r9 N B f cur (kh B (q::qs) S) (f (kh B (q::qs) S))) e S.k) (e:=e) (q::qs) ad e7;refine aP ?_
   have:=Ns hf aa ae ai
   rw[au]at this;exact this
 ·rename_i p r _
  generalize ye S t.lY S.h=cB at ai⊢;obtain⟨g1,g2,g3,g4⟩:=Nr (P:=P) (G:=G) (N:=N) (B:=B) (c:=.loop c) (Q:=jA G N B M (r9 N B f cur (kh B cB (nr N B (p::r) S)) (f (kh B cB (nr N B (p::r) S)))) e S.k) (e:=e) (p::r) ad e7;obtain⟨aa,ae,au,aP⟩:=Bi (P:=P) (G:=G) (N:=N) (B:=B) (c:=.loop c) (Q:=jA G N B M (r9 N B f cur (kh B cB (nr N B (p::r) S)) (f (kh B cB (nr N B (p::r) S)))) e S.k) (e:=e) cB g1 g2;refine g4 (aP ?_)
  have:=Ns hf aa ae ai
  rw[au,g3]at this;exact this
end
end Go.aK
namespace Go.aK
open Go
def Nt(ops:Array Oper)(m:List Bool)(i:Nat)(D:List Nat)(j:Nat):Bool:=
 !(m.toArray.getD j true)&&(!(Nat.beq j i)&&match ops[j]? with
  |some o=>o.after.any fun e=>Region.binds .any e&&(e.on==i||D.contains e.on)
  |none=>false)
def Fw(ops:Array Oper)(m:List Bool)(i:Nat):List Nat→List Nat→List Nat
 |[],D=>D
 |j::r,D=>match Nt ops m i D j with
  |true=>Fw ops m i r (j::D)
  |false=>Fw ops m i r D
def Fx(ops:Array Oper)(wr:List Bool)(m:List Bool)(i:Nat):Bool:=
 match Fw ops m i (List.range ops.size) []with
 |D=>!(wr.getD i false)&&(D.all (Nt ops m i D)&&(List.range ops.size).all fun j=>!(wr.getD j false)||(m.toArray.getD j true||D.contains j))
section
variable {P:Program} {ops:Array Oper} {Q:Exit→Act→World→Prop} {S:World→Prop} {wr:Nat→Bool}
theorem zhe{i:Nat}{oi:Oper}{v:Value}(hi:ops[i]? =some oi)(s5:wr i=false)(ln: ∀(j:Nat) (o:Oper) cs b,ops[j]? =some o→o.op≠ .select cs b)
 (eu: ∀c a w,Q (.panic c) (a.put oi.dst v) w→Q (.panic c) a w)(D:Nat→Prop):
 ∀(fuel:Nat) (listed:Array Bool) (a:Act) (w:World),
  (∀j e4,ops[j]? =some e4→j≠i→listed.getD j true=false→(∀e∈e4.after,Region.binds .any e=true→e.on≠i)→oi.apart ops e4=true)→
  (∀j e4,ops[j]? =some e4→wr j=true→listed.getD j true=false→D j)→
  (∀j,D j→listed.getD j true=false∧j≠i∧∃e4,ops[j]? =some e4∧∃e∈e4.after,Region.binds .any e=true∧(e.on=i∨D e.on))→
  i∈Region.ready .any ops listed→YieldsIf P ops S oi v a→S w→
  ll P ops Q S wr fuel (listed.setIfInBounds i true) (a.put oi.dst v) w→ll P ops Q S wr (fuel+1) listed a w:=by
 intro fuel
 induction fuel with
 |zero=>
  intro listed a w _ _ _ ag ax hS H;refine⟨fun h=>(by rw[h]at ag;cases ag),fun j af=>?_⟩
  by_cases gr:j=i
  ·subst gr;exact ax.wpOp hi hS (.inr ⟨s5,hS,H⟩)
  ·have:=ready_mono af gr
   rw[H.1]at this
   cases this
 |succ fuel aX=>
  intro listed a w s6 Aj mi ag ax hS H;refine⟨fun h=>(by rw[h]at ag;cases ag),fun j af=>?_⟩
  by_cases gr:j=i
  ·subst gr;exact ax.wpOp hi hS (.inr ⟨s5,hS,H⟩)
  ·have aa:=H.2 j (ready_mono af gr)
   obtain⟨qz,e4,iy,eb⟩:=mem_ready.1 af
   have un: ∀k,listed.getD k true=false→∀e∈e4.after,Region.binds .any e=true→e.on≠k:=fun k aj e he ad heq=>by
    have aa:=eb e he ad
    rw[heq]at aa
    rcases Nat.lt_or_ge k listed.size with h'|h'
    ·simp[h']at aj aa;rw[aj]at aa;cases aa
    ·simp[Array.getElem?_eq_none h']at aa
   have va: ∀e∈e4.after,Region.binds .any e=true→e.on≠i:=un i (mem_ready.1 ag).1
   have UK: ¬D j:=fun hd=>by
    obtain⟨_,_,zj4,UL,e,he,ad,ba⟩:=mi j hd;rw[iy]at UL
    cases UL
    rcases ba with ba|ba
    ·exact va e he ad ba
    ·exact un e.on (mi _ ba).1 e he ad rfl
   have vb:wr j=false:=by
    cases hw:wr j with
    |false=>rfl
    |true=>exact absurd (Aj j e4 iy hw qz) UK
   have aa:=wpOp_mono (K':=fun bb w'=>S w'∧ll P ops Q S wr fuel ((listed.setIfInBounds i true).setIfInBounds j true) bb w') (fun bb w' h'=>by
    rcases h' with⟨h',_⟩|⟨_,h'⟩
    ·rw[vb]at h';cases h'
    ·exact h') aa
   have ae:=wpOp_putIf iy (s6 j e4 iy gr qz va) (fun cs b=>ln i oi cs b hi) (fun cs b=>ln j e4 cs b iy) eu ax aa
   have low: ∀k,(listed.setIfInBounds j true).getD k true=false→listed.getD k true=false:=fun k hQ=>by
    by_cases qA:j=k
    ·subst qA;exact qz
    ·rw[getD_set_ne true qA]at hQ;exact hQ
   have xg: ∀k ok,ops[k]? =some ok→k≠i→(listed.setIfInBounds j true).getD k true=false→
    (∀e∈ok.after,Region.binds .any e=true→e.on≠i)→oi.apart ops ok=true:=fun k ok aj bw hQ gd=>s6 k ok aj bw (low k hQ) gd
   have zhf: ∀k,D k→(listed.setIfInBounds j true).getD k true=false∧k≠i∧∃ok,ops[k]? =some ok∧∃e∈ok.after,Region.binds .any e=true∧(e.on=i∨D e.on):=fun k aj=>by
    obtain⟨g1,g2⟩:=mi k aj;refine⟨?_,g2⟩
    have qA:j≠k:=fun ba=>UK (by rw[ba];exact aj)
    rw[getD_set_ne true qA];exact g1
   refine wpOp_mono (fun bb w' au=>.inr ⟨vb,au.2.1,aX (listed.setIfInBounds j true) bb w' xg (fun k ok aj hw hQ=>Aj k ok aj hw (low k hQ)) zhf (ready_mono ag (Ne.symm gr)) au.1 au.2.1 ?_⟩) ae
   rw[Array.setIfInBounds_comm _ _ gr];exact au.2.2
theorem zhg{i:Nat}{oi:Oper}{v:Value}(hi:ops[i]? =some oi)(s5:wr i=false)(ln: ∀(j:Nat) (o:Oper) cs b,ops[j]? =some o→o.op≠ .select cs b)
 (eu: ∀c a w,Q (.panic c) (a.put oi.dst v) w→Q (.panic c) a w):
 ∀(fuel:Nat) (listed:Array Bool) (a:Act) (w:World),
  (∀j e4,ops[j]? =some e4→j≠i→listed.getD j true=false→(∀e∈e4.after,Region.binds .any e=true→e.on≠i)→oi.apart ops e4=true)→
  i∈Region.ready .any ops listed→Yields P ops oi v a→S w→
  ll P ops Q S wr fuel (listed.setIfInBounds i true) (a.put oi.dst v) w→ll P ops Q S wr (fuel+1) listed a w:=by
 intro fuel
 induction fuel with
 |zero=>
  intro listed a w _ ag ax hS H;refine⟨fun h=>(by rw[h]at ag;cases ag),fun j af=>?_⟩
  by_cases gr:j=i
  ·subst gr;exact ax.yieldsIf.wpOp hi hS (.inr ⟨s5,hS,H⟩)
  ·have:=ready_mono af gr
   rw[H.1]at this
   cases this
 |succ fuel aX=>
  intro listed a w s6 ag ax hS H;refine⟨fun h=>(by rw[h]at ag;cases ag),fun j af=>?_⟩
  by_cases gr:j=i
  ·subst gr;exact ax.yieldsIf.wpOp hi hS (.inr ⟨s5,hS,H⟩)
  ·have aa:=H.2 j (ready_mono af gr)
   obtain⟨qz,e4,iy,eb⟩:=mem_ready.1 af
   have va: ∀e∈e4.after,Region.binds .any e=true→e.on≠i:=fun e he ad heq=>by
    have aa:=eb e he ad
    have aL:=(mem_ready.1 ag).1
    rw[heq]at aa
    rcases Nat.lt_or_ge i listed.size with h'|h'
    ·simp[h']at aL aa;rw[aL]at aa;cases aa
    ·simp[Array.getElem?_eq_none h']at aa
   have ae:=wpOp_put iy (s6 j e4 iy gr qz va) (fun cs b=>ln i oi cs b hi) (fun cs b=>ln j e4 cs b iy) eu ax aa
   have low: ∀k,(listed.setIfInBounds j true).getD k true=false→listed.getD k true=false:=fun k hQ=>by
    by_cases qA:j=k
    ·subst qA;exact qz
    ·rw[getD_set_ne true qA]at hQ;exact hQ
   have xg: ∀k ok,ops[k]? =some ok→k≠i→(listed.setIfInBounds j true).getD k true=false→
    (∀e∈ok.after,Region.binds .any e=true→e.on≠i)→oi.apart ops ok=true:=fun k ok aj bw hQ gd=>s6 k ok aj bw (low k hQ) gd
   refine wpOp_mono (fun bb w' ⟨mD,au⟩=>?_) ae
   rcases au with⟨hw,au⟩|⟨hw,UM,au⟩
   ·refine .inl ⟨hw,wpAny_first hi ln eu fuel _ bb w' xg (ready_mono ag (Ne.symm gr)) mD ?_⟩
    rw[Array.setIfInBounds_comm _ _ gr];exact au
   ·refine .inr ⟨hw,UM,aX (listed.setIfInBounds j true) bb w' xg (ready_mono ag (Ne.symm gr)) mD UM ?_⟩
    rw[Array.setIfInBounds_comm _ _ gr];exact au
end
section
variable {P:Program} {G:a7} {Q:Exit→aO→Prop} {L:List Oper} {wr:List Bool}
theorem fH.zhh{fuel:Nat}{m:List Bool}{s bo:aO}(i:Nat){o:Oper}(an:L[i]? =some o)(ak:jQ P G L.toArray o s bo)(k:fH P G L Q wr fuel (m.set i true) bo)(ai:Region.noSelect L.toArray=true)
 (hf:Region.free .any L.toArray m.toArray i=true)(ag:(Region.ready .any L.toArray m.toArray).contains i=true)(hw:Fx L.toArray wr m i=true):fH P G L Q wr (fuel+1) m s:=by
 intro E a w dA
 obtain⟨v,aw,rF⟩:=ak E a w dA
 unfold Fx at hw
 simp only at hw
 generalize mi:Fw L.toArray m i (List.range L.toArray.size) []=D at hw
 simp only[Bool.and_eq_true]at hw
 obtain⟨aa,ae,au⟩:=hw
 refine zhe (i:=i) (oi:=o) (v:=v) (by simpa using an) (by simpa using aa) (Region.noSelect_spec ai) (fun c a w aH=>?_) (fun j=>D.contains j=true) fuel m.toArray a w (Region.free_spec (by simpa using an) hf) (fun j e4 iy vb hQ=>?_) (fun j af=>?_) (by simpa using ag) aw (gb.refl w) (by simpa using k E _ w rF)
 ·obtain⟨_,⟨h,_⟩,_⟩:=aH
  cases h
 ·have:=List.all_eq_true.1 au j (List.mem_range.2 (Array.getElem?_eq_some_iff.1 iy).1)
  rw[vb,hQ]at this;simpa using this
 ·have hm:j∈D:=by simpa using af
  have:=List.all_eq_true.1 ae j hm
  unfold Nt at this;simp only[Bool.and_eq_true,Bool.not_eq_true']at this;obtain⟨g1,g2,g3⟩:=this;refine⟨g1,fun ba=>(by rw[ba,Nat.beq_refl]at g2;cases g2),?_⟩
  cases iy:L.toArray[j]? with
  |none=>rw[iy]at g3;cases g3
  |some e4=>
   rw[iy]at g3;obtain⟨e,he,ad⟩:=Array.any_eq_true'.1 g3;simp only[Bool.and_eq_true,Bool.or_eq_true,beq_iff_eq]at ad;exact⟨e4,rfl,e,he,ad⟩
theorem fH.zhi{fuel:Nat}{m:List Bool}{s bo:aO}(i:Nat){o:Oper}(an:L[i]? =some o)(ak:hq P G L.toArray o s bo)(k:fH P G L Q wr fuel (m.set i true) bo)(ai:Region.noSelect L.toArray=true)
 (hf:Region.free .any L.toArray m.toArray i=true)(ag:(Region.ready .any L.toArray m.toArray).contains i=true)(hw:wr.getD i false=false):fH P G L Q wr (fuel+1) m s:=by
 intro E a w dA
 obtain⟨v,aw,rF⟩:=ak E a w dA
 refine zhg (i:=i) (oi:=o) (v:=v) (by simpa using an) hw (Region.noSelect_spec ai) (fun c a w aH=>?_) fuel m.toArray a w (Region.free_spec (by simpa using an) hf) (by simpa using ag) aw (gb.refl w) (by simpa using k E _ w rF)
 obtain⟨_,⟨h,_⟩,_⟩:=aH
 cases h
theorem fH.any{fuel:Nat}{m:List Bool}{s:aO}(b3:Region.ready .any L.toArray m.toArray≠[])(h: ∀i∈Region.ready .any L.toArray m.toArray,∃o,L[i]? =some o∧∃A:aO→Prop,(∀t,A t→fH P G L Q wr fuel (m.set i true) t)∧
      ∀E a w,Rel E G s a w→(Region.wanted o (yielded L.toArray a.tmps)=true∧∀(K:Act→World→Prop) (Q:Exit→Act→World→Prop),(∀t,A t→∀bb w',Rel E G t bb w'→(wr.getD i false=true∨gb w w')→K bb w')→o.wp P a w K Q)∨(wr.getD i false=false∧Region.wanted o (yielded L.toArray a.tmps)=false∧∃t,A t∧Rel E G t (a.put o.dst undef) w)):fH P G L Q wr (fuel+1) m s:=by
  intro E a w ag;refine⟨fun hn=>absurd hn b3,fun j af=>?_⟩
  obtain⟨o,an,A,k,ai⟩:=h j af
  have eM:m.toArray.setIfInBounds j true=(m.set j true).toArray:=by simp
  have next: ∀t,A t→∀bb w',Rel E G t bb w'→(wr.getD j false=true∨gb w w')→(wr.getD j false=true∧wpAny P .any L.toArray (lift E G (n2 Q)) fuel (m.toArray.setIfInBounds j true) bb w')∨(wr.getD j false=false∧gb w w'∧ll P L.toArray (lift E G (n2 Q)) (gb w) (fun i=>wr.getD i false) fuel (m.toArray.setIfInBounds j true) bb w'):=fun t aG bb w' dW aj=>by
    rw[eM]
    cases hw:wr.getD j false with
    |true=>exact .inl ⟨rfl,(k t aG).cW E bb w' dW⟩
    |false=>
      rcases aj with aj|aj
      · rw[hw]at aj;cases aj
      · exact .inr ⟨rfl,aj,DT (fun dH ae=>aj.trans ae) _ _ _ _ (k t aG E bb w' dW)⟩
  unfold wpOp;rw[show L.toArray[j]? =some o from by simpa using an]
  simp only
  rcases ai E a w ag with⟨fh,au⟩|⟨hw,fh,t,aP,au⟩
  · rw[if_pos fh]
    exact .inl (au _ _ next)
  · rw[if_neg (by rw[fh];decide)]
    exact next t aP _ _ au (.inr (gb.refl w))
end
section
variable {P:Program} {G:a7} {N B:Nat} {M:List aQ}
theorem c2.later{E:Entry}{s:aO}{a:Act}{w cJ:World}{β:Nat→Value}{ro:Nat→Prop}(h:c2 E G s a w β ro)(aj:gb w cJ):c2 ⟨cJ,ro,s.heap,β,E.n⟩ G s a cJ β ro:=by
 have bM:w.heap.size≤cJ.heap.size:=by
  rcases Nat.eq_zero_or_pos w.heap.size with aL|aL
  ·omega
  ·have aa:=aj (w.heap.size-1) (by omega)
   rcases Nat.lt_or_ge (w.heap.size-1) cJ.heap.size with ae|ae
   ·omega
   ·rw[Array.getElem?_eq_none ae,Array.getElem?_eq_getElem (by omega)]at aa
    cases aa
 have hw: ∀b,ro b→cJ.heap[b]? =w.heap[b]? :=fun b ad=>aj b (h.heap.lt b ad)
 refine⟨h.defers,h.size,fun i x hx=>(h.slot i x hx).keep hw (fun _ h=>h) (Nat.le_refl _) (fun _ t cs ah=>⟨rfl,t,cs,ah⟩) (fun _ z t _ es ah=>⟨rfl,z,t,es,ah⟩) (fun _ bO ah=>⟨rfl,bO,ah⟩),
  ⟨fun id ic ah=>(h.heap.c5 id ic ah).keep hw (fun _ h=>h) (Nat.le_refl _) bM rfl (fun aq b ad=>aj b ((h.heap.c5 id ic ah).hJ aq ad)) (fun _ t cs ah=>⟨rfl,t,cs,ah⟩) (fun _ z t _ es ah=>⟨rfl,z,t,es,ah⟩) (fun _ bO ah=>⟨rfl,bO,ah⟩),h.heap.inj,h.heap.fg,fun b ad=>Nat.lt_of_lt_of_le (h.heap.lt b ad) bM⟩,
  h.ib.keep hw fun _ h=>h,⟨rfl,rfl,rfl,Nat.le_refl _,fun _ _ _=>rfl,fun b ad=>.inl ad,fun b ad=>ad,fun b ad=>.inl ad,fun id hi o ah=>⟨by rw[ah];simp,rfl⟩,h.trans.new,h.trans.le⟩,h.base⟩
theorem UN{w:World}{ro:Nat→Prop}{σ:Heap}{β:Nat→Value}{n:Nat}{x:Value}{c:Value}(h:br w ro σ β n (.av (.v x)) c):c=x:=by
 cases h with
 |av _ _ h=>
  cases h;rfl
theorem jQ.rL{ops:Array Oper}{o:Oper}{s:aO}{x:Value}(h:cP P G o s (.av (.v x)))(ah:dN ops s o=some true):jQ P G ops o s (s.put o.dst (.av (.v x))):=by
 intro E a w ⟨β,ro,ag⟩
 have hw:=n1 (ops:=ops) ⟨β,ro,ag⟩ ah
 obtain⟨c,_,ae⟩:=h E a w β ro ag
 refine⟨x,.inl ⟨hw,fun cJ aj=>?_⟩,β,ro,ag.put _ _ _ (by rw[UN ae]at ae;exact ae)⟩
 obtain⟨aV,au,aP⟩:=h _ a cJ β ro (ag.later aj)
 rw[UN aP]at au
 exact au
def ki(P:Program)(G:a7)(ops:Array Oper)(o:Oper)(s:aO)(A:aO→Prop):Prop:=∀E a w,Rel E G s a w→
 (Region.wanted o (yielded ops a.tmps)=true∧∀(K:Act→World→Prop) (Q:Exit→Act→World→Prop),(∀t,A t→∀bb w',Rel E G t bb w'→gb w w'→K bb w')→o.wp P a w K Q)∨
 (Region.wanted o (yielded ops a.tmps)=false∧∃t,A t∧Rel E G t (a.put o.dst undef) w)
theorem ki.v{ops:Array Oper}{o:Oper}{s:aO}{v:aD}{A:aO→Prop}(h:cP P G o s v)(ah:dN ops s o=some true)(dn:A (s.put o.dst v)):ki P G ops o s A:=fun E a w ag=>
 .inl ⟨n1 ag ah,fun K Q hK=>h.QS E a w ag K Q fun bb w' dW aj=>hK _ dn bb w' dW aj⟩
theorem ki.no{ops:Array Oper}{o:Oper}{s:aO}{A:aO→Prop}(ah:dN ops s o=some false)(dn:A (s.put o.dst (.tuple []))):ki P G ops o s A:=fun E a w ag=>
 .inr ⟨n1 ag ah,_,dn,ag.Dp o.dst⟩
theorem fH.one{L:List Oper}{Q:Exit→aO→Prop}{wr:List Bool}{fuel:Nat}{m:List Bool}{s:aO}{A:aO→Prop}{i:Nat}{o:Oper}(an:L[i]? =some o)(h:Region.ready .any L.toArray m.toArray=[i])(hw:wr.getD i false=false)
 (ai:ki P G L.toArray o s A)(k: ∀t,A t→fH P G L Q wr fuel (m.set i true) t):fH P G L Q wr (fuel+1) m s:=by
 intro E a w ag
 refine⟨fun hn=>(by rw[h]at hn;cases hn),fun j af=>?_⟩
 rw[h]at af
 rcases List.mem_cons.1 af with rfl|af
 rotate_left
 ·cases af
 have eM:m.toArray.setIfInBounds j true=(m.set j true).toArray:=by simp
 have next: ∀t,A t→∀bb w',Rel E G t bb w'→gb w w'→wr.getD j false=false∧gb w w'∧ll P L.toArray (lift E G (n2 Q)) (gb w) (fun i=>wr.getD i false) fuel (m.toArray.setIfInBounds j true) bb w':=fun t aG bb w' dW aj=>by
  rw[eM];exact⟨hw,aj,DT (fun dH ae=>aj.trans ae) _ _ _ _ (k t aG E bb w' dW)⟩
 unfold wpOp
 rw[show L.toArray[j]? =some o from by simpa using an]
 simp only
 rcases ai E a w ag with⟨fh,au⟩|⟨fh,t,aP,au⟩
 ·rw[if_pos fh]
  exact .inl (au _ _ fun t aG bb w' dW aj=>.inr (next t aG bb w' dW aj))
 ·rw[if_neg (by rw[fh];decide)]
  exact .inr (next t aP _ _ au (gb.refl w))
def Nu(P:Program)(G:a7)(ops:Array Oper)(o:Oper)(s:aO)(A:aO→Prop):Prop:=∀E a w,Rel E G s a w→
 Region.wanted o (yielded ops a.tmps)=true∧∀(K:Act→World→Prop) (Q:Exit→Act→World→Prop),(∀t,A t→∀bb w',Rel E G t bb w'→K bb w')→o.wp P a w K Q
theorem fH.zhj{L:List Oper}{Q:Exit→aO→Prop}{wr:List Bool}{fuel:Nat}{m:List Bool}{s:aO}{A:aO→Prop}{i:Nat}{o:Oper}(an:L[i]? =some o)(h:Region.ready .any L.toArray m.toArray=[i])(hw:wr.getD i false=true)
 (ai:Nu P G L.toArray o s A)(k: ∀t,A t→fH P G L Q wr fuel (m.set i true) t):fH P G L Q wr (fuel+1) m s:=by
 intro E a w ag
 refine⟨fun hn=>(by rw[h]at hn;cases hn),fun j af=>?_⟩
 rw[h]at af
 rcases List.mem_cons.1 af with rfl|af
 rotate_left
 ·cases af
 have eM:m.toArray.setIfInBounds j true=(m.set j true).toArray:=by simp
 have next: ∀t,A t→∀bb w',Rel E G t bb w'→wr.getD j false=true∧wpAny P .any L.toArray (lift E G (n2 Q)) fuel (m.toArray.setIfInBounds j true) bb w':=fun t aG bb w' dW=>by
  rw[eM];exact⟨hw,(k t aG).cW E bb w' dW⟩
 unfold wpOp
 rw[show L.toArray[j]? =some o from by simpa using an]
 simp only
 obtain⟨fh,au⟩:=ai E a w ag
 rw[if_pos fh]
 exact .inl (au _ _ fun t aG bb w' dW=>.inl (next t aG bb w' dW))
theorem ki.call{ops:Array Oper}{o:Oper}{s:aO}{xs:Array Operand}{f:FuncId}{p q:List aD}(vw:vv P G o s f p q xs)(gB:m4 P f=true)
 (ah:dN ops s o=some true)(o4:e3 (p++xs.toList.map (aI G s)++q)=true){R:aD→Heap→Prop}(hc:dF P G f (p++xs.toList.map (aI G s)++q) [] 0 R){A:aO→Prop}(fP: ∀r bU,R r bU→fE r=true∧A (s.put o.dst r)):ki P G ops o s A:=by
 intro E a w ⟨β,ro,h⟩
 refine .inl ⟨n1 ⟨β,ro,h⟩ ah,fun K Q hK=>?_⟩
 obtain⟨c,d,aa,ae,kf,vu,cq⟩:=vw E a w β ro h
 ·unfold Oper.wp
  rw[cq w,Ds gB]
  have ho:=hc w β ro (c++xs.map a.eval++d) (by simp[aa,ae,Nat.add_assoc]) (fun i y ax=>nV (Tl (x:=.const undef) (f:=.func f) h aa ae kf vu i y ax) (m3 o4 ax))
   ⟨by simp[aE],by simp[aE],fun b _ ⟨_,_,ah,_⟩=>by simp[aE]at ah,h.heap.lt⟩ h.ib (by simp[aE])
  refine Calls.mono ho fun e w' aH=>?_
  obtain⟨v,r,bU,dL,ro',cI,rfl,ag,dA,hO,cD⟩:=aH;obtain⟨zhk,dn⟩:=fP r bU ag
  have lf: ∀b,¬Own ([]:Heap) β b:=fun b ⟨_,_,ah,_⟩=>by simp[aE]at ah
  have lL: ∀b,b<w.heap.size→w'.heap[b]? =w.heap[b]? :=fun b ad=>cD.frame b ad (lf b)
  have cT:=h.grow (w':=w') (ro':=ro') cD.os cD.tape cD.output cD.size lL cD.j1 (fun b ad=>by
   rcases cD.jk b ad with q|q|q
   ·exact .inl q
   ·exact absurd q (lf b)
   ·exact .inr ⟨q,hO.lt b ad⟩)
  exact hK _ dn _ _ ⟨β,ro',cT.put o.dst r v (nV dA zhk)⟩ lL
theorem b1.zhl{id:Nat}{L:List Oper}{Q:Exit→aO→Prop}{wr:List Bool}{s:aO}(n:Nat)(h:fH P G L Q wr n (List.replicate n false) s)(q8:P.follows .mixedOrders=true)(hn:Nat.beq L.length n=true):b1 P G (.region id L.toArray true) Q s:=b1.zei n h.cW q8 hn
end
end Go.aK
