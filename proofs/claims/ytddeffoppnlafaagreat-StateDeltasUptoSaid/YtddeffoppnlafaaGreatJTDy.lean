/- Conditions: none. -/
import Derived.Test.YtddeffoppnlafaaGreatJTDu
import Derived.Test.YtddeffoppnlafaaGreatJTDa
open Array renaming getElem?_eq_none->zWu,setIfInBounds_comm->zVb
open Bool renaming and_eq_true->zZr,or_eq_true->zZg
open List renaming all_eq_true->zZ2,length->zZ5,length_cons->zVi,mem_append->zVs,mem_cons->zZf,range->zYj
open Nat renaming beq->zZu,beq_refl->zZh,ble->zZt,eq_of_beq_eq_true->zWi,le_add_right->zY8,le_of_ble_eq_true->zZq,le_refl->zZv,le_succ->zVh,le_trans->zZx,lt_or_ge->zYm,lt_succ_self->zYi,max->zWl
namespace Go.aH
open Go
def aG.ends:aG->List (cm × ax)
 | .db x S=>[(x,S)]| .lt _ _ t=>t.ends| .fF _ t=>t.ends| .it _ a b=>a.ends++b.ends| .eB _ a _ k=>a.ends++k.ends| .fc _ _ _ _ _ a k=>a.ends++k.ends| .fG _ _ _ a k=>a.ends++k.ends| .bad _=>[]
def cY(S:ax):hl->List jG
 |[]=>[]|(i,r,p)::l=>⟨i,r,p.dR S,p⟩::cY S l
def Cx(kx j:Nat):List cv->Bool
 |[]=>false| .d2 i (.lK .add .i64 .i64) x y::r=>match zZu i j&&(eF x (.bE (.int .i64) kx)&&eF y (.cs (.int .i64 1)))with
  |true=>true|false=>Cx kx j r
 |_::r=>Cx kx j r
def KC(kx cn:Nat)(aM:ax):Bool:=
 match aM.at cn with
 | .bE (.int .i64) j=>Cx kx j aM.g|_=>false
def pI(J:h3)(n:Nat):h3:=⟨J.l,J.h,n,J.ps⟩
def zQ(n:Nat):List (Nat × ag)->Bool
 |[]=>true|(_,x)::r=>ag.vI n x&&zQ n r
def KD(J:h3)(aX kx cn:Nat)(aM:ax):Bool:=lP (pI J (zWl aM.n J.n)) aX aM&&KC kx cn aM
def xH(J cN:h3)(aX kx cn cur:Nat):List (cm × ax)->Bool
 |[]=>true|(.cp,aM)::r=>KD J aX kx cn aM&&xH J cN aX kx cn cur r
 |(.ext m,aM)::r=>(match zZu m cur with
  |true=>lP cN aX aM
  |false=>true)&&xH J cN aX kx cn cur r
 |_::r=>xH J cN aX kx cn cur r
def KE(dC:ax):hl->Bool
 |[]=>true|(i,r,p)::l=>eF (p.dR dC) (.bE r i)&&KE dC l
def aG.Cy(cur:Nat):aG->Option ax
 | .lt _ _ t=>t.Cy cur| .db (.ext m) S=>match zZu m cur with
  |true=>some S|false=>none
 |_=>none
structure sR where
 J:h3
 cN:h3
 cn:Nat
 y:ag
def sR.kx(I:sR)(S:ax):Nat:=S.k+I.J.ps.length
def sR.H(I:sR)(S:ax):ax:=ax.put ⟨gE I.J.l,I.J.h,I.J.n,I.kx S+1,.rg (I.kx S) I.y::S.g⟩ (some I.cn) (.bE (.int .i64) (I.kx S))
def sR.E(I:sR)(S:ax):ax:=ax.put ⟨gE I.J.l,I.J.h,I.J.n,I.kx S,S.g⟩ (some I.cn) I.y
def KF(S:ax)(x:ag):Nat->Bool
 |0=>false|n+1=>eF (S.at n) x||KF S x n
def lenOf(j:Nat):List cv->Option (bZ × ag)
 |[]=>none| .d1 i (.la c) x::r=>match zZu i j with
  |true=>some (c,x)|false=>lenOf j r
 |_::r=>lenOf j r
def E8(c:bZ)(x:ag):Bool:=
 match x.rt with
 |some (.li d)=>decide (d=c)|_=>false
def F2(N:Nat)(S:ax)(y:ag):List hj:=
 match y with
 | .cs (.int .i64 n)=>match decide (0<=n/\n<9223372036854775808)with
  |true=>[]|false=>[.nth 9223372036854775808 y]
 | .bE (.int .i64) j=>match lenOf j S.g with
  |some (c,x)=>match KF S x N&&E8 c x with
   |true=>[]|false=>[.nth 9223372036854775808 y]
  |none=>[.nth 9223372036854775808 y]
 |y=>[.nth 9223372036854775808 y]
def isInt(y:ag):Bool:=
 match y.rt with
 |some (.int .i64)=>true|_=>false
def Zv(N B cur:Nat)(S:ax)(I:sR)(t1 t2:aG):Bool:=
 (kk S.k I.J.ps&&(vH (I.kx S) I.J.l&&fT (I.kx S) I.J.h))&&((eF (S.at I.cn) (.cs (.int .i64 0))&&(isInt I.y&&I.y.lt S.k))&&
 ((lP (pI I.J (zWl S.n I.J.n)) S.k S&&(zQ I.J.n I.J.l&&ru I.J.n I.J.h))&&((Nat.blt I.cn N&&zZt B I.J.n)&&
 (xH I.J ⟨I.cN.l,I.cN.h,I.cN.n,I.J.ps⟩ S.k (I.kx S) I.cn cur t1.ends&&((vH (I.kx S) I.cN.l&&fT (I.kx S) I.cN.h)&&(match t2.Cy cur with
  |some dC=>lP ⟨I.cN.l,I.cN.h,I.cN.n,I.J.ps⟩ S.k dC&&KE dC I.J.ps
  |none=>false))))))
def Zw(N B cur:Nat)(S:ax)(I:sR)(t1 t2:aG):aG:=
 match Zv N B cur S I t1 t2 with
 |true=>emit S.k [] (F2 N S I.y) (.fc (t1.lvl+1) cur (.su (.int .i64) I.y) (I.kx S) (cY S I.J.ps) (t1.rel (hk (t1.lvl+1))) (.db (.ext cur) ⟨gE I.cN.l,I.cN.h,I.cN.n,I.kx S,S.g⟩))|false=>.bad (Cw t1.qw 60)
def Cz(N B:Nat)(f:ax->aG)(cur:Nat)(S:ax)(I:sR):aG:=Zw N B cur S I (f (I.H S)) (f (I.E S))
section
variable {P:Program} {G:aV} {N B:Nat} {M:List bs}
theorem ry: ∀{t:aG} {x:cm} {e aD:Env} {S:ax},run M t e=some (x,S,aD)->(x,S)∈t.ends
 | .db x S0,_,e,aD,S,h=>by
  simp only[run,aG.fold]at h;cases h;simp[aG.ends]
 | .lt _ _ t,_,_,_,_,h=>ry (t:=t) h| .fF _ t,_,_,_,_,h=>ry (t:=t) h| .it c a b,_,e,aD,S,h=>by
  simp only[run,aG.fold]at h;simp only[aG.ends,zVs]
  cases hc:c.aL e .bool with
  |true=>rw[hc]at h;exact .inl (ry (t:=a) h)|false=>rw[hc]at h;exact .inr (ry (t:=b) h)
 | .eB n a ps k,y,e,aD,S,h=>by
  simp only[aG.ends,zVs]
  cases ah:run M a e with
  |none=>unfold run at h;rw[xo ah]at h;cases h
  |some l=>
   obtain⟨x,aM,aE⟩:=l
   cases hx:x.b9 n with
   |true=>
    unfold run at h;rw[tZ ah hx]at h;exact .inr (ry (t:=k) h)
   |false=>
    unfold run at h;rw[qm ah hx]at h;cases h;exact .inl (ry (t:=a) ah)
 | .fc m xid dM cn ca a k,y,e,aD,S,h=>by
  rw[J5]at h;simp only[aG.ends,zVs]
  cases au:bI (λi (v:cd ca)=>dN M m xid ca a (bD (bn.put e cn ⟨.int .i64,(i:Int)⟩) ca v) v) 0 (cQ (dM.den M e)).toNat (cr _ (ew e ca))with
  |inl r=>
   rw[au]at h;have h:r=some (y,S,aD):=h;subst h;obtain⟨i,v,af⟩:=PQ au;exact .inl (ry (t:=a) (J4 af))
  |inr v=>rw[au]at h;exact .inr (ry (t:=k) h)
 | .fG m xid ca a k,y,e,aD,S,h=>by
  rw[J6]at h;simp only[aG.ends,zVs]
  cases au:dk (λ(v:cd ca)=>dN M m xid ca a (bD e ca v) v) c5 (cr _ (ew e ca))with
  |inl r=>
   rw[au]at h;have h:r=some (y,S,aD):=h;subst h;obtain⟨v,af⟩:=PR au;exact .inl (ry (t:=a) (J4 af))
  |inr v=>rw[au]at h;exact .inr (ry (t:=k) h)
 | .bad _,_,_,_,_,h=>by cases h
theorem Zx(S:ax)(e:Env): ∀ca:List jG,eH (vy ca) (cr (vy ca) (fS S e ca))=fS S e ca
 |[]=>rfl|[a]=>by simp only[vy,fS,cr,eH,df]|a::b::l=>by
  have:=Zx S e (b::l);simp only[vy,fS]at this;simp only[vy,fS,cr,eH,df,this]
theorem QG{S:ax}{e:Env}: ∀{ps:hl},ew e (cY S ps)=fS S e (cY S ps)
 |[]=>rfl|(_,_,_)::l=>by simp only[cY,ew,fS,QG (ps:=l)]
theorem F3{S0 aM:ax}{e aE:Env}{ps:hl}:bD e (cY S0 ps) (cr _ (fS aM aE (cY S0 ps)))=gN e (λr p=>⟨r,(p.dR aM).get aE r⟩) ps:=by
 unfold bD;rw[Zx]
 induction ps generalizing e with
 |nil=>rfl|cons q l bb=>
  obtain⟨i,r,p⟩:=q;simp only[cY,fS,vz,gN];exact bb
theorem Zy{i:Nat}: ∀{ca:List jG} {e:Env} {ds:List aK},(∀a∈ca,a.i≠i)->Env.at (vz e ca ds) i=Env.at e i
 |[],_,[],_=>rfl|[],_,_::_,_=>rfl|_::_,_,[],_=>rfl|a::l,e,d::ds,h=>by
  simp only[vz];rw[Zy (ca:=l) λb af=>h b (by simp[af]),Env.mn,if_neg (h a (by simp))]
theorem Zz{S:ax}: ∀{ps:hl} {k:Nat},kk k ps=true->∀a∈cY S ps,k<=a.i/\a.i<k+ps.length
 |(j,r,p)::l,k,h,a,ba=>by
  simp only[kk,zZr]at h;have aj:=zWi h.1;simp only[cY]at ba
  rcases zZf.1 ba with rfl|ba
  ·simp only[zVi];omega
  ·have:=Zz (k:=k+1) h.2.2 a ba
   simp only[zVi];omega
 |[],_,_,a,ba=>by cases ba
theorem CA{S:ax}{e:Env}{ps:hl}{k i:Nat}{v:cd (cY S ps)}(h:kk k ps=true)(hi:i<k\/k+ps.length<=i):Env.at (bD e (cY S ps) v) i=Env.at e i:=
 Zy λa ba=>by have:=Zz h a ba;omega
theorem ZA{S:ax}: ∀{ps:hl} {k:Nat} {e:Env} {v:cd (cY S ps)},kk k ps=true->∀{i:Nat} {r:a6} {p:e8},lf ps i=some (r,p)->(Env.at (bD e (cY S ps) v) i).r=r
 |[],_,_,_,_,_,_,_,ar=>by cases ar
 |[(j,e5,ha)],k,e,v,h,i,r,p,ar=>by
  simp only[lf]at ar
  split at ar
  ·rename_i af
   cases ar;rw[<-zWi af];simp only[bD,cY,vy,eH,vz];rw[Env.mn,if_pos rfl]
  ·cases ar
 |(j,e5,ha)::q::l,k,e,v,h,i,r,p,ar=>by
  simp only[kk,zZr]at h;have aj:=zWi h.1;obtain⟨bG,mg,sQ⟩:=q;have ao:bD e (cY S ((j,e5,ha)::(bG,mg,sQ)::l)) v=bD (bn.put e j ⟨e5,v.1⟩) (cY S ((bG,mg,sQ)::l)) v.2:=rfl
  have ae:kk (k+1) ((bG,mg,sQ)::l)=true:=by
   simp only[kk,zZr];exact h.2.2
  simp only[lf]at ar
  split at ar
  ·rename_i af
   cases ar
   have:=zWi af;rw[ao];refine(congrArg aK.r (CA (S:=S) (e:=bn.put e j ⟨e5,v.1⟩) (ps:=(bG,mg,sQ)::l) (k:=k+1) (i:=i) (v:=v.2) ae (.inl (by omega)))).trans ?_
   rw[Env.mn,if_pos this]
  ·rw[ao]
   exact ZA (S:=S) (e:=bn.put e j ⟨e5,v.1⟩) (ps:=(bG,mg,sQ)::l) (k:=k+1) (v:=v.2) ae ar
theorem ZB{f:a6->e8->aK}{i:Nat}: ∀{ps:hl} {e aD:Env},Env.at e i=Env.at aD i->Env.at (gN e f ps) i=Env.at (gN aD f ps) i
 |[],_,_,h=>h|(j,r,p)::l,e,aD,h=>by
  simp only[gN];refine ZB (ps:=l) ?_;rw[Env.mn,Env.mn,h]
theorem zkm{c:Code}{R A:Type}{n:Nat}{b:Nat->A->Step R A}{a0:A}{hd:Nat->A->aS}{Q:Exit->aS->Prop}{dD:aS}{I:Nat->A->Prop}
    (aP:b5 dD (hd 0 a0))(hi:I 0 a0)
    (ah: ∀k a,k<n->I k a->bI b 0 n a0=bI b k (n-k) a->cb P G c (λe st=>match e with
      | .normal=>∃bo,b k a= .bJ bo/\I (k+1) bo/\b5 st (hd (k+1) bo)
      |e=>Q e st) (hd k a))
    (he: ∀a,I n a->bI b 0 n a0= .inr a->cb P G c (λe st=>match e with
      | .normal=>False
      |e=>Q e st) (hd n a)):cb P G (.loop c) Q dD:=by
  refine cb.loop (ι:=Nat × A) (λx=>hd x.1 x.2) (λx=>x.1<=n/\bI b 0 n a0=bI b x.1 (n-x.1) x.2/\I x.1 x.2) (λx=>n-x.1) (0,a0) aP ⟨Nat.zero_le _,rfl,hi⟩ ?_
  rintro⟨k,a⟩ ⟨an,h2,cO⟩
  simp only at an h2 cO⊢
  by_cases ph:k<n
  · refine cb.mono (ah k a ph cO h2) λe st ao=>?_
    cases e with
    |normal=>
      obtain⟨bo,aa,aw,ae⟩:=ao;exact⟨(k+1,bo),⟨ph,zhF h2 ph aa,aw⟩,by show n-(k+1)<n-k;omega,ae⟩
    |_=>exact ao
  · have:k=n:=by omega
    subst this;refine cb.mono (he a cO (zhI h2 (zZv _))) λe st ao=>?_
    cases e with
    |normal=>exact ao.elim|_=>exact ao
theorem b5.low{aq:List aC}{h:bK}{m n b:Nat}(aa:pv n aq=true)(ae:l1 n h=true)(aw:b<=n):b5 ⟨aq,h,m,b⟩ ⟨aq,h,n,b⟩:=by
 intro E G a w ⟨β,ro,ah⟩;refine⟨β,ro,ah.defers,ah.size,λi x hx=>?_,⟨λid o ai=>?_,ah.heap.inj,ah.heap.fy,ah.heap.lt⟩,ah.ix,?_,ah.base⟩
 ·exact(ah.slot i x hx).lower (tu aa hx)
 ·have av:=ah.heap.dB id o ai
  obtain⟨_,yl⟩:=rY ae ai
  cases av with
  |box t cs b arr aE bc cJ ek=>exact .box t cs b arr aE bc cJ λj x aj=>(ek j x aj).lower (tu (yl t cs rfl) aj)
  |row t n es xs aE bc cJ=>exact .row t n es xs aE bc cJ|gH t n es aE=>exact .gH t n es aE|bW bU b o aE bc cJ=>exact .bW bU b o aE bc cJ
 ·have t:=ah.trans
  exact⟨t.os,t.tape,t.output,t.size,t.frame,t.h9,t.hp,t.gG,t.er,λid o ai=>(rY ae ai).1,zZx ah.base aw⟩
theorem QH{n:Nat}{e:Env}{l:bn ag}(h: ∀i x,l.get i=some x->ag.vI n x=true): ∀(k i:Nat),pv n (lb G e l i k)=true
 |0,_=>rfl|k+1,i=>by
  simp only[lb,pv,QH h k (i+1),Bool.and_true]
  cases ai:l.get i with
  |none=>rfl|some x=>exact FP (h i x ai)
theorem QI{n:Nat}: ∀{l:List (Nat × ag)},zQ n l=true->∀{i:Nat} {x:ag},(i,x)∈l->ag.vI n x=true
 |(_,_)::r,h,i,x,hm=>by
  simp only[zQ,zZr]at h
  rcases zZf.1 hm with q|q
  ·cases q;exact h.1
  ·exact QI h.2 q
theorem ZC{J:h3}{aX kx cn j:Nat}{S0 aM:ax}{e aE:Env}{k:Nat}{g g':List cv}(ar:kk aX J.ps=true)(vN:kx=aX+J.ps.length)(au:vH kx J.l=true)(a8:fT kx J.h=true)
 (se: ∀c∈aM.g,c.ok aE)(h:lP (pI J (zWl aM.n J.n)) aX aM=true)(jj:zQ J.n J.l=true)(tS:ru J.n J.h=true)(gO:B<=J.n)(KG:cn<N)(ck:cy aX e aE)(az:(aM.at cn).den G aE= .ad (.v (.int .i64 (j:Int)))):
 b5 (aM.den G N B aE) ((ax.put ⟨gE J.l,J.h,J.n,k,g⟩ (some cn) (.bE (.int .i64) kx)).den G N B (bD (bn.put e kx ⟨.int .i64,(j:Int)⟩) (cY S0 J.ps) (cr _ (fS aM aE (cY S0 J.ps))))):=by
 have aa:=PT (G:=G) (N:=N) (B:=B) (J:=pI J (zWl aM.n J.n)) ar se h (g:=g') ck;have ae:=aa.put (i:=cn) (x:=.v (.int .i64 (j:Int))) (by rw[zr,if_pos KG,az])
 refine ae.le.trans ?_;rw[F3,gu]
 have zkn:Env.at (gN (bn.put e kx ⟨.int .i64,(j:Int)⟩) (λr p=>⟨r,(p.dR aM).get aE r⟩) J.ps) kx=⟨.int .i64,(j:Int)⟩:=by
  rw[<-F3 (S0:=S0),CA ar (.inr (by omega)),Env.mn,if_pos rfl]
 have ZD:(ag.bE (.int .i64) kx).den G (gN (bn.put e kx ⟨.int .i64,(j:Int)⟩) (λr p=>⟨r,(p.dR aM).get aE r⟩) J.ps)= .ad (.v (.int .i64 (j:Int))):=by
  simp only[ag.den,zkn,df,hb,mP]
 rw[ZD]
 have ej:cy kx (gN e (λr p=>⟨r,(p.dR aM).get aE r⟩) J.ps) (gN (bn.put e kx ⟨.int .i64,(j:Int)⟩) (λr p=>⟨r,(p.dR aM).get aE r⟩) J.ps):=λi hi=>
  ZB (by rw[Env.mn,if_neg (by omega)])
 have rv:(⟨gE J.l,J.h,J.n,kx,[]⟩:ax).cU:=⟨λi x hx=>xy au (sK hx),a8,rfl⟩;have an:=nu (G:=G) (N:=N) (B:=B) (S:=⟨gE J.l,J.h,J.n,kx,[]⟩) ej rv;have aw:(ax.mk (gE J.l) J.h J.n k g).den G N B (gN (bn.put e kx ⟨.int .i64,(j:Int)⟩) (λr p=>⟨r,(p.dR aM).get aE r⟩) J.ps)=(ax.mk (gE J.l) J.h J.n kx []).den G N B (gN e (λr p=>⟨r,(p.dR aM).get aE r⟩) J.ps):=an;rw[aw];refine b5.low (m:=zWl aM.n J.n) ?_ ?_ gO
 ·have:=QH (G:=G) (e:=gN (bn.put e kx ⟨.int .i64,(j:Int)⟩) (λr p=>⟨r,(p.dR aM).get aE r⟩) J.ps) (n:=J.n) (l:=(gE J.l).put cn (.bE (.int .i64) kx)) (λi x hx=>by
   rw[bn.lu]at hx
   split at hx
   ·cases hx;rfl
   ·exact QI jj (sK hx)) N 0
  rw[OP,ZD]at this;have xa:lb G (gN (bn.put e kx ⟨.int .i64,(j:Int)⟩) (λr p=>⟨r,(p.dR aM).get aE r⟩) J.ps) (gE J.l) 0 N=lb G (gN e (λr p=>⟨r,(p.dR aM).get aE r⟩) J.ps) (gE J.l) 0 N:=congrArg aS.dn an;rw[xa]at this;exact this
 ·exact zL tS
end
end Go.aH
namespace Go.aH
open Go
section
variable {P:Program} {G:aV} {N B:Nat} {M:List bs}
theorem ZE{S:ax}{x:ag}: ∀{n:Nat},KF S x n=true->∃i,i<n/\S.at i=x
 |n+1,h=>by
  simp only[KF,zZg]at h
  rcases h with h|h
  ·exact⟨n,zYi n,eQ h⟩
  ·obtain⟨i,aa,ae⟩:=ZE h
   exact⟨i,by omega,ae⟩
theorem F4{j:Nat}{c:bZ}{x:ag}{e:Env}: ∀{l:List cv},lenOf j l=some (c,x)->(∀c∈l,c.ok e)->Env.at e j=⟨.int .i64,(zZ5 (x.aL e (.li c)):Int)⟩
 | .d1 i f y::r,h,hc=>by
  have ah: ∀{c x},lenOf j r=some (c,x)->Env.at e j=⟨.int .i64,(zZ5 (x.aL e (.li c)):Int)⟩:=λh=>F4 h λc hm=>hc c (by simp[hm])
  have aP:=hc (.d1 i f y) (by simp)
  cases f with
  |la d=>
   simp only[lenOf]at h
   split at h
   ·rename_i af
    cases h;rw[<-zWi af];exact aP
   ·exact ah h
  |_=>exact ah h
 | .d2 _ _ _ _::r,h,hc=>F4 (l:=r) h λc hm=>hc c (by simp[hm])
 | .rg _ _::r,h,hc=>F4 (l:=r) h λc hm=>hc c (by simp[hm])
 | .fb _ _::r,h,hc=>F4 (l:=r) h λc hm=>hc c (by simp[hm])
theorem zko{S:ax}{y:ag}{e:Env}{ZF:Entry}{a:Act}{w:World}(hf:S.cV e)(h: ∀n∈F2 N S y,n.ok M e)(ah:Rel ZF G (S.den G N B e) a w):0<=cQ (y.dyn e)/\cQ (y.dyn e)<9223372036854775808:=by
 have key:(hj.nth 9223372036854775808 y).ok M e->0<=cQ (y.dyn e)/\cQ (y.dyn e)<9223372036854775808:=λh=>h;unfold F2 at h
 split at h
 ·rename_i n
  split at h
  ·rename_i hd
   exact of_decide_eq_true hd
  ·exact key (h _ (by simp))
 ·rename_i j
  split at h
  ·rename_i c x au
   split at h
   ·rename_i af
    simp only[zZr]at af;obtain⟨i,hi,hx⟩:=ZE af.1;have aa:=F4 au hf
    have zkp:x.rt=some (.li c):=by
     have:=af.2;unfold E8 at this
     split at this
     ·rename_i d hd
      rw[hd,of_decide_eq_true this]
     ·cases this
    have ae:=hH (G:=G) (e:=e) zkp
    have zR:aR G (S.den G N B e) (.tmp i)= .ad (.li c (x.aL e (.li c))):=by
     simp only[aR,List.getD_eq_getElem?_getD,zr,if_pos hi,hx,ae];rfl
    have:=zil ah zR
    have hd:cQ ((ag.bE (.int .i64) j).dyn e)=(zZ5 (x.aL e (.li c)):Int):=by
     simp only[ag.dyn,aa,df,cQ]
    rw[hd];omega
   ·exact key (h _ (by simp))
  ·exact key (h _ (by simp))
 ·exact key (h _ (by simp))
theorem F5{kx j:Nat}{e:Env}: ∀{l:List cv},Cx kx j l=true->(∀c∈l,c.ok e)->Env.at e j=⟨.int .i64,IntKind.i64.wrap (((Env.at e kx).aI (.int .i64):Int)+1)⟩
 | .d2 i f x y::r,h,hc=>by
  have ah:Cx kx j r=true->Env.at e j=⟨.int .i64,IntKind.i64.wrap (((Env.at e kx).aI (.int .i64):Int)+1)⟩:=λh=>F5 h λc hm=>hc c (by simp[hm])
  have aP:=hc (.d2 i f x y) (by simp)
  unfold Cx at h
  split at h
  ·cases h
  ·rename_i heq
   cases heq
   split at h
   ·rename_i af
    simp only[zZr]at af;rw[<-zWi af.1];have aP:Env.at e i=_:=aP;rw[aP,eQ af.2.1,eQ af.2.2];simp only[gy.den,ag.aL,ag.hh,ag.dyn,df,a1]
   ·exact ah h
  ·rename_i heq
   cases heq;exact ah h
 | .d1 _ _ _::r,h,hc=>F5 (l:=r) h λc hm=>hc c (by simp[hm])
 | .rg _ _::r,h,hc=>F5 (l:=r) h λc hm=>hc c (by simp[hm])
 | .fb _ _::r,h,hc=>F5 (l:=r) h λc hm=>hc c (by simp[hm])
theorem zkq{kx cn:Nat}{aM:ax}{e:Env}{i:Nat}(h:KC kx cn aM=true)(hf:aM.cV e)(an:Env.at e kx=⟨.int .i64,(i:Int)⟩)(hi:(i:Int)<9223372036854775807):(aM.at cn).den G e= .ad (.v (.int .i64 ((i+1:Nat):Int))):=by
 unfold KC at h
 split at h
 ·rename_i j hx
  have:=F5 h hf;rw[hx];simp only[ag.den,this,df,an,hb,mP];rw[zhy (by omega)]
 ·cases h
theorem ZG{cur:Nat}: ∀{t:aG} {e:Env} {S:ax},t.Cy cur=some S->t.safe M e/\∃aD,run M t e=some (.ext cur,S,aD)
 | .lt _ _ t,e,S,h=>ZG (t:=t) h| .db x S0,e,S,h=>by
  refine⟨trivial,?_⟩;unfold aG.Cy at h
  split at h
  ·rename_i heq;cases heq
  ·rename_i m bV heq
   cases heq
   split at h
   ·rename_i af
    cases h;rw[<-zWi af];exact⟨e,rfl⟩
   ·cases h
  ·cases h
 | .fF _ _,_,_,h=>by cases h
 | .it _ _ _,_,_,h=>by cases h
 | .eB _ _ _ _,_,_,h=>by cases h
 | .fc _ _ _ _ _ _ _,_,_,h=>by cases h
 | .fG _ _ _ _ _,_,_,h=>by cases h
 | .bad _,_,_,h=>by cases h
theorem ZH{dC:ax}: ∀{ps:hl},KE dC ps=true->∀{i:Nat} {r:a6} {p:e8},lf ps i=some (r,p)->p.dR dC= .bE r i
 |(j,e5,ha)::l,h,i,r,p,ar=>by
  simp only[KE,zZr]at h;simp only[lf]at ar
  split at ar
  ·rename_i af
   cases ar;rw[eQ h.1,zWi af]
  ·exact ZH h.2 ar
theorem ZI{J cN:h3}{aX kx cn cur:Nat}: ∀{l:List (cm × ax)},xH J cN aX kx cn cur l=true->∀{x:cm} {aM:ax},(x,aM)∈l->(x= .cp->KD J aX kx cn aM=true)/\(x= .ext cur->lP cN aX aM=true)
 |(y,dC)::r,h,x,aM,hm=>by
  have a8:xH J cN aX kx cn cur r=true/\(y= .cp->KD J aX kx cn dC=true)/\(y= .ext cur->lP cN aX dC=true):=by
   cases y with
   |cp=>
    simp only[xH,zZr]at h;exact⟨h.2,λ_=>h.1,λe=>(by cases e)⟩
   |ext m=>
    simp only[xH,zZr]at h;refine⟨h.2,λe=>(by cases e),λe=>?_⟩
    cases e
    have aa:=h.1;rw[zZh]at aa;exact aa
   |ret=>exact⟨h,λe=>(by cases e),λe=>(by cases e)⟩
   |n8 m=>exact⟨h,λe=>(by cases e),λe=>(by cases e)⟩
  rcases zZf.1 hm with q|q
  ·cases q;exact a8.2
  ·exact ZI a8.1 q
theorem cb.rel{c:Code}{Q:Exit->aS->Prop}{s:aS}(h:(∃E a w,Rel E G s a w)->cb P G c Q s):cb P G c Q s:=λE a w ah=>h ⟨E,a,w,ah⟩ E a w ah
theorem zkr{ps:hl}: ∀{k i:Nat},kk k ps=true->k<=i->i<k+ps.length->∃r p,lf ps i=some (r,p):=by
 induction ps with
 |nil=>intro k i _ aa ae;simp at ae;omega|cons q l bb=>
  obtain⟨j,r,p⟩:=q;intro k i h aa ae;simp only[kk,zZr]at h;have aj:=zWi h.1;simp only[lf]
  split
  ·exact⟨r,p,rfl⟩
  ·rename_i af
   refine bb h.2.2 ?_ (by simp only[zVi]at ae;omega)
   have:j≠i:=λe=>by rw[e,zZh]at af;cases af
   omega
theorem ZJ{i:Nat}: ∀{ca:List jG} {e aD:Env} {ds:List aK},Env.at e i=Env.at aD i->Env.at (vz e ca ds) i=Env.at (vz aD ca ds) i
 |[],_,_,[],h=>h|[],_,_,_::_,h=>h|_::_,_,_,[],h=>h|a::l,e,aD,d::ds,h=>by
  simp only[vz];refine ZJ (ca:=l) ?_;rw[Env.mn,Env.mn,h]
theorem QJ{c:Code}{f:ax->aG}(hf:nx P G N B M c f){cur:Nat}{S:ax}{I:sR}{e:Env}(af:S.cU)(fJ:S.cV e)(ao:(Cz N B f cur S I).safe M e):cb P G (.loop c) (lQ G N B M (Cz N B f cur S I) e S.k) (S.den G N B e):=by
 unfold Cz Zw at ao⊢
 split at ao
 rotate_left
 ·exact ao.elim
 rename_i xI;generalize F6:f (I.H S)=t1 at ao xI⊢;generalize ZK:f (I.E S)=t2 at xI;simp only[Zv,zZr]at xI;obtain⟨⟨aO,bz,bd⟩,⟨dV,eK,ij⟩,⟨gg,pn,k4⟩,⟨tJ,kc⟩,QK,⟨QL,r9⟩,tG⟩:=xI;have tJ:=fz tJ;have kc:=zZq kc;obtain⟨ib,hq⟩:=pF ao;have hq:(aG.fc (t1.lvl+1) cur (.su (.int .i64) I.y) (I.kx S) (cY S I.J.ps) (t1.rel (hk (t1.lvl+1))) (.db (.ext cur) ⟨gE I.cN.l,I.cN.h,I.cN.n,I.kx S,S.g⟩)).safe M e:=hq;refine cb.rel λ⟨ZF,ac,w,dO⟩=>?_;obtain⟨ue,z2⟩:=zko (M:=M) (e:=e) fJ ib dO
 have QM:I.y.rt=some (.int .i64):=by
  unfold isInt at eK
  split at eK
  ·assumption
  ·cases eK
 generalize dt:aG.fc (t1.lvl+1) cur (.su (.int .i64) I.y) (I.kx S) (cY S I.J.ps) (t1.rel (hk (t1.lvl+1))) (.db (.ext cur) ⟨gE I.cN.l,I.cN.h,I.cN.n,I.kx S,S.g⟩)=ur at hq;have zks:run M (emit S.k [] (F2 N S I.y) ur) e=run M ur e:=oU;refine cb.mono (Q':=lQ G N B M (emit S.k [] (F2 N S I.y) ur) e S.k) ?_ λex st h=>h;refine cb.mono (Q:=lQ G N B M ur e S.k) ?_ λex st h=>h.sub zks (cy.refl _ _) (zZv _);have vN:I.kx S=S.k+I.J.ps.length:=rfl;have CB:I.H S=ax.put ⟨gE I.J.l,I.J.h,I.J.n,I.kx S+1,.rg (I.kx S) I.y::S.g⟩ (some I.cn) (.bE (.int .i64) (I.kx S)):=rfl;have KH:I.E S=ax.put ⟨gE I.J.l,I.J.h,I.J.n,I.kx S,S.g⟩ (some I.cn) I.y:=rfl;generalize jP:I.kx S=kx at*
 have rv:cQ ((cf.su (.int .i64) I.y).den M e)=cQ (I.y.dyn e):=by
  rw[pD QM];rfl
 generalize yo:cQ (I.y.dyn e)=Z at*;have QN:t1.lvl<t1.lvl+1:=zYi _;have rr:=OJ QN;subst dt;obtain⟨⟨Inv,QO,KI⟩,an⟩:=hq;rw[rv]at KI
 have cE: ∀L,bI (λi (v:cd (cY S I.J.ps))=>dN M (t1.lvl+1) cur (cY S I.J.ps) (t1.rel (hk (t1.lvl+1))) (bD (bn.put e kx ⟨.int .i64,(i:Int)⟩) (cY S I.J.ps) v) v) 0 Z.toNat (cr _ (ew e (cY S I.J.ps)))=L->
  run M (aG.fc (t1.lvl+1) cur (.su (.int .i64) I.y) kx (cY S I.J.ps) (t1.rel (hk (t1.lvl+1))) (.db (.ext cur) ⟨gE I.cN.l,I.cN.h,I.cN.n,kx,S.g⟩)) e=Sum.elim (λr=>r) (λv=>some (.ext cur,⟨gE I.cN.l,I.cN.h,I.cN.n,kx,S.g⟩,bD e (cY S I.J.ps) v)) L:=λL h2=>by
  rw[J5,rv,h2];rfl
 generalize zkt:aG.fc (t1.lvl+1) cur (.su (.int .i64) I.y) kx (cY S I.J.ps) (t1.rel (hk (t1.lvl+1))) (.db (.ext cur) ⟨gE I.cN.l,I.cN.h,I.cN.n,kx,S.g⟩)=ur at cE

 have CC: ∀(i:Nat) (v:cd (cY S I.J.ps)),cy S.k e (bD (bn.put e kx ⟨.int .i64,(i:Int)⟩) (cY S I.J.ps) v):=λi v j aj=>by
  rw[CA aO (.inl aj),Env.mn,if_neg (by omega)]
 have QP: ∀(i:Nat) (v:cd (cY S I.J.ps)),Env.at (bD (bn.put e kx ⟨.int .i64,(i:Int)⟩) (cY S I.J.ps) v) kx=⟨.int .i64,(i:Int)⟩:=λi v=>by
  rw[CA aO (.inr (by omega)),Env.mn,if_pos rfl]
 have zku: ∀(i:Nat) (v:cd (cY S I.J.ps)),cy kx (bD (bn.put e kx ⟨.int .i64,(i:Int)⟩) (cY S I.J.ps) v) (bD e (cY S I.J.ps) v):=λi v j aj=>by
  refine ZJ ?_;rw[Env.mn,if_neg (by omega)]
 have xJ: ∀(v:cd (cY S I.J.ps)),cy S.k e (bD e (cY S I.J.ps) v):=λv j aj=>CA aO (.inl aj);have zkv:(I.H S).k=kx+1:=by rw[CB,lT]
 have zkw:(I.E S).k=kx:=by rw[KH,lT]
 have ZL:I.y.lt kx=true:=iq (by omega) ij
 have QQ:(I.H S).cU:=by
  rw[CB];refine lR ⟨λi x hx=>iq (zVh kx) (xy bz (sK hx)),zu (zVh kx) bd,?_⟩ (nq (zYi kx));show(cv.lt (kx+1) (.rg kx I.y)&&gD (kx+1) S.g)=true;simp only[cv.lt,iq (zVh kx) ZL,nq (zYi kx),sz (show S.k<=kx+1 by omega) af.g,Bool.and_self]
 have zkx:(I.E S).cU:=by
  rw[KH];exact lR ⟨λi x hx=>xy bz (sK hx),bd,sz (show S.k<=kx by omega) af.g⟩ ZL
 have ZM: ∀aD,cy S.k e aD->cQ (I.y.dyn aD)=Z:=λaD h=>by rw[xi h ij,yo]
 have QR: ∀(i:Nat) (v:cd (cY S I.J.ps)),i<Z.toNat->(I.H S).cV (bD (bn.put e kx ⟨.int .i64,(i:Int)⟩) (cY S I.J.ps) v):=λi v hi=>by
  rw[CB];refine lS λd hd=>?_
  rcases zZf.1 hd with rfl|hd
  ·show 0<=cQ (Env.at _ kx)/\cQ (Env.at _ kx)<cQ (I.y.dyn _)
   rw[QP,ZM _ (CC i v)];show 0<=(i:Int)/\(i:Int)<Z;omega
  ·exact kL (CC i v) af.g fJ d hd
 have zky: ∀(i:Nat) (v:cd (cY S I.J.ps)),(I.E S).cV (bD (bn.put e kx ⟨.int .i64,(i:Int)⟩) (cY S I.J.ps) v):=λi v=>by
  rw[KH];exact lS (kL (CC i v) af.g fJ)
 have KJ: ∀bV:ax,bV=⟨gE I.cN.l,I.cN.h,I.cN.n,kx,S.g⟩->bV.cU:=λbV h=>by
  subst h;exact⟨λi x hx=>xy QL (sK hx),r9,sz (show S.k<=kx by omega) af.g⟩

 have m9: ∀(v:cd (cY S I.J.ps)) (st:aS),run M ur e=some (.ext cur,⟨gE I.cN.l,I.cN.h,I.cN.n,kx,S.g⟩,bD e (cY S I.J.ps) v)->b5 st ((ax.mk (gE I.cN.l) I.cN.h I.cN.n kx S.g).den G N B (bD e (cY S I.J.ps) v))->lQ G N B M ur e S.k (.exit cur) st:=λv st aa ae=>
  ⟨.ext cur,_,_,aa,rfl,ae,KJ _ rfl,kL (xJ v) af.g fJ,xJ v,(show S.k<=kx by omega)⟩
 refine zkm (n:=Z.toNat) (b:=λi (v:cd (cY S I.J.ps))=>dN M (t1.lvl+1) cur (cY S I.J.ps) (t1.rel (hk (t1.lvl+1))) (bD (bn.put e kx ⟨.int .i64,(i:Int)⟩) (cY S I.J.ps) v) v) (a0:=cr _ (ew e (cY S I.J.ps)))
  (hd:=λi v=>(I.H S).den G N B (bD (bn.put e kx ⟨.int .i64,(i:Int)⟩) (cY S I.J.ps) v)) (I:=Inv) ?_ QO (λk v ph cO h2=>?_) (λv cO h2=>?_)
 ·rw[QG,CB]
  exact ZC (g':=S.g) aO vN bz bd fJ gg pn k4 kc tJ (cy.refl _ _) (by rw[eQ dV];rfl)
 ·obtain⟨dp,dP⟩:=KI k v ph cO
  have CD:=hf (I.H S) (bD (bn.put e kx ⟨.int .i64,(k:Int)⟩) (cY S I.J.ps) v) QQ (QR k v ph) (by rw[F6];exact(oR rr).1 dp)
  refine cb.mono CD λex st ⟨x,aM,aE,aa,ae,aw,aN,bx,cB,eN⟩=>?_;rw[F6]at aa;rw[zkv]at cB eN;obtain⟨QS,QT⟩:=ZI QK (ry aa);have l4:run M (t1.rel (hk (t1.lvl+1))) (bD (bn.put e kx ⟨.int .i64,(k:Int)⟩) (cY S I.J.ps) v)=some (hk (t1.lvl+1) x,aM,aE):=by rw[Fl rr,aa];rfl
  have oW:dN M (t1.lvl+1) cur (cY S I.J.ps) (t1.rel (hk (t1.lvl+1))) (bD (bn.put e kx ⟨.int .i64,(k:Int)⟩) (cY S I.J.ps) v) v=fj (t1.lvl+1) cur (cY S I.J.ps) (λx S e=>some (x,S,e)) (hk (t1.lvl+1) x) aM aE:=by
   unfold dN;rw[l4]
  have zS:cy S.k e aE:=cy.trans (CC k v) cB (by omega)
  have out: ∀ex,FN x ex->hk (t1.lvl+1) x=x->x.b9 (t1.lvl+1)=false->x.dw cur=false->lQ G N B M ur e S.k ex st:=λex ae hm aj hx=>by
   rw[hm,mS aj hx]at oW;have:=cE _ (zhG h2 ph oW);exact⟨x,aM,aE,this,ae,aw,aN,bx,zS,by omega⟩
  cases x with
  |n8 m=>cases ex<;>exact ae.elim
  |ret=>cases ex<;>first|exact ae.elim|exact out _ ae rfl rfl rfl
  |cp=>
   cases ex with
   |normal=>
    have hx:=QS rfl;simp only[KD,zZr]at hx;rw[rk (x:=hk (t1.lvl+1) .cp) (show cm.b9 (t1.lvl+1) (.n8 (t1.lvl+1))=true from zZh _)]at oW
    refine⟨_,oW,dP _ (by rw[ld,oW];rfl),aw.trans ?_⟩
    simp only[CB];refine ZC (g':=S.g) aO vN bz bd bx hx.1 pn k4 kc tJ zS (zkq hx.2 bx ?_ (by omega))
    rw[cB kx (zYi kx),QP]
   |_=>exact ae.elim
  |ext m=>
   cases ex with
   |exit qK=>
    have ae:m=qK:=ae;subst ae
    cases hm:zZu m cur with
    |false=>exact out _ rfl rfl rfl hm|true=>
     have:=zWi hm;subst this;rw[rm (x:=hk (t1.lvl+1) (.ext m)) (show cm.b9 (t1.lvl+1) (.ext m)=false from rfl) (show cm.dw m (.ext m)=true from hm)]at oW
     have yq:=cE _ (zhH h2 ph oW);refine m9 _ st yq (aw.trans ?_);rw[F3];exact Kd (J:=⟨I.cN.l,I.cN.h,I.cN.n,I.J.ps⟩) aO bx (QT rfl) (g:=S.g) zS
   |_=>exact ae.elim
 ·cases QU:t2.Cy cur with
  |none=>rw[QU]at tG;cases tG
  |some dC=>
   rw[QU]at tG;simp only[zZr]at tG;obtain⟨vG,sQ⟩:=tG;obtain⟨s1,bc,s2⟩:=ZG (M:=M) (e:=bD (bn.put e kx ⟨.int .i64,(Z.toNat:Int)⟩) (cY S I.J.ps) v) QU;have CD:=hf (I.E S) (bD (bn.put e kx ⟨.int .i64,(Z.toNat:Int)⟩) (cY S I.J.ps) v) zkx (zky _ v) (by rw[ZK];exact s1)
   have qv:(I.E S).den G N B (bD (bn.put e kx ⟨.int .i64,(Z.toNat:Int)⟩) (cY S I.J.ps) v)=(I.H S).den G N B (bD (bn.put e kx ⟨.int .i64,(Z.toNat:Int)⟩) (cY S I.J.ps) v):=by
    rw[KH,CB,gu,gu]
    have aa:I.y.den G (bD (bn.put e kx ⟨.int .i64,(Z.toNat:Int)⟩) (cY S I.J.ps) v)= .ad (.v (.int .i64 Z)):=by
     rw[mr QM,<-pD QM,ZM _ (CC _ v)]
    have ae:(ag.bE (.int .i64) kx).den G (bD (bn.put e kx ⟨.int .i64,(Z.toNat:Int)⟩) (cY S I.J.ps) v)= .ad (.v (.int .i64 Z)):=by
     simp only[ag.den,QP,df,hb,mP];rw[Int.toNat_of_nonneg ue]
    rw[aa,ae];rfl
   rw[qv]at CD;refine cb.mono CD λex st ⟨x,aM,aE,aa,ae,aw,aN,bx,cB,eN⟩=>?_;rw[ZK,s2]at aa;cases aa;rw[zkw]at cB
   cases ex with
   |exit m=>
    have ae:cur=m:=ae;subst ae;refine m9 v st (cE _ h2) (aw.trans ?_);have hle:=Kd (G:=G) (N:=N) (B:=B) (J:=⟨I.cN.l,I.cN.h,I.cN.n,I.J.ps⟩) aO bx vG (g:=S.g) (cy.trans (CC _ v) cB (by omega):cy S.k e bc)
    refine hle.trans ?_
    have ej:cy kx (gN e (λr p=>⟨r,(p.dR dC).get bc r⟩) I.J.ps) (bD e (cY S I.J.ps) v):=λi hi=>by
     rcases zYm i S.k with bR|kG
     ·rw[FI aO i bR,xJ v i bR]
     ·obtain⟨r,p,ar⟩:=zkr aO kG (by omega)
      rw[PS aO ar,ZH sQ ar];have vi:=(Yu aO ar).2.2
      have ai:(ag.bE r i).get bc r=(Env.at bc i).aI r:=by
       cases r<;>first|(simp only[ag.get,ag.aL,ag.hh,ag.dyn,df];done)|cases vi
      rw[ai,cB i hi,<-zku Z.toNat v i hi];have zT:=ZA (S:=S) (e:=e) (v:=v) aO ar;generalize Env.at (bD e (cY S I.J.ps) v) i=d at zT⊢;obtain⟨e5,mm⟩:=d;simp only at zT;subst zT;rw[df]
    have Qs:=KJ ⟨gE I.cN.l,I.cN.h,I.cN.n,kx,S.g⟩ rfl;have zkz:=nu (G:=G) (N:=N) (B:=B) (S:=⟨gE I.cN.l,I.cN.h,I.cN.n,kx,S.g⟩) ej Qs;rw[zkz];exact b5.refl _
   |_=>exact ae.elim
end
end Go.aH
namespace Go.aH
open Go
def xK(J cN:h3)(aX cur:Nat):List (cm × ax)->Bool
 |[]=>true|(.cp,aM)::r=>lP (pI J (zWl aM.n J.n)) aX aM&&xK J cN aX cur r
 |(.ext m,aM)::r=>(match zZu m cur with
  |true=>lP cN aX aM
  |false=>true)&&xK J cN aX cur r
 |_::r=>xK J cN aX cur r
def ZN(B cur:Nat)(S:ax)(J cN:h3)(t1:aG):Bool:=
 (kk S.k J.ps&&(vH (S.k+J.ps.length) J.l&&fT (S.k+J.ps.length) J.h))&&((lP (pI J (zWl S.n J.n)) S.k S&&(zQ J.n J.l&&ru J.n J.h))&&(zZt B J.n&&(xK J ⟨cN.l,cN.h,cN.n,J.ps⟩ S.k cur t1.ends&&(vH (S.k+J.ps.length) cN.l&&fT (S.k+J.ps.length) cN.h))))
def ZO(B cur:Nat)(S:ax)(J cN:h3)(t1:aG):aG:=
 match ZN B cur S J cN t1 with
 |true=>.fG (t1.lvl+1) cur (cY S J.ps) (t1.rel (hk (t1.lvl+1))) (.db (.ext cur) ⟨gE cN.l,cN.h,cN.n,S.k+J.ps.length,S.g⟩)|false=>.bad (Cw t1.qw 61)
def KK(B:Nat)(f:ax->aG)(cur:Nat)(S:ax)(J cN:h3):aG:=ZO B cur S J cN (f (J.S S.k S.g))
def F7(cur:Nat):List (cm × ax)->List ax × List ax
 |[]=>([],[])|(.cp,S)::r=>match F7 cur r with
  |(a,b)=>(S::a,b)
 |(.ext m,S)::r=>match F7 cur r with
  |(a,b)=>match zZu m cur with
   |true=>(a,S::b)|false=>(a,b)
 |_::r=>F7 cur r
def KL(S:ax):Nat->Nat->List (Nat × ag)
 |0,_=>[]|n+1,i=>match S.at i with
  | .top=>KL S n (i+1)|x=>(i,x)::KL S n (i+1)
def zkA(N aX cur:Nat)(S:ax)(t:aG):h3:=
 match F7 cur t.ends with
 |(a,b)=>pI (FJ N aX S (a++b)) S.n
def ZP:hl->hl->Bool
 |[],[]=>true|(i,r,p)::l,(j,q,u)::m=>(zZu i j&&jO r q)&&(rq p u&&ZP l m)|_,_=>false
def F8{α:Type}:List α->Nat
 |[]=>0|_::r=>Nat.succ (F8 r)
def zkB(J K:h3):Bool:=ZP J.ps K.ps&&(zZu (F8 J.l) (F8 K.l)&&zZu (F8 J.h) (F8 K.h))
def QV(N:Nat)(f:ax->aG)(cur:Nat)(S:ax):Nat->h3->aG->h3 × aG
 |0,J,t=>(J,t)|n+1,J,t=>match zkA N S.k cur S t with
  |K=>match zkB J K with
   |true=>(K,t)|false=>QV N f cur S n K (f (K.S S.k S.g))
def QW(j:Nat):List (Nat × cf)->Option cf
 |[]=>none|(i,x)::r=>match zZu i j with
  |true=>some x|false=>QW j r
inductive QX where
 |dR (y:ag)
 |ex (x:cf)
 |none
def zkC(aX:Nat)(ds:List (Nat × cf))(y:ag):QX:=
 match y.lt aX with
 |true=>.dR y|false=>match y with
  | .bE (.int .i64) j=>match QW j ds with
   |some (.f1 .rh x)=>match x.lt aX with
    |true=>.ex (.f1 .rh x)|false=>.none
   |some (.f1 (.la c) x)=>match x.lt aX with
    |true=>.ex (.f1 (.la c) x)|false=>.none
   |_=>.none
  |_=>.none
def ZQ(aX cur i:Nat):aG->List (Nat × cf)->QX
 | .lt j x t,ds=>ZQ aX cur i t ((j,x)::ds)| .it (.bE .bool g) _ b,ds=>match QW g ds with
  |some (.f2 (.ss .lss .i64) (.bE (.int .i64) Bx) y)=>match zZu Bx i with
   |true=>match b.Cy cur with
    |some _=>zkC aX ds y|none=>.none
   |false=>.none
  |_=>.none
 |_,_=>.none
def ZR(i s:Nat):List ax->Bool
 |[]=>true|S::r=>KC i s S&&ZR i s r
def zkD(x:ag):Bool:=eF x (.cs (.int .i64 0))
def KM(S:ax)(cur:Nat)(t:aG)(AS:List ax):hl->Option (Nat × QX)
 |[]=>none|(i,.int .i64,.slot s [])::l=>match zkD (S.at s)&&ZR i s AS with
  |true=>match ZQ S.k cur i t []with
   | .none=>KM S cur t AS l|b=>some (s,b)
  |false=>KM S cur t AS l
 |_::l=>KM S cur t AS l
def ZS(s:Nat):List ax->List ax
 |[]=>[]|S::r=>S.put (some s) .top::ZS s r
def QY(N aX:Nat)(S:ax)(s:Nat)(y:ag)(a b:List ax):sR:=
 match pI (FJ N aX (S.put (some s) .top) (ZS s (a++b))) S.n with
 |J=>⟨J,pI J (Kf S.n b),s,y⟩
def F9(N:Nat)(f:ax->aG):Nat->ax->aG
 |0,_=>.bad 63|n+1,S=>nw N S (f S) (F9 N f n)
def zkE(y:ag):Option Nat:=
 match y with
 | .cs (.int .i64 (.ofNat n))=>match zZt n 16 with
  |true=>some (n+1)|false=>none
 |_=>none
def aG.sS:aG->Bool
 | .db _ _=>false| .lt _ _ t=>t.sS| .fF _ t=>t.sS| .it _ a b=>a.sS||b.sS
 | .eB _ a _ k=>a.sS||k.sS
 | .fc _ _ _ _ _ a k=>a.sS||k.sS
 | .fG _ _ _ a k=>a.sS||k.sS
 | .bad _=>true
def ZT(t:aG)(u:Unit->aG):aG:=
 match t.sS with
 |true=>u ()|false=>t
def QZ(S:ax)(J:List (Nat × b1)):List (Nat × b1)->Bool
 |[]=>false
 |(id,.dQ _ l)::r=>(match dG J id with
  |some (.dQ _ m)=>P1 S S l (m.map λx=>match x with
   | .aq k=>.aq k
   |_=>.top)
  |_=>false)||QZ S J r
 |_::r=>QZ S J r
def zkF(S:ax)(J:h3):Bool:=
 match Oq with
 |[]=>false|_=>QZ S J.h S.h
def ZU(g:Bool)(t:aG)(u:Unit->aG):aG:=
 match g with
 |true=>u ()|false=>ZT t u
def ZV(N B:Nat)(f:ax->aG)(cur:Nat)(S:ax):h3 × aG->aG
 |(J,t)=>match F7 cur t.ends with
  |(a,b)=>match KM S cur t a J.ps with
   |some (s,.dR y)=>match zkE y with
    |some n=>ZU (zkF S J) (Cz N B f cur S (QY N S.k S s y a b)) λ_=>F9 N f n S
    |none=>Cz N B f cur S (QY N S.k S s y a b)
   |some (s,.ex x)=>match jt S.k [x]with
    |true=>emit S.k [x] [] (Cz N B f cur (S.fZ S.k [x]) (QY N (S.k+1) S s (.bE (.int .i64) S.k) a b))|false=>.bad 62
   |_=>KK B f cur S J (pI J (Kf S.n b))
def KN(x:ag):Bool:=eF x (.cs (.slice none 0 0))
def zkG(n i:Nat)(S:ax):Option (TypeId × bZ):=
 match S.at i with
 | .aq id=>match zZt n id,dG S.h id with
  |true,some (.rw t c _)=>some (t,c)|_,_=>none
 |_=>none
def ZW(n i:Nat):List ax->Option (TypeId × bZ)
 |[]=>none|S::r=>match zkG n i S with
  |some x=>some x|none=>ZW n i r
def KO(S:ax)(a:List ax):Nat->Nat->List (Nat × TypeId × bZ)
 |0,_=>[]|k+1,i=>match KN (S.at i)with
  |true=>match ZW S.n i a with
   |some (t,c)=>(i,t,c)::KO S a k (i+1)|none=>KO S a k (i+1)
  |false=>KO S a k (i+1)
def qx(N B:Nat):List (Nat × TypeId × bZ)->ax->ax
 |[],S=>S|(i,t,c)::r,S=>match KN (S.at i)&&(Nat.blt i N&&zZt B S.n)with
  |true=>qx N B r ⟨S.l.put i (.aq S.n),(S.n,.rw t c (.cs (.slice none 0 0)))::S.h,S.n+1,S.k,S.g⟩|false=>qx N B r S
def Q0(S:ax):List ag->Bool
 |[]=>false
 | .aq id::r=>(match dG S.h id with
  |some (.rw _ c _)=>P0 c Xi
  |_=>false)||Q0 S r
 |_::r=>Q0 S r
def Q1(S:ax):List (Nat × b1)->Bool
 |[]=>false|(_,.dQ _ l)::r=>Q0 S l||Q1 S r
 |_::r=>Q1 S r
def Q2(cur:Nat):List (cm × ax)->Bool
 |[]=>true|(.ext m,_)::r=>!Nat.beq m cur&&Q2 cur r|_::r=>Q2 cur r
def zkH(cur:Nat)(S:ax)(t:aG):Bool:=
 match Xi with
 |[]=>false|_=>Q1 S S.h&&Q2 cur t.ends
def vO(N B:Nat)(f:ax->aG)(cur:Nat)(S:ax)(t:aG):aG:=
 match zkH cur S t with
 |true=>F9 N f 17 S|false=>ZV N B f cur S (QV N f cur S 6 ⟨KL S N 0,S.h,S.n,[]⟩ t)
def aG.oX:aG->List ax
 | .db _ S=>[S]| .lt _ _ t=>t.oX| .fF _ t=>t.oX| .it _ a b=>a.oX++b.oX| .eB _ a _ k=>a.oX++k.oX| .fc _ _ _ _ _ a k=>a.oX++k.oX| .fG _ _ _ a k=>a.oX++k.oX| .bad _=>[]
def zkI(n id off:Nat)(S:ax):Option (TypeId × bZ):=
 match dG S.h id with
 |some (.dQ _ l)=>match fQ .top l off with
  | .aq k=>match zZt n k,dG S.h k with
   |true,some (.rw t c _)=>some (t,c)|_,_=>none
  |_=>none
 |_=>none
def ZX(n id off:Nat):List ax->Option (TypeId × bZ)
 |[]=>none|S::r=>match zkI n id off S with
  |some x=>some x|none=>ZX n id off r
def KP(S:ax)(a:List ax)(id:Nat):Nat->List ag->List (Nat × Nat × TypeId × bZ)
 |_,[]=>[]|off,x::r=>match KN x with
  |true=>match ZX S.n id off a with
   |some (t,c)=>(id,off,t,c)::KP S a id (off+1) r|none=>KP S a id (off+1) r
  |false=>KP S a id (off+1) r
def CE(S:ax)(a:List ax):List (Nat × b1)->List (Nat × Nat × TypeId × bZ)
 |[]=>[]|(id,.dQ _ l)::r=>KP S a id 0 l++CE S a r|_::r=>CE S a r
def mV(B:Nat):List (Nat × Nat × TypeId × bZ)->ax->ax
 |[],S=>S|(id,off,t,c)::r,S=>match dG S.h id with
  |some (.dQ bt l)=>match(match l[off]? with|some x=>KN x|none=>false)&&zZt B S.n with
   |true=>mV B r ⟨S.l,lL ((S.n,.rw t c (.cs (.slice none 0 0)))::S.h) id (.dQ bt (l.set off (.aq S.n))),S.n+1,S.k,S.g⟩|false=>mV B r S
  |_=>mV B r S
def ZY(N B:Nat)(f:ax->aG)(cur:Nat)(S:ax)(t:aG):aG:=
 match KO S (t.gV++t.oX) N 0 with
 |[]=>match CE S (t.gV++t.oX) S.h with
  |[]=>vO N B f cur S t|q::qs=>vO N B f cur (mV B (q::qs) S) (f (mV B (q::qs) S))
 |p::r=>vO N B f cur (mV B (CE S (t.gV++t.oX) S.h) (qx N B (p::r) S)) (f (mV B (CE S (t.gV++t.oX) S.h) (qx N B (p::r) S)))
def Q3(N B:Nat)(f:ax->aG)(cur:Nat)(S:ax):aG:=ZY N B f cur S (f S)
section
variable {P:Program} {G:aV} {N B:Nat} {M:List bs}
theorem ZZ{J cN:h3}{aX cur:Nat}: ∀{l:List (cm × ax)},xK J cN aX cur l=true->∀{x:cm} {aM:ax},(x,aM)∈l->(x= .cp->lP (pI J (zWl aM.n J.n)) aX aM=true)/\(x= .ext cur->lP cN aX aM=true)
 |(y,dC)::r,h,x,aM,hm=>by
  have a8:xK J cN aX cur r=true/\(y= .cp->lP (pI J (zWl dC.n J.n)) aX dC=true)/\(y= .ext cur->lP cN aX dC=true):=by
   cases y with
   |cp=>
    simp only[xK,zZr]at h;exact⟨h.2,λ_=>h.1,λe=>(by cases e)⟩
   |ext m=>
    simp only[xK,zZr]at h;refine⟨h.2,λe=>(by cases e),λe=>?_⟩
    cases e
    have aa:=h.1;rw[zZh]at aa;exact aa
   |ret=>exact⟨h,λe=>(by cases e),λe=>(by cases e)⟩
   |n8 m=>exact⟨h,λe=>(by cases e),λe=>(by cases e)⟩
  rcases zZf.1 hm with q|q
  ·cases q;exact a8.2
  ·exact ZZ a8.1 q
theorem zkJ{c:Code}{R A:Type}{n:Nat}{b:A->Step R A}{a0:A}{hd:A->aS}{Q:Exit->aS->Prop}{dD:aS}{I:A->Prop}
    (aP:b5 dD (hd a0))(hi:I a0)(he:mQ b n a0)
    (ah: ∀a,I a->(∀r,b a= .ret r->dk b n a0= .inl r)->(∀v,b a= .c4 v->dk b n a0= .inr v)->cb P G c (λe st=>match e with
      | .normal=>∃bo,b a= .bJ bo/\I bo/\b5 st (hd bo)
      |e=>Q e st) (hd a)):cb P G (.loop c) Q dD:=by
  refine cb.loop (ι:=Nat × A) (λx=>hd x.2) (λx=>(dk b n a0=dk b x.1 x.2/\mQ b x.1 x.2)/\I x.2) (λx=>x.1) (n,a0) aP ⟨⟨rfl,he⟩,hi⟩ ?_
  rintro⟨k,a⟩ ⟨h2,cO⟩
  refine cb.mono (ah a cO (λr af=>zh4 h2 af) (λv af=>zh5 h2 af)) λe st ao=>?_
  cases e with
  |normal=>
    obtain⟨bo,aa,aw,ae⟩:=ao;obtain⟨m,aN,bx⟩:=zh3 h2 aa;exact⟨(m,bo),⟨bx,aw⟩,by show m<k;omega,ae⟩
  |_=>exact ao
theorem Z0{J:h3}{aX kx:Nat}{S0 aM:ax}{e aE:Env}{k:Nat}{g g':List cv}(ar:kk aX J.ps=true)(se: ∀c∈aM.g,c.ok aE)(h:lP (pI J (zWl aM.n J.n)) aX aM=true)(jj:zQ J.n J.l=true)(tS:ru J.n J.h=true)(gO:B<=J.n)(ck:cy aX e aE):
 b5 (aM.den G N B aE) ((ax.mk (gE J.l) J.h J.n k g).den G N B (bD e (cY S0 J.ps) (cr _ (fS aM aE (cY S0 J.ps))))):=by
 have aa:=PT (G:=G) (N:=N) (B:=B) (J:=pI J (zWl aM.n J.n)) ar se h (g:=g') ck;refine aa.le.trans ?_;rw[F3];refine b5.low (m:=zWl aM.n J.n) ?_ ?_ gO
 ·exact QH (n:=J.n) (l:=gE J.l) (λi x hx=>QI jj (sK hx)) N 0
 ·exact zL tS
theorem zkK{c:Code}{f:ax->aG}(hf:nx P G N B M c f){cur:Nat}{S:ax}{J cN:h3}{e:Env}(af:S.cU)(fJ:S.cV e)(ao:(KK B f cur S J cN).safe M e):cb P G (.loop c) (lQ G N B M (KK B f cur S J cN) e S.k) (S.den G N B e):=by
 unfold KK ZO at ao⊢
 split at ao
 rotate_left
 ·exact ao.elim
 rename_i xI;generalize F6:f (J.S S.k S.g)=t1 at ao xI⊢;simp only[ZN,zZr]at xI;obtain⟨⟨aO,bz,bd⟩,⟨gg,pn,k4⟩,kc,QK,QL,r9⟩:=xI;have kc:=zZq kc;have QN:t1.lvl<t1.lvl+1:=zYi _;have rr:=OJ QN;obtain⟨⟨Inv,QO,KI⟩,zkL,an⟩:=ao;generalize vN:S.k+J.ps.length=kx at*;have hle:S.k<=kx:=by rw[<-vN];exact zY8 _ _
 have cE: ∀L,dk (λ(v:cd (cY S J.ps))=>dN M (t1.lvl+1) cur (cY S J.ps) (t1.rel (hk (t1.lvl+1))) (bD e (cY S J.ps) v) v) c5 (cr _ (ew e (cY S J.ps)))=L->
  run M (aG.fG (t1.lvl+1) cur (cY S J.ps) (t1.rel (hk (t1.lvl+1))) (.db (.ext cur) ⟨gE cN.l,cN.h,cN.n,kx,S.g⟩)) e=Sum.elim (λr=>r) (λv=>some (.ext cur,⟨gE cN.l,cN.h,cN.n,kx,S.g⟩,bD e (cY S J.ps) v)) L:=λL h2=>by
  rw[J6,h2];rfl
 have zkM:mQ (λ(v:cd (cY S J.ps))=>dN M (t1.lvl+1) cur (cY S J.ps) (t1.rel (hk (t1.lvl+1))) (bD e (cY S J.ps) v) v) c5 (cr _ (ew e (cY S J.ps))):=
  (OH (λ_=>()) (λv=>ld _ _ _ _ _ v) _ _).1 zkL
 generalize zkt:aG.fG (t1.lvl+1) cur (cY S J.ps) (t1.rel (hk (t1.lvl+1))) (.db (.ext cur) ⟨gE cN.l,cN.h,cN.n,kx,S.g⟩)=ur at cE;have xJ: ∀(v:cd (cY S J.ps)),cy S.k e (bD e (cY S J.ps) v):=λv j aj=>CA aO (.inl aj);have QQ:(J.S S.k S.g).cU:=⟨λi x hx=>by show x.lt (S.k+J.ps.length)=true;rw[vN];exact xy bz (sK hx),by show fT (S.k+J.ps.length) J.h=true;rw[vN];exact bd,by show gD (S.k+J.ps.length) S.g=true;rw[vN];exact sz hle af.g⟩
 have QR: ∀(v:cd (cY S J.ps)),(J.S S.k S.g).cV (bD e (cY S J.ps) v):=λv=>kL (xJ v) af.g fJ
 have KJ: ∀bV:ax,bV=⟨gE cN.l,cN.h,cN.n,kx,S.g⟩->bV.cU:=λbV h=>by
  subst h;exact⟨λi x hx=>xy QL (sK hx),r9,sz hle af.g⟩
 refine zkJ (n:=c5) (b:=λ(v:cd (cY S J.ps))=>dN M (t1.lvl+1) cur (cY S J.ps) (t1.rel (hk (t1.lvl+1))) (bD e (cY S J.ps) v) v) (a0:=cr _ (ew e (cY S J.ps)))
  (hd:=λv=>(J.S S.k S.g).den G N B (bD e (cY S J.ps) v)) (I:=Inv) ?_ QO zkM (λv cO zkN zkO=>?_)
 ·rw[QG]
  exact Z0 (kx:=kx) (g':=S.g) aO fJ gg pn k4 kc (cy.refl _ _)
 ·obtain⟨dp,dP⟩:=KI v cO
  have CD:=hf (J.S S.k S.g) (bD e (cY S J.ps) v) QQ (QR v) (by rw[F6];exact(oR rr).1 dp)
  refine cb.mono CD λex st ⟨x,aM,aE,aa,ae,aw,aN,bx,cB,eN⟩=>?_;rw[F6]at aa;have zkP:(J.S S.k S.g).k=kx:=vN;rw[zkP]at cB eN;obtain⟨QS,QT⟩:=ZZ QK (ry aa);have l4:run M (t1.rel (hk (t1.lvl+1))) (bD e (cY S J.ps) v)=some (hk (t1.lvl+1) x,aM,aE):=by rw[Fl rr,aa];rfl
  have oW:dN M (t1.lvl+1) cur (cY S J.ps) (t1.rel (hk (t1.lvl+1))) (bD e (cY S J.ps) v) v=fj (t1.lvl+1) cur (cY S J.ps) (λx S e=>some (x,S,e)) (hk (t1.lvl+1) x) aM aE:=by
   unfold dN;rw[l4]
  have zS:cy S.k e aE:=cy.trans (xJ v) cB hle
  have out: ∀ex,FN x ex->hk (t1.lvl+1) x=x->x.b9 (t1.lvl+1)=false->x.dw cur=false->lQ G N B M ur e S.k ex st:=λex ae hm aj hx=>by
   rw[hm,mS aj hx]at oW;exact⟨x,aM,aE,cE _ (zkN _ oW),ae,aw,aN,bx,zS,zZx hle eN⟩
  cases x with
  |n8 m=>cases ex<;>exact ae.elim
  |ret=>cases ex<;>first|exact ae.elim|exact out _ ae rfl rfl rfl
  |cp=>
   cases ex with
   |normal=>
    rw[rk (x:=hk (t1.lvl+1) .cp) (show cm.b9 (t1.lvl+1) (.n8 (t1.lvl+1))=true from zZh _)]at oW
    exact⟨_,oW,dP _ (by rw[ld,oW];rfl),aw.trans (Z0 (kx:=kx) (g':=S.g) aO bx (QS rfl) pn k4 kc zS)⟩
   |_=>exact ae.elim
  |ext m=>
   cases ex with
   |exit qK=>
    have ae:m=qK:=ae;subst ae
    cases hm:zZu m cur with
    |false=>exact out _ rfl rfl rfl hm|true=>
     have:=zWi hm;subst this;rw[rm (x:=hk (t1.lvl+1) (.ext m)) (show cm.b9 (t1.lvl+1) (.ext m)=false from rfl) (show cm.dw m (.ext m)=true from hm)]at oW
     refine⟨.ext m,_,_,cE _ (zkO _ oW),rfl,aw.trans ?_,KJ _ rfl,kL (xJ _) af.g fJ,xJ _,hle⟩;rw[F3];exact Kd (J:=⟨cN.l,cN.h,cN.n,J.ps⟩) aO bx (QT rfl) (g:=S.g) zS
   |_=>exact ae.elim
theorem KQ{c:Code}{f:ax->aG}(hf:nx P G N B M c f){Q:Exit->aS->Prop}: ∀(n:Nat) {S:ax} {e:Env},S.cU->S.cV e->(F9 N f n S).safe M e->(∀ex st,lQ G N B M (F9 N f n S) e S.k ex st->Q ex st)->BG P G c Q n (S.den G N B e)
 |0,_,_,_,_,ao,_=>ao.elim|n+1,S,e,af,fJ,ao,ez=>by
  obtain⟨t1,t2,t3⟩:=Kh (G:=G) (B:=B) af fJ ao;refine BG.rd n (cb.mono (hf S e af fJ t1) λex st ar=>?_);obtain⟨x,bV,aD,aa,ae,aw,aN,bx,cB,eN⟩:=ar;have other:x≠ .cp->Q ex st:=λb6=>ez ex st ⟨x,bV,aD,t2 x bV aD aa b6 (YX ae),ae,aw,aN,bx,cB,eN⟩
  cases x with
  |cp=>
   cases ex with
   |normal=>
    obtain⟨dC,bc,s1,s2,jc,jI,jv,kO,pH⟩:=t3 bV aD aa aN bx cB eN;have:=KQ hf n s2 jc kO (Q:=Q) λex st ar=>ez ex st (ar.sub pH jI jv);exact λE a w ah=>this E a w (s1 E G a w (aw E G a w ah))
   |_=>exact ae.elim
  |ret=>cases ex<;>first|exact ae.elim|exact other (by simp)
  |ext n=>cases ex<;>first|exact ae.elim|exact other (by simp)
  |n8 n=>cases ex<;>exact ae.elim
theorem Q4{c:Code}{Q:Exit->aS->Prop}{e:Env}: ∀(l:List (Nat × TypeId × bZ)) {S:ax},S.cU->S.cV e->(qx N B l S).cU/\(qx N B l S).cV e/\(qx N B l S).k=S.k/\(cb P G c Q ((qx N B l S).den G N B e)->cb P G c Q (S.den G N B e))
 |[],_,af,hf=>⟨af,hf,rfl,λh=>h⟩
 |(i,t,d)::r,S,af,hf=>by
  unfold qx
  split
  ·rename_i hc
   simp only[zZr]at hc;obtain⟨aO,bz,bd⟩:=hc
   have hB:(⟨S.l.put i (.aq S.n),(S.n,.rw t d (.cs (.slice none 0 0)))::S.h,S.n+1,S.k,S.g⟩:ax).cU:=by
    refine⟨λj x hx=>?_,?_,af.g⟩
    ·simp only[bn.lu]at hx
     split at hx
     ·cases hx;rfl
     ·exact af.l j x hx
    ·show(b1.lt S.k (.rw t d (.cs (.slice none 0 0)))&&fT S.k S.h)=true
     rw[af.h];rfl
   obtain⟨aa,ae,aw,aN⟩:=Q4 r hB hf;refine⟨aa,ae,aw,λh=>?_⟩;refine cb.zhJ i t (dE d) ?_ (by rw[zr,if_pos (fz bz),eQ aO];rfl) bd
   have:=aN h
   have hd:(⟨S.l.put i (.aq S.n),(S.n,.rw t d (.cs (.slice none 0 0)))::S.h,S.n+1,S.k,S.g⟩:ax).den G N B e={S.den G N B e with dn:=(S.den G N B e).dn.set i (.aq (S.den G N B e).next),heap:=((S.den G N B e).next,.row false t (dE d) [])::(S.den G N B e).heap,next:=(S.den G N B e).next+1}:=by
    simp only[ax.den,OP,di,ag.den,b1.den,ag.aL,ag.hh,df];rfl
   rw[hd]at this;exact this
  ·exact Q4 r af hf
theorem Ga{c:Code}{Q:Exit->aS->Prop}{e:Env}: ∀(l:List (Nat × Nat × TypeId × bZ)) {S:ax},S.cU->S.cV e->(mV B l S).cU/\(mV B l S).cV e/\(mV B l S).k=S.k/\(cb P G c Q ((mV B l S).den G N B e)->cb P G c Q (S.den G N B e))
 |[],_,af,hf=>⟨af,hf,rfl,λh=>h⟩
 |(id,off,t,d)::r,S,af,hf=>by
  unfold mV
  split
  ·rename_i bt l ai
   split
   ·rename_i hc
    simp only[zZr]at hc;obtain⟨aO,bd⟩:=hc;have au:=Cl af.h ai
    have hB:(⟨S.l,lL ((S.n,.rw t d (.cs (.slice none 0 0)))::S.h) id (.dQ bt (l.set off (.aq S.n))),S.n+1,S.k,S.g⟩:ax).cU:=by
     refine⟨af.l,Kq (o:=.dQ bt (l.set off (.aq S.n))) (Qi (x:=.aq S.n) rfl au) ?_,af.g⟩;show(b1.lt S.k (.rw t d (.cs (.slice none 0 0)))&&fT S.k S.h)=true;rw[af.h];rfl
    obtain⟨aa,ae,aw,aN⟩:=Ga r hB hf;refine⟨aa,ae,aw,λh=>?_⟩;have:=aN h;have bq:aF (S.den G N B e).heap id=some (.box bt (ag.cc G e l)):=by simp only[ax.den,fx,ai,Option.map_some,b1.den]
    have an:(ag.cc G e l)[off]? =some (.ad (.v (.slice none 0 0))):=by
     rw[gh,List.getElem?_map]
     cases hx:l[off]? with
     |none=>rw[hx]at aO;cases aO
     |some x=>
      rw[hx]at aO;have:=eQ aO;subst this;rfl
    refine cb.le (b5.zig (s:=S.den G N B e) id off t (dE d) bq an (zZq bd) rfl) ?_
    have hd:(⟨S.l,lL ((S.n,.rw t d (.cs (.slice none 0 0)))::S.h) id (.dQ bt (l.set off (.aq S.n))),S.n+1,S.k,S.g⟩:ax).den G N B e={S.den G N B e with heap:=eX (((S.den G N B e).next,.row false t (dE d) [])::(S.den G N B e).heap) id (.box bt ((ag.cc G e l).set off (.aq (S.den G N B e).next))),next:=(S.den G N B e).next+1}:=by
     simp only[ax.den,xr,di,b1.den,Qj,ag.den,ag.aL,ag.hh,df];rfl
    rw[hd]at this;exact this
   ·exact Ga r af hf
  ·exact Ga r af hf
theorem Q5{c:Code}{f:ax->aG}{cur:Nat}{S:ax}{e:Env}{t:aG}(hf:nx P G N B M c f)(af:S.cU)(fJ:S.cV e)(ao:(vO N B f cur S t).safe M e):cb P G (.loop c) (lQ G N B M (vO N B f cur S t) e S.k) (S.den G N B e):=by
 unfold vO at ao⊢
 split at ao
 ·exact cb.rounds _ (KQ hf _ af fJ ao λ_ _ h=>h)
 generalize QV N f cur S 6 ⟨KL S N 0,S.h,S.n,[]⟩ t=zkQ at ao⊢;obtain⟨J,t⟩:=zkQ;simp only[ZV]at ao⊢
 split at ao
 ·split at ao
  ·unfold ZU at ao⊢
   split at ao
   ·exact cb.rounds _ (KQ hf _ af fJ ao λ_ _ h=>h)
   ·unfold ZT at ao⊢
    split at ao
    ·exact cb.rounds _ (KQ hf _ af fJ ao λ_ _ h=>h)
    ·exact QJ hf af fJ ao
  ·exact QJ hf af fJ ao
 ·rename_i s x _
  split at ao
  ·rename_i hx
   obtain⟨_,hq⟩:=pF ao;obtain⟨cw,a2,a3⟩:=vM (M:=M) (G:=G) (N:=N) (B:=B) af fJ hx;have:=QJ hf cw a2 hq;rw[a3]at this;exact cb.mono this λex st ar=>ar.sub (by rw[oU]) (mv (zZv _)) (zY8 _ _)
  ·exact ao.elim
 ·exact zkK hf af fJ ao
theorem zkR:Qy P G N B M (Q3 N B):=by
 intro c f cur hf S e af fJ ao;unfold Q3 ZY at ao⊢;generalize f S=t at ao⊢
 split at ao
 ·split at ao
  ·exact Q5 hf af fJ ao
  ·rename_i q qs _
   obtain⟨aa,ae,aw,aN⟩:=Ga (P:=P) (G:=G) (N:=N) (B:=B) (c:=.loop c) (Q:=lQ G N B M (vO N B f cur (mV B (q::qs) S) (f (mV B (q::qs) S))) e S.k) (e:=e) (q::qs) af fJ;refine aN ?_;have:=Q5 hf aa ae ao;rw[aw]at this;exact this
 ·rename_i p r _
  generalize CE S (t.gV++t.oX) S.h=cM at ao⊢;obtain⟨g1,g2,g3,g4⟩:=Q4 (P:=P) (G:=G) (N:=N) (B:=B) (c:=.loop c) (Q:=lQ G N B M (vO N B f cur (mV B cM (qx N B (p::r) S)) (f (mV B cM (qx N B (p::r) S)))) e S.k) (e:=e) (p::r) af fJ;obtain⟨aa,ae,aw,aN⟩:=Ga (P:=P) (G:=G) (N:=N) (B:=B) (c:=.loop c) (Q:=lQ G N B M (vO N B f cur (mV B cM (qx N B (p::r) S)) (f (mV B cM (qx N B (p::r) S)))) e S.k) (e:=e) cM g1 g2;refine g4 (aN ?_);have:=Q5 hf aa ae ao;rw[aw,g3]at this;exact this
end
end Go.aH
namespace Go.aH
open Go
def Q6(ops:Array Oper)(m:List Bool)(i:Nat)(D:List Nat)(j:Nat):Bool:=
 !(m.toArray.getD j true)&&(!(zZu j i)&&match ops[j]? with
  |some o=>o.after.any λe=>Region.binds .any e&&(e.on==i||D.contains e.on)
  |none=>false)
def KR(ops:Array Oper)(m:List Bool)(i:Nat):List Nat->List Nat->List Nat
 |[],D=>D|j::r,D=>match Q6 ops m i D j with
  |true=>KR ops m i r (j::D)|false=>KR ops m i r D
def KS(ops:Array Oper)(wr:List Bool)(m:List Bool)(i:Nat):Bool:=
 match KR ops m i (zYj ops.size) []with
 |D=>!(wr.getD i false)&&(D.all (Q6 ops m i D)&&(zYj ops.size).all λj=>!(wr.getD j false)||(m.toArray.getD j true||D.contains j))
section
variable {P:Program} {ops:Array Oper} {Q:Exit->Act->World->Prop} {S:World->Prop} {wr:Nat->Bool}
theorem Um{i:Nat}{oi:Oper}{v:Value}(hi:ops[i]? =some oi)(wQ:wr i=false)(l7: ∀(j:Nat) (o:Oper) cs b,ops[j]? =some o->o.op≠ .select cs b)
 (ez: ∀c a w,Q (.panic c) (a.put oi.dst v) w->Q (.panic c) a w)(D:Nat->Prop):
 ∀(fuel:Nat) (listed:Array Bool) (a:Act) (w:World),
  (∀j jE,ops[j]? =some jE->j≠i->listed.getD j true=false->(∀e∈jE.after,Region.binds .any e=true->e.on≠i)->oi.apart ops jE=true)->
  (∀j jE,ops[j]? =some jE->wr j=true->listed.getD j true=false->D j)->
  (∀j,D j->listed.getD j true=false/\j≠i/\∃jE,ops[j]? =some jE/\∃e∈jE.after,Region.binds .any e=true/\(e.on=i\/D e.on))->
  i∈Region.ready .any ops listed->YieldsIf P ops S oi v a->S w->
  pd P ops Q S wr fuel (listed.setIfInBounds i true) (a.put oi.dst v) w->pd P ops Q S wr (fuel+1) listed a w:=by
 intro fuel
 induction fuel with
 |zero=>
  intro listed a w _ _ _ ah aA hS H;refine⟨λh=>(by rw[h]at ah;cases ah),λj aj=>?_⟩
  by_cases kB:j=i
  ·subst kB;exact aA.wpOp hi hS (.inr ⟨wQ,hS,H⟩)
  ·have:=ready_mono aj kB
   rw[H.1]at this
   cases this
 |succ fuel bb=>
  intro listed a w Gb Z1 kA ah aA hS H;refine⟨λh=>(by rw[h]at ah;cases ah),λj aj=>?_⟩
  by_cases kB:j=i
  ·subst kB;exact aA.wpOp hi hS (.inr ⟨wQ,hS,H⟩)
  ·have aa:=H.2 j (ready_mono aj kB)
   obtain⟨CF,jE,nN,fE⟩:=mem_ready.1 aj
   have un: ∀k,listed.getD k true=false->∀e∈jE.after,Region.binds .any e=true->e.on≠k:=λk an e he af heq=>by
    have aa:=fE e he af;rw[heq]at aa
    rcases zYm k listed.size with h'|h'
    ·simp[h']at an aa;rw[an]at aa;cases aa
    ·simp[zWu h']at aa
   have KT: ∀e∈jE.after,Region.binds .any e=true->e.on≠i:=un i (mem_ready.1 ah).1
   have Z2: ¬D j:=λhd=>by
    obtain⟨_,_,zo3,Z3,e,he,af,a8⟩:=kA j hd;rw[nN]at Z3
    cases Z3
    rcases a8 with a8|a8
    ·exact KT e he af a8
    ·exact un e.on (kA _ a8).1 e he af rfl
   have wR:wr j=false:=by
    cases hw:wr j with
    |false=>rfl|true=>exact absurd (Z1 j jE nN hw CF) Z2
   have aa:=wpOp_mono (K':=λbo w'=>S w'/\pd P ops Q S wr fuel ((listed.setIfInBounds i true).setIfInBounds j true) bo w') (λbo w' h'=>by
    rcases h' with⟨h',_⟩|⟨_,h'⟩
    ·rw[wR]at h';cases h'
    ·exact h') aa
   have ae:=wpOp_putIf nN (Gb j jE nN kB CF KT) (λcs b=>l7 i oi cs b hi) (λcs b=>l7 j jE cs b nN) ez aA aa
   have low: ∀k,(listed.setIfInBounds j true).getD k true=false->listed.getD k true=false:=λk kX=>by
    by_cases zU:j=k
    ·subst zU;exact CF
    ·rw[getD_set_ne true zU]at kX;exact kX
   have KU: ∀k ok,ops[k]? =some ok->k≠i->(listed.setIfInBounds j true).getD k true=false->
    (∀e∈ok.after,Region.binds .any e=true->e.on≠i)->oi.apart ops ok=true:=λk ok an bT kX hI=>Gb k ok an bT (low k kX) hI
   have zkS: ∀k,D k->(listed.setIfInBounds j true).getD k true=false/\k≠i/\∃ok,ops[k]? =some ok/\∃e∈ok.after,Region.binds .any e=true/\(e.on=i\/D e.on):=λk an=>by
    obtain⟨g1,g2⟩:=kA k an;refine⟨?_,g2⟩;have zU:j≠k:=λa8=>Z2 (by rw[a8];exact an)
    rw[getD_set_ne true zU];exact g1
   refine wpOp_mono (λbo w' aw=>.inr ⟨wR,aw.2.1,bb (listed.setIfInBounds j true) bo w' KU (λk ok an hw kX=>Z1 k ok an hw (low k kX)) zkS (ready_mono ah (Ne.symm kB)) aw.1 aw.2.1 ?_⟩) ae;rw[zVb _ _ kB];exact aw.2.2
theorem zkT{i:Nat}{oi:Oper}{v:Value}(hi:ops[i]? =some oi)(wQ:wr i=false)(l7: ∀(j:Nat) (o:Oper) cs b,ops[j]? =some o->o.op≠ .select cs b)
 (ez: ∀c a w,Q (.panic c) (a.put oi.dst v) w->Q (.panic c) a w):
 ∀(fuel:Nat) (listed:Array Bool) (a:Act) (w:World),
  (∀j jE,ops[j]? =some jE->j≠i->listed.getD j true=false->(∀e∈jE.after,Region.binds .any e=true->e.on≠i)->oi.apart ops jE=true)->
  i∈Region.ready .any ops listed->Yields P ops oi v a->S w->
  pd P ops Q S wr fuel (listed.setIfInBounds i true) (a.put oi.dst v) w->pd P ops Q S wr (fuel+1) listed a w:=by
 intro fuel
 induction fuel with
 |zero=>
  intro listed a w _ ah aA hS H;refine⟨λh=>(by rw[h]at ah;cases ah),λj aj=>?_⟩
  by_cases kB:j=i
  ·subst kB;exact aA.yieldsIf.wpOp hi hS (.inr ⟨wQ,hS,H⟩)
  ·have:=ready_mono aj kB
   rw[H.1]at this
   cases this
 |succ fuel bb=>
  intro listed a w Gb ah aA hS H;refine⟨λh=>(by rw[h]at ah;cases ah),λj aj=>?_⟩
  by_cases kB:j=i
  ·subst kB;exact aA.yieldsIf.wpOp hi hS (.inr ⟨wQ,hS,H⟩)
  ·have aa:=H.2 j (ready_mono aj kB)
   obtain⟨CF,jE,nN,fE⟩:=mem_ready.1 aj
   have KT: ∀e∈jE.after,Region.binds .any e=true->e.on≠i:=λe he af heq=>by
    have aa:=fE e he af;have aP:=(mem_ready.1 ah).1;rw[heq]at aa
    rcases zYm i listed.size with h'|h'
    ·simp[h']at aP aa;rw[aP]at aa;cases aa
    ·simp[zWu h']at aa
   have ae:=wpOp_put nN (Gb j jE nN kB CF KT) (λcs b=>l7 i oi cs b hi) (λcs b=>l7 j jE cs b nN) ez aA aa
   have low: ∀k,(listed.setIfInBounds j true).getD k true=false->listed.getD k true=false:=λk kX=>by
    by_cases zU:j=k
    ·subst zU;exact CF
    ·rw[getD_set_ne true zU]at kX;exact kX
   have KU: ∀k ok,ops[k]? =some ok->k≠i->(listed.setIfInBounds j true).getD k true=false->
    (∀e∈ok.after,Region.binds .any e=true->e.on≠i)->oi.apart ops ok=true:=λk ok an bT kX hI=>Gb k ok an bT (low k kX) hI
   refine wpOp_mono (λbo w' ⟨pC,aw⟩=>?_) ae
   rcases aw with⟨hw,aw⟩|⟨hw,Z4,aw⟩
   ·refine .inl ⟨hw,wpAny_first hi l7 ez fuel _ bo w' KU (ready_mono ah (Ne.symm kB)) pC ?_⟩
    rw[zVb _ _ kB];exact aw
   ·refine .inr ⟨hw,Z4,bb (listed.setIfInBounds j true) bo w' KU (ready_mono ah (Ne.symm kB)) pC Z4 ?_⟩
    rw[zVb _ _ kB];exact aw
end
section
variable {P:Program} {G:aV} {Q:Exit->aS->Prop} {L:List Oper} {wr:List Bool}
theorem fg.zkU{fuel:Nat}{m:List Bool}{s s':aS}(i:Nat){o:Oper}(av:L[i]? =some o)(ar:jW P G L.toArray o s s')(k:fg P G L Q wr fuel (m.set i true) s')(ao:Region.noSelect L.toArray=true)
 (hf:Region.free .any L.toArray m.toArray i=true)(ah:(Region.ready .any L.toArray m.toArray).contains i=true)(hw:KS L.toArray wr m i=true):fg P G L Q wr (fuel+1) m s:=by
 intro E a w dO;obtain⟨v,az,yu⟩:=ar E a w dO;unfold KS at hw;simp only at hw;generalize kA:KR L.toArray m i (zYj L.toArray.size) []=D at hw;simp only[zZr]at hw;obtain⟨aa,ae,aw⟩:=hw;refine Um (i:=i) (oi:=o) (v:=v) (by simpa using av) (by simpa using aa) (Region.noSelect_spec ao) (λc a w aB=>?_) (λj=>D.contains j=true) fuel m.toArray a w (Region.free_spec (by simpa using av) hf) (λj jE nN wR kX=>?_) (λj aj=>?_) (by simpa using ah) az (gR.refl w) (by simpa using k E _ w yu)
 ·obtain⟨_,⟨h,_⟩,_⟩:=aB
  cases h
 ·have:=zZ2.1 aw j (List.mem_range.2 (Array.getElem?_eq_some_iff.1 nN).1)
  rw[wR,kX]at this;simpa using this
 ·have hm:j∈D:=by simpa using aj
  have:=zZ2.1 ae j hm;unfold Q6 at this;simp only[zZr,Bool.not_eq_true']at this;obtain⟨g1,g2,g3⟩:=this;refine⟨g1,λa8=>(by rw[a8,zZh]at g2;cases g2),?_⟩
  cases nN:L.toArray[j]? with
  |none=>rw[nN]at g3;cases g3
  |some jE=>
   rw[nN]at g3;obtain⟨e,he,af⟩:=Array.any_eq_true'.1 g3;simp only[zZr,zZg,beq_iff_eq]at af;exact⟨jE,rfl,e,he,af⟩
theorem fg.Uu{fuel:Nat}{m:List Bool}{s s':aS}(i:Nat){o:Oper}(av:L[i]? =some o)(ar:hC P G L.toArray o s s')(k:fg P G L Q wr fuel (m.set i true) s')(ao:Region.noSelect L.toArray=true)
 (hf:Region.free .any L.toArray m.toArray i=true)(ah:(Region.ready .any L.toArray m.toArray).contains i=true)(hw:wr.getD i false=false):fg P G L Q wr (fuel+1) m s:=by
 intro E a w dO;obtain⟨v,az,yu⟩:=ar E a w dO;refine zkT (i:=i) (oi:=o) (v:=v) (by simpa using av) hw (Region.noSelect_spec ao) (λc a w aB=>?_) fuel m.toArray a w (Region.free_spec (by simpa using av) hf) (by simpa using ah) az (gR.refl w) (by simpa using k E _ w yu)
 obtain⟨_,⟨h,_⟩,_⟩:=aB
 cases h
theorem fg.any{fuel:Nat}{m:List Bool}{s:aS}(b6:Region.ready .any L.toArray m.toArray≠[])(h: ∀i∈Region.ready .any L.toArray m.toArray,∃o,L[i]? =some o/\∃A:aS->Prop,(∀t,A t->fg P G L Q wr fuel (m.set i true) t)/\
      ∀E a w,Rel E G s a w->(Region.wanted o (yielded L.toArray a.tmps)=true/\∀(K:Act->World->Prop) (Q:Exit->Act->World->Prop),(∀t,A t->∀bo w',Rel E G t bo w'->(wr.getD i false=true\/gR w w')->K bo w')->o.wp P a w K Q)\/(wr.getD i false=false/\Region.wanted o (yielded L.toArray a.tmps)=false/\∃t,A t/\Rel E G t (a.put o.dst undef) w)):fg P G L Q wr (fuel+1) m s:=by
  intro E a w ah;refine⟨λhn=>absurd hn b6,λj aj=>?_⟩;obtain⟨o,av,A,k,ao⟩:=h j aj;have eX:m.toArray.setIfInBounds j true=(m.set j true).toArray:=by simp
  have next: ∀t,A t->∀bo w',Rel E G t bo w'->(wr.getD j false=true\/gR w w')->(wr.getD j false=true/\wpAny P .any L.toArray (lift E G (pc Q)) fuel (m.toArray.setIfInBounds j true) bo w')\/(wr.getD j false=false/\gR w w'/\pd P L.toArray (lift E G (pc Q)) (gR w) (λi=>wr.getD i false) fuel (m.toArray.setIfInBounds j true) bo w'):=λt aJ bo w' dW an=>by
    rw[eX]
    cases hw:wr.getD j false with
    |true=>exact .inl ⟨rfl,(k t aJ).dj E bo w' dW⟩|false=>
      rcases an with an|an
      · rw[hw]at an;cases an
      · exact .inr ⟨rfl,an,DF (λec ae=>an.trans ae) _ _ _ _ (k t aJ E bo w' dW)⟩
  unfold wpOp;rw[show L.toArray[j]? =some o from by simpa using av]
  simp only
  rcases ao E a w ah with⟨gm,aw⟩|⟨hw,gm,t,aN,aw⟩
  · rw[if_pos gm]
    exact .inl (aw _ _ next)
  · rw[if_neg (by rw[gm];decide)]
    exact next t aN _ _ aw (.inr (gR.refl w))
end
section
variable {P:Program} {G:aV} {N B:Nat} {M:List bs}
theorem dy.later{E:Entry}{s:aS}{a:Act}{w bA:World}{β:Nat->Value}{ro:Nat->Prop}(h:dy E G s a w β ro)(an:gR w bA):dy ⟨bA,ro,s.heap,β,E.n,E.d⟩ G s a bA β ro:=by
 have b4:w.heap.size<=bA.heap.size:=by
  rcases Nat.eq_zero_or_pos w.heap.size with aP|aP
  ·omega
  ·have aa:=an (w.heap.size-1) (by omega)
   rcases zYm (w.heap.size-1) bA.heap.size with ae|ae
   ·omega
   ·rw[zWu ae,Array.getElem?_eq_getElem (by omega)]at aa
    cases aa
 have hw: ∀b,ro b->bA.heap[b]? =w.heap[b]? :=λb af=>an b (h.heap.lt b af)
 refine⟨h.defers,h.size,λi x hx=>(h.slot i x hx).keep hw (λ_ h=>h) (zZv _) (λ_ t cs ai=>⟨rfl,t,cs,ai⟩) (λ_ z t _ es ai=>⟨rfl,z,t,es,ai⟩) (λ_ bU ai=>⟨rfl,bU,ai⟩),
  ⟨λid kg ai=>(h.heap.dB id kg ai).keep hw (λ_ h=>h) (zZv _) b4 rfl (λau b af=>an b ((h.heap.dB id kg ai).jB au af)) (λ_ t cs ai=>⟨rfl,t,cs,ai⟩) (λ_ z t _ es ai=>⟨rfl,z,t,es,ai⟩) (λ_ bU ai=>⟨rfl,bU,ai⟩),h.heap.inj,h.heap.fy,λb af=>Nat.lt_of_lt_of_le (h.heap.lt b af) b4⟩,
  h.ix.keep hw λ_ h=>h,⟨rfl,rfl,rfl,zZv _,λ_ _ _=>rfl,λb af=>.inl af,λb af=>af,λb af=>.inl af,λid hi o ai=>⟨by rw[ai];simp,rfl⟩,h.trans.new,h.trans.le⟩,h.base⟩
theorem Z5{w:World}{ro:Nat->Prop}{σ:bK}{β:Nat->Value}{n:Nat}{x:Value}{c:Value}(h:bN w ro σ β n (.ad (.v x)) c):c=x:=by
 cases h with
 |ad _ _ h=>
  cases h;rfl
theorem jW.uW{ops:Array Oper}{o:Oper}{s:aS}{x:Value}(h:c8 P G o s (.ad (.v x)))(ai:fh ops s o=some true):jW P G ops o s (s.put o.dst (.ad (.v x))):=by
 intro E a w ⟨β,ro,ah⟩;have hw:=nJ (ops:=ops) ⟨β,ro,ah⟩ ai;obtain⟨c,_,ae⟩:=h E a w β ro ah;refine⟨x,.inl ⟨hw,λbA an=>?_⟩,β,ro,ah.put _ _ _ (by rw[Z5 ae]at ae;exact ae)⟩
 obtain⟨aO,aw,aN⟩:=h _ a bA β ro (ah.later an);rw[Z5 aN]at aw;exact aw
def mW(P:Program)(G:aV)(ops:Array Oper)(o:Oper)(s:aS)(A:aS->Prop):Prop:=∀E a w,Rel E G s a w->
 (Region.wanted o (yielded ops a.tmps)=true/\∀(K:Act->World->Prop) (Q:Exit->Act->World->Prop),(∀t,A t->∀bo w',Rel E G t bo w'->gR w w'->K bo w')->o.wp P a w K Q)\/
 (Region.wanted o (yielded ops a.tmps)=false/\∃t,A t/\Rel E G t (a.put o.dst undef) w)
theorem mW.v{ops:Array Oper}{o:Oper}{s:aS}{v:aC}{A:aS->Prop}(h:c8 P G o s v)(ai:fh ops s o=some true)(ej:A (s.put o.dst v)):mW P G ops o s A:=λE a w ah=>
 .inl ⟨nJ ah ai,λK Q hK=>h.MA E a w ah K Q λbo w' dW an=>hK _ ej bo w' dW an⟩
theorem mW.no{ops:Array Oper}{o:Oper}{s:aS}{A:aS->Prop}(ai:fh ops s o=some false)(ej:A (s.put o.dst (.tuple []))):mW P G ops o s A:=λE a w ah=>
 .inr ⟨nJ ah ai,_,ej,ah.AJ o.dst⟩
theorem fg.one{L:List Oper}{Q:Exit->aS->Prop}{wr:List Bool}{fuel:Nat}{m:List Bool}{s:aS}{A:aS->Prop}{i:Nat}{o:Oper}(av:L[i]? =some o)(h:Region.ready .any L.toArray m.toArray=[i])(hw:wr.getD i false=false)
 (ao:mW P G L.toArray o s A)(k: ∀t,A t->fg P G L Q wr fuel (m.set i true) t):fg P G L Q wr (fuel+1) m s:=by
 intro E a w ah;refine⟨λhn=>(by rw[h]at hn;cases hn),λj aj=>?_⟩
 rw[h]at aj
 rcases zZf.1 aj with rfl|aj
 rotate_left
 ·cases aj
 have eX:m.toArray.setIfInBounds j true=(m.set j true).toArray:=by simp
 have next: ∀t,A t->∀bo w',Rel E G t bo w'->gR w w'->wr.getD j false=false/\gR w w'/\pd P L.toArray (lift E G (pc Q)) (gR w) (λi=>wr.getD i false) fuel (m.toArray.setIfInBounds j true) bo w':=λt aJ bo w' dW an=>by
  rw[eX];exact⟨hw,an,DF (λec ae=>an.trans ae) _ _ _ _ (k t aJ E bo w' dW)⟩
 unfold wpOp;rw[show L.toArray[j]? =some o from by simpa using av]
 simp only
 rcases ao E a w ah with⟨gm,aw⟩|⟨gm,t,aN,aw⟩
 ·rw[if_pos gm]
  exact .inl (aw _ _ λt aJ bo w' dW an=>.inr (next t aJ bo w' dW an))
 ·rw[if_neg (by rw[gm];decide)]
  exact .inr (next t aN _ _ aw (gR.refl w))
def Q7(P:Program)(G:aV)(ops:Array Oper)(o:Oper)(s:aS)(A:aS->Prop):Prop:=∀E a w,Rel E G s a w->
 Region.wanted o (yielded ops a.tmps)=true/\∀(K:Act->World->Prop) (Q:Exit->Act->World->Prop),(∀t,A t->∀bo w',Rel E G t bo w'->K bo w')->o.wp P a w K Q
theorem fg.zkV{L:List Oper}{Q:Exit->aS->Prop}{wr:List Bool}{fuel:Nat}{m:List Bool}{s:aS}{A:aS->Prop}{i:Nat}{o:Oper}(av:L[i]? =some o)(h:Region.ready .any L.toArray m.toArray=[i])(hw:wr.getD i false=true)
 (ao:Q7 P G L.toArray o s A)(k: ∀t,A t->fg P G L Q wr fuel (m.set i true) t):fg P G L Q wr (fuel+1) m s:=by
 intro E a w ah;refine⟨λhn=>(by rw[h]at hn;cases hn),λj aj=>?_⟩
 rw[h]at aj
 rcases zZf.1 aj with rfl|aj
 rotate_left
 ·cases aj
 have eX:m.toArray.setIfInBounds j true=(m.set j true).toArray:=by simp
 have next: ∀t,A t->∀bo w',Rel E G t bo w'->wr.getD j false=true/\wpAny P .any L.toArray (lift E G (pc Q)) fuel (m.toArray.setIfInBounds j true) bo w':=λt aJ bo w' dW=>by
  rw[eX];exact⟨hw,(k t aJ).dj E bo w' dW⟩
 unfold wpOp;rw[show L.toArray[j]? =some o from by simpa using av]
 simp only;obtain⟨gm,aw⟩:=ao E a w ah;rw[if_pos gm];exact .inl (aw _ _ λt aJ bo w' dW=>.inl (next t aJ bo w' dW))
theorem mW.call{ops:Array Oper}{o:Oper}{s:aS}{xs:Array Operand}{f:FuncId}{p q:List aC}(pT:rO P G o s f p q xs)(iw:o6 P f=true)
 (ai:fh ops s o=some true)(NT:gI (p++xs.toList.map (aR G s)++q)=true){R:aC->bK->Prop}(hc:fa P G f (p++xs.toList.map (aR G s)++q) [] 0 R){A:aS->Prop}(iZ: ∀r cu,R r cu->jF r=true/\A (s.put o.dst r)):mW P G ops o s A:=by
 intro E a w ⟨β,ro,h⟩;refine .inl ⟨nJ ⟨β,ro,h⟩ ai,λK Q hK=>?_⟩;obtain⟨c,d,aa,ae,lx,uL,cE⟩:=pT E a w β ro h
 ·unfold Oper.wp
  rw[cE w,Dg iw]
  have hP:=hc w β ro (c++xs.map a.eval++d) (by simp[aa,ae,Nat.add_assoc]) (λi y aA=>ra (LZ (x:=.const undef) (f:=.func f) h aa ae lx uL i y aA) (q9 NT aA))
   ⟨by simp[aF],by simp[aF],λb _ ⟨_,_,ai,_⟩=>by simp[aF]at ai,h.heap.lt⟩ h.ix (by simp[aF])
  refine Calls.mono hP λe w' aB=>?_;obtain⟨v,r,cu,cS,ro',b0,rfl,ah,dO,gk,cP⟩:=aB;obtain⟨zkW,ej⟩:=iZ r cu ah;have pw: ∀b,¬Own ([]:bK) β b:=λb ⟨_,_,ai,_⟩=>by simp[aF]at ai
  have qg: ∀b,b<w.heap.size->w'.heap[b]? =w.heap[b]? :=λb af=>cP.frame b af (pw b)
  have dX:=h.grow (w':=w') (ro':=ro') cP.os cP.tape cP.output cP.size qg cP.hp (λb af=>by
   rcases cP.h9 b af with q|q|q
   ·exact .inl q
   ·exact absurd q (pw b)
   ·exact .inr ⟨q,gk.lt b af⟩)
  exact hK _ ej _ _ ⟨β,ro',dX.put o.dst r v (ra dO zkW)⟩ qg
theorem cb.Uv{id:Nat}{L:List Oper}{Q:Exit->aS->Prop}{wr:List Bool}{s:aS}(n:Nat)(h:fg P G L Q wr n (List.replicate n false) s)(Ol:P.follows .mixedOrders=true)(hn:zZu L.length n=true):cb P G (.region id L.toArray true) Q s:=cb.zhK n h.dj Ol hn
end
end Go.aH
