/- TE, part D: contracts of functions that are handed an own box and give it back changed. Conditions: none. -/
import Derived.Test.YtddeffoppnlafaaGreatKTEc
namespace Go.aK
open Go
section
variable {P:Program} {G:aR} {f:FuncId} {args:List aC} {σ:Heap} {n:Nat}
theorem eJ.zho{t:TypeId}{cs qb:List aC}{R:aC→List aC→Prop}(h:eJ P G f (.ptr 0 0::args) [(0,.box t cs)] 1 fun r cc=>∃cs',cc=[(0,.box t cs')]∧R r cs')(ar:fX args=true)(fj:fX cs=true)
 (ib: ∀r cs',R r cs'→iK r=true∧qF cs'=true){id:Nat}(bf:aE σ id=some (.box t qb))(fC:gu qb cs):
 eJ P G f (.ptr id 0::args) σ n fun r cc=>∃cs',cc=eA σ id (.box t cs')∧R r cs':=by
 intro w β ro dJ ab ae aw aM bn
 have dS:=aw.dq id _ bf
 cases dS with
 |box _ _ b arr aD bg cM dU=>
  have H4: ∀k,Own [(0,ec.box t cs)] (fun _=>β id) k→cz (β id)=some k:=fun k ⟨i,o,ai,_,ag⟩=>ag
  have xk:gI w ro [(0,.box t cs)] (fun _=>β id) 1:=by
   refine⟨fun i o ai=>?_,fun i yS o cb k ai dQ _ _ _ _=>?_,fun k an au=>aw.e8 k an ⟨id,_,bf,rfl,H4 k au⟩,aw.lt⟩
   ·simp only[aE]at ai
    split at ai
    ·rename_i hi
     subst hi;cases ai;refine .box t cs b arr aD bg (by rw[cM,fC.at.1]) fun j x aj=>?_
     obtain⟨y,aA,ao⟩:=fC.at.2 j x aj;exact pw (ao _ _ _ _ _ _ (dU j y aA)) (pv fj aj)
    ·cases ai
   ·simp only[aE]at ai dQ
    split at ai
    ·split at dQ
     ·rename_i ct a2;rw[←ct,←a2]
     ·cases dQ
    ·cases ai
  refine Calls.mono (h w (fun _=>β id) ro dJ ab (fun i x hx=>?_) xk aM (fun i o ai=>?_)) fun e w' ⟨v,r,gl,cK,ro',bL,he,⟨cs',LD,ah⟩,dE,gf,cI⟩=>?_
  ·cases i with
   |zero=>
    simp only[List.getElem?_cons_zero,Option.some.injEq]at hx
    subst hx
    have:=ae 0 _ rfl
    generalize dJ.getD 0 undef=aZ at this⊢
    cases this with
    |ptr _ _ _ av kn=>
     refine .ptr 0 0 aZ Nat.one_pos fun bh cs' ai=>?_
     exact kn t qb bf
   |succ i=>exact pw (ae (i+1) x (by simpa using hx)) (pv ar (by simpa using hx))
  ·simp only[aE]at ai
   split at ai
   ·rename_i hi;rw[←hi];exact Nat.one_pos
   ·cases ai
  ·subst LD
   obtain⟨zhp,zhq⟩:=ib r cs' ah
   have h5:dn ⟨w,ro,σ,β,n,[]⟩ G ⟨[],σ,n,n⟩ ⟨#[],[]⟩ w β ro:=⟨rfl,rfl,by simp,aw,aM,⟨rfl,rfl,rfl,Nat.le_refl _,fun _ _ _=>rfl,fun _ h=>.inl h,fun _ h=>h,fun _ h=>.inl h,fun id _ o ai=>⟨by simp[ai],rfl⟩,bn,Nat.le_refl _⟩,Nat.le_refl _⟩
   have WT:cK 0=β id:=(cI.ea 0 Nat.one_pos (.box t cs') (by simp[aE])).2
   have hw:=h5.write (w':=w') id _ (.box t cs') bf rfl rfl (.inl ⟨t,qb,cs',rfl,rfl⟩) cI.os cI.tape cI.output cI.size (fun k an bW=>cI.frame k an fun au=>bW (H4 k au)) (by
    have zhr:=gf.dq 0 (.box t cs') (by simp[aE])
    cases zhr with
    |box _ _ gR zhs g1 g2 g3 g4=>
     exact .box t cs' gR zhs (by rw[←WT];exact g1) g2 g3 fun j x aj=>To (g4 j x aj) (F8 zhq aj))
   have BY: ∀k,Own (eA σ id (.box t cs')) β k→Own σ β k:=fun k ⟨i,o,ai,av,ag⟩=>by
    rw[ur]at ai
    split at ai
    ·rename_i hi
     subst hi;exact⟨_,_,bf,rfl,ag⟩
    ·exact⟨i,o,ai,av,ag⟩
   refine⟨v,r,eA σ id (.box t cs'),β,ro',n,he,⟨cs',rfl,ah⟩,pw dE zhp,⟨fun i o ai=>?_,hw.heap.inj,fun k an au=>?_,gf.lt⟩,{hw.trans with hz:=fun k an=>?_,gA:=cI.gA}⟩
   ·exact(hw.heap.dq i o ai).keep (fun _ _=>rfl) cI.gA (Nat.le_refl _) (Nat.le_refl _) rfl (fun _ _ _=>rfl) (fun _ _ _ h=>⟨rfl,_,_,h⟩) (fun _ _ _ _ _ h=>⟨rfl,_,_,_,h⟩) fun _ _ h=>⟨rfl,_,h⟩
   ·have au:=BY k au
    rcases cI.hz k an with q|q|q
    ·exact aw.e8 k q au
    ·exact gf.e8 k an ⟨0,.box t cs',by simp[aE],rfl,by rw[WT];exact H4 k q⟩
    ·obtain⟨i,o,ai,av,ag⟩:=au
     have:=(aw.dq i o ai).iG av ag
     have q:w.heap.size≤k:=q
     omega
   ·rcases cI.hz k an with q|q|q
    ·exact .inl q
    ·exact .inr (.inl ⟨id,_,bf,rfl,H4 k q⟩)
    ·exact .inr (.inr q)
end
def Aj(ds:List aL):List aC:=
 match ds with
 |⟨.st c,x⟩::_=>(df c x).map .ad
 |_=>[]
def H5(ds:List aL):aC:=
 match ds.tail.map aL.cC with
 |[v]=>v
 |l=>.tuple l
def gC(P:Program)(G:aR)(f:Nat)(t:TypeId)(m:bo):Prop:=
 ∀x:(ga m.ps).den,ql m.pre x→eJ P G f (.ptr 0 0::(eK m.ps x).tail.map aL.cC) [(0,.box t (Aj (eK m.ps x)))] 1 fun v cc=>∃cs',cc=[(0,.box t cs')]∧v=H5 (eK m.rs (m.m x))∧cs'=Aj (eK m.rs (m.m x))
structure lq where
 f:Nat
 j:Nat
 t:TypeId
 c:bX
 ps:List aX
 rs:List aX
 bZ:Bool
def lq.q8(b:lq):jM:=⟨b.f,b.j,.st b.c::b.ps,.st b.c::b.rs,b.bZ⟩
def zht(P:Program)(G:aR)(M:List bo)(b:lq):Prop:=
 (fD bo.d M b.j).ps= .st b.c::b.ps∧(fD bo.d M b.j).rs= .st b.c::b.rs∧gC P G b.f b.t (fD bo.d M b.j)∧(b.bZ=true→(fD bo.d M b.j).pre=none)
def Lp(P:Program)(G:aR)(M:List bo)(C:List lq):Prop:=∀b∈C,zht P G M b
def H6(f:Nat):List lq→Option lq
 |[]=>none
 |c::r=>match Nat.beq c.f f with
  |true=>some c
  |false=>H6 f r
theorem WU{f:Nat}{c:lq}: ∀{C:List lq},H6 f C=some c→c∈C∧c.f=f
 |[],h=>by cases h
 |d::r,h=>by
  unfold H6 at h
  split at h
  ·rename_i hd;cases h;exact⟨List.mem_cons_self ..,Nat.eq_of_beq_eq_true hd⟩
  ·obtain⟨ab,ae⟩:=WU h;exact⟨List.mem_cons_of_mem _ ab,ae⟩
def q9(rs:List aX)(k:Nat):Nat:=
 match rs with
 |[_]=>k
 |_=>k+1
def H7(rs:List aX)(k:Nat):af:=
 match rs with
 |[r]=>Dv r k
 |rs=>.tp (jE k rs)
def H8(b:lq)(S:ay)(id:Nat)(xs:List af):ay:=
 ⟨bd.put .emp 0 (H7 b.rs (q9 b.q8.rs S.k+1)),kG S.h id (.dY b.t (kc b.c (q9 b.q8.rs S.k) 0 (ft b.c))),S.n,S.k+(jX b.q8 xs S.k).length,S.g⟩
def WV(b:lq)(S:ay)(t:TypeId)(l rest xs:List af):Bool:=
 (Nat.beq t b.t&&(iA (ft b.c) l&&af.cW S.k l))&&((vv rest&&af.cW S.k xs)&&((aX.st b.c).xr&&b.rs.all aX.jS))
def Pv(C:List lq)(inl:Nat→List af→ay→aH)(f:Nat)(aI:List af)(S:ay):aH:=
 match H6 f C,aI with
 |some b,.eV id 0::rest=>match dK S.h id,tJ S b.ps rest with
  |some (.dY t l),some xs=>match WV b S t l rest xs with
   |true=>emit S.k (jX b.q8 (.cA l::xs) S.k) (HU b.q8 (.cA l::xs)) (.dc .b8 (H8 b S id (.cA l::xs)))
   |false=>inl f aI S
  |_,_=>inl f aI S
 |_,_=>inl f aI S
section
variable {P:Program} {G:aR} {M:List bo} {C:List lq} {inl:Nat→List af→ay→aH}
theorem zhu{c:jM}{xs:List af}{k:Nat}{e:Env}{y:(ga c.rs).den}(av:af.cW k xs=true)(aS:Env.at (dP M e k (jX c xs k)) k=⟨ga c.rs,y⟩):
 ∀(j:Nat) (d:aL),(eK c.rs y)[j]? =some d→Env.at (dP M e k (jX c xs k)) (q9 c.rs k+j)=d:=by
 have fq:=kJ (M:=M) (e:=e) (HW (c:=c) av)
 obtain⟨f,HY,ps,rs,bZ⟩:=c
 simp only at y aS fq⊢
 match rs,y,aS,fq with
 |[],y,aS,fq=>intro j d aj;cases aj
 |[r],y,aS,fq=>
  intro j d aj
  cases j with
  |zero=>
   have aj:(⟨r,y⟩:aL)=d:=by simpa[eK]using aj
   rw[←aj];exact aS
  |succ j=>simp[eK]at aj
 |r::s::l,y,aS,fq=>
  intro j d aj
  have hlen:j<(r::s::l).length:=by
   have ab:=(List.getElem?_eq_some_iff.1 aj).1
   have:=congrArg List.length (vw (rs:=r::s::l) (x:=y))
   rw[List.length_map]at this;omega
  have ab:=fq (j+1) (.tf (r::s::l) k j) (by
   show(b1.ca HY xs::pO (r::s::l) k 0 (r::s::l))[j+1]? =_
   rw[List.getElem?_cons_succ,O9,if_pos hlen,Nat.zero_add])
  show Env.at _ (k+1+j)=d;rw[show k+1+j=k+(j+1)by omega,ab]
  simp only[b1.den,aS,c3];exact Pe aj
theorem zhv{e:Env}{rs:List aX}{k:Nat}{ds:List aL}(ah:ds.map aL.r=rs)(h: ∀j d,ds[j]? =some d→Env.at e (k+j)=d):(H7 rs k).den G e=(match ds.map aL.cC with|[v]=>v|l=>.tuple l):=by
 match rs,ds,ah,h with
 |[],ds,ah,h=>cases nO ah;rfl
 |[r],ds,ah,h=>
  obtain⟨d,qI,rfl,ab,ae⟩:=m7 ah
  cases nO ae
  subst ab;exact Pc (x:=d.v) (h 0 d rfl)
 |r::s::l,ds,ah,h=>
  have:=Dw (G:=G) (i:=k) ah h
  obtain⟨d,qI,rfl,ab,ae⟩:=m7 ah;obtain⟨d2,zkm,rfl,aw,aM⟩:=m7 ae;show aC.tuple (af.b0 G e (jE k (r::s::l)))=_;rw[this];rfl
theorem WW: ∀l:List aL,fX (l.map aL.cC)=true
 |[]=>rfl
 |⟨r,x⟩::l=>by
  simp only[List.map_cons,fX,Bool.and_eq_true];refine⟨?_,WW l⟩
  cases r<;>first|rfl|exact B7 _
theorem zhw{ds:List aL}{c:bX}{x:hg c}{r:List aL}(h:ds=⟨.st c,x⟩::r)(hc:(aX.st c).xr=true):qF (Aj ds)=true:=by
 subst h
 have:=WD (d:=⟨.st c,x⟩) hc
 exact this
theorem zhx(ld:Lp P G M C)(cS:gV P G M inl):gV P G M (Pv C inl):=fun f aI S e ag av hf ao=>by
 unfold Pv at ao⊢
 split at ao
 rotate_left
 ·exact cS _ _ S e ag av hf ao
 rename_i b id rest hc
 split at ao
 rotate_left
 ·exact cS _ _ S e ag av hf ao
 rename_i t l xs ai hx
 split at ao
 rotate_left
 ·exact cS _ _ S e ag av hf ao
 rename_i an
 simp only[WV,Bool.and_eq_true]at an
 obtain⟨⟨fm,ha,oq⟩,⟨yv,Ka⟩,WX,zhy⟩:=an
 have fm:=Nat.eq_of_beq_eq_true fm
 subst fm
 obtain⟨hm,Dz⟩:=WU hc
 obtain⟨g1,g2,g3,g4⟩:=ld b hm
 have zhz:af.lt S.k (.cA l)=true:=oq
 have H9:af.cW S.k (.cA l::xs)=true:=by simp only[af.cW,zhz,Ka,Bool.and_self]
 obtain⟨hn,_⟩:=nV ao
 have xt:=HW (c:=b.q8) H9
 have b4:cp S.k e (dP M e S.k (jX b.q8 (.cA l::xs) S.k)):=la (Nat.le_refl _)
 have bW:b.bZ=false→gE.ok M (dP M e S.k (jX b.q8 (.cA l::xs) S.k)) (.ca b.j (.cA l::xs)):=fun e4=>hn _ (by unfold HU;rw[show b.q8.bZ=b.bZ from rfl,e4];exact List.mem_singleton.2 rfl)
 obtain⟨ct,a2,a3,a4⟩:=Ai (G:=G) (e:=e) hx
 have fq:=kJ (M:=M) (e:=e) xt 0 (.ca b.j (.cA l::xs)) (by unfold jX;split<;>rfl)
 have eC:=Cs (G:=G) (e:=e) ha
 obtain⟨Ia,DE,bt,iY,tK,pP,DF⟩:=b
 simp only[lq.q8]at g1 g2 g3 g4 Dz xt b4 bW ct a2 a3 a4 fq ha WX zhy eC hx⊢
 subst Dz
 simp only[Nat.add_zero,b1.den]at fq
 simp only[gE.ok]at bW
 clear ao hn
 generalize fD bo.d M DE=m at g1 g2 g3 g4 fq bW
 obtain⟨zkn,zko,zkp,pQ⟩:=m
 simp only at g1 g2 g3 g4 fq bW
 subst g1 g2
 rw[zj b4 H9]at fq
 have xo:(hP e (.st iY::tK) (.cA l::xs)).map aL.r= .st iY::tK:=by simp only[hP,List.map_cons,a4]
 have DG:=Ah xo
 have gY:=g3 (cw _ (hP e (.st iY::tK) (.cA l::xs))) (by
  cases DF with
  |true=>rw[g4 rfl];trivial
  |false=>
   have:=bW rfl
   rw[zj b4 H9]at this
   exact this)
 simp only at gY
 rw[DG]at gY
 generalize aA:pQ (cw (.st iY::tK) (hP e (.st iY::tK) (.cA l::xs)))=y at gY fq
 have GM:=zhu (M:=M) (c:=⟨Ia,DE,.st iY::tK,.st iY::pP,DF⟩) H9 fq
 obtain⟨d0,mi,oG,p8,hdr⟩:=m7 (vw (rs:=.st iY::pP) (x:=y))
 obtain⟨ra,e5⟩:=d0
 simp only at p8
 subst p8
 simp only[oG]at gY GM
 rw[a3 yv]at ct a2
 have gY:=gY.arg (.cons (Sub.refl _) ct)
 have bf:aE (c6 G e S.h) id=some (.box bt (af.b0 G e l)):=by rw[e7,ai];rfl
 have lR:=eJ.zho (R:=fun r cs'=>r=H5 (⟨.st iY,e5⟩::mi)∧cs'=Aj (⟨.st iY,e5⟩::mi)) (σ:=c6 G e S.h) (n:=S.n) gY a2 (B7 _) (fun r cs' ⟨dp,di⟩=>⟨by
  rw[dp]
  have hsc:fX (mi.map aL.cC)=true:=WW mi
  unfold H5;simp only[List.tail_cons]
  split
  ·rename_i v az
   rw[az]at hsc;simpa[fX]using hsc
  ·exact hsc,by rw[di];exact zhw rfl WX⟩) bf eC
 have aS:=GM 0 ⟨.st iY,e5⟩ rfl
 rw[Nat.add_zero]at aS
 have hlen:q9 (.st iY::pP) S.k+1+pP.length≤S.k+(jX ⟨Ia,DE,.st iY::tK,.st iY::pP,DF⟩ (.cA l::xs) S.k).length:=by
  cases pP with
  |nil=>simp[q9,jX]
  |cons r q=>simp only[q9,jX,List.length_cons,Pb];omega
 have zhA:q9 (.st iY::pP) S.k<S.k+(jX ⟨Ia,DE,.st iY::tK,.st iY::pP,DF⟩ (.cA l::xs) S.k).length:=by omega
 refine lR.res fun r cc ⟨cs',ab,ae,aw⟩=>⟨_,_,by rw[nd];rfl,?_,?_,?_,?_,b4,Nat.le_add_right _ _⟩
 ·rw[ae]
  have:=zhv (G:=G) (k:=q9 (.st iY::pP) S.k+1) hdr fun j d aj=>by
   have:=GM (j+1) d (by simpa using aj)
   rw[←this]
   congr 1
   omega
  show _=af.den G _ (ay.at (H8 _ S id _) 0);unfold H8 ay.at
  simp only[bd.kl,if_true];exact this.symm
 ·rw[ab,aw]
  show _=c6 G _ (kG S.h id _);rw[u4,CG b4 ag.h];simp only[bQ.den,lq.q8];rw[uX,aS,c3];rfl
 ·refine⟨fun i x hi=>?_,Hj (o:=.dY bt (kc iY (q9 (.st iY::pP) S.k) 0 (ft iY))) (HX zhA) (w0 (Nat.le_add_right _ _) ag.h),qP (Nat.le_add_right _ _) ag.g⟩
  simp only[H8,bd.kl]at hi
  split at hi
  ·cases hi
   show(H7 pP (q9 (.st iY::pP) S.k+1)).lt (S.k+_)=true;unfold H7
   split
   ·have LI:q9 (.st iY::[_]) S.k+1<S.k+(jX ⟨Ia,DE,.st iY::tK,.st iY::[_],DF⟩ (.cA l::xs) S.k).length:=hlen
    exact Pd LI
   ·simp only[af.lt]
    exact Dx hlen
  ·simp[bd.get]at hi
 ·exact jU b4 ag.g hf
end
end Go.aK
namespace Go.aK
open Go
section
variable {P:Program} {G:aR} {f:FuncId} {args:List aC} {t:TypeId} {σ:Heap} {R:aC→Heap→Prop}
theorem eJ.zhB(h:eJ P G f args σ 1 R){Q:aC→List aC→Prop}(ib: ∀r cc,R r cc→∃v qb cs,aE cc 0=some (.box t qb)∧gu qb cs∧fX cs=true∧Sub r v∧iK v=true∧Q v cs):
 eJ P G f args σ 1 fun v cc=>∃cs,cc=[(0,.box t cs)]∧Q v cs:=by
 intro w β ro dJ ab ae aw aM bn
 refine Calls.mono (h w β ro dJ ab ae aw aM bn) fun e w' ⟨v,r,cc,cK,ro',bL,he,ah,dE,gf,cI⟩=>?_
 obtain⟨u,qb,cs,ai,fC,ar,hu,A2,aG⟩:=ib r cc ah
 have Ak: ∀{id:Nat} {o:ec},aE [(0,ec.box t cs)] id=some o→id=0∧o= .box t cs:=fun {id o} ai=>by
  simp only[aE]at ai
  split at ai
  ·rename_i hi;cases ai;exact⟨hi.symm,rfl⟩
  ·cases ai
 have own: ∀b,Own [(0,ec.box t cs)] cK b→Own cc cK b:=fun b ⟨id,o,tL,_,ag⟩=>by
  obtain⟨rfl,rfl⟩:=Ak tL;exact⟨0,_,ai,rfl,ag⟩
 refine⟨v,u,[(0,.box t cs)],cK,ro',bL,he,⟨cs,rfl,aG⟩,pw (hu _ _ _ _ _ _ dE) A2,⟨fun id o tL=>?_,fun id iw o cb b tL zhC _ _ _ _=>?_,fun b ag au=>gf.e8 b ag (own b au),gf.lt⟩,
  ⟨cI.os,cI.tape,cI.output,cI.size,cI.frame,cI.hz,cI.gA,fun b ag=>cI.fU b (own b ag),fun id bf o tL=>?_,fun id o tL=>?_,cI.le⟩⟩
 ·obtain⟨rfl,rfl⟩:=Ak tL
  have dS:=gf.dq 0 _ ai
  cases dS with
  |box _ _ b arr aD bg cM dU=>
   refine .box t cs b arr aD bg (by rw[cM,fC.at.1]) fun j x aj=>?_
   obtain⟨y,aA,ao⟩:=fC.at.2 j x aj;exact pw (ao _ _ _ _ _ _ (dU j y aA)) (pv ar aj)
 ·rw[(Ak tL).1,(Ak zhC).1]
 ·obtain⟨rfl,rfl⟩:=Ak tL
  exact cI.ea 0 bf _ ai
 ·obtain⟨rfl,rfl⟩:=Ak tL
  exact cI.new 0 _ ai
end
def vy(t:TypeId)(c:bX)(n:Nat):ay:=⟨.emp,[(0,.dY t (kc c 0 0 (ft c)))],1,n+1,[]⟩
def Pw(t:TypeId)(c:bX)(rs:List aX)(C:ay):Option (List af):=
 match dK C.h 0 with
 |some (.dY bh l)=>match(Nat.beq bh t&&iA (ft c) l)&&(Pg rs (C.at 0)&&vv (xu rs (C.at 0)))with
  |true=>match tJ C rs (xu rs (C.at 0))with
   |some xs=>some (.cA l::xs)
   |none=>none
  |false=>none
 |_=>none
def Px(t:TypeId)(c:bX)(rs:List aX)(C:ay):Bool:=(Pw t c rs C).isSome
def WY(t:TypeId)(c:bX)(rs:List aX)(C:ay)(e:Env):(ga (.st c::rs)).den:=
 match Pw t c rs C with
 |some l=>cw (.st c::rs) (hP e (.st c::rs) l)
 |none=>(ga (.st c::rs)).gm
def Ib(M:List bo)(T:aH)(t:TypeId)(c:bX)(rs:List aX)(e:Env):(ga (.st c::rs)).den:=T.lF M e (fun _ C aF=>WY t c rs C aF) (ga (.st c::rs)).gm
section
variable {P:Program} {G:aR} {M:List bo} {inl:Nat→List af→ay→aH}
theorem zhD{c:bX}{i k:Nat}(h:i<k):af.cW k (kc c i 0 (ft c))=true:=HX h
theorem zhE{rs:List aX}{S:ay}{e:Env}{xs:List af}(aJ:Pg rs (S.at 0)=true)(gQ:vv (xu rs (S.at 0))=true)(h:tJ S rs (xu rs (S.at 0))=some xs):
 Sub ((S.at 0).den G e) (match(hP e rs xs).map aL.cC with|[v]=>v|l=>.tuple l):=by
 obtain⟨ct,_,a3,a4⟩:=Ai (G:=G) (e:=e) h
 rw[a3 gQ]at ct
 match rs,ct,a4,aJ with
 |[r],ct,a4,aJ=>
  obtain⟨d,qI,az,ab,ae⟩:=m7 a4
  cases nO ae
  rw[az]at ct⊢;simp only[xu,af.b0,List.map_cons,List.map_nil]at ct⊢
  cases ct with
  |cons h _=>exact h
 |[],ct,a4,aJ=>
  cases az:S.at 0 with
  |tp m=>
   rw[az]at ct;rw[nO a4]at ct⊢;exact ct.tuple
  |_=>rw[az]at aJ;cases aJ
 |r::s::q,ct,a4,aJ=>
  cases az:S.at 0 with
  |tp m=>
   rw[az]at ct
   have av:=congrArg List.length a4
   simp only[List.length_map,List.length_cons]at av;generalize hP e (r::s::q) xs=ds at ct av⊢
   match ds,av with
   |d::d2::ds,_=>exact ct.tuple
  |_=>rw[az]at aJ;cases aJ
theorem WZ(cS:gV P G M inl){f:Nat}{t:TypeId}{c:bX}{ps rs:List aX}{pre:Option ((ga (.st c::ps)).den→Prop)}{pQ:(ga (.st c::ps)).den→(ga (.st c::rs)).den}(T:aH)(aJ:inl f (.eV 0 0::jE 1 ps) (vy t c ps.length)=T)
 (he:T.gG.all (Px t c rs)=true)(ao: ∀x,ql pre x→T.safe M (jl 0 (eK (.st c::ps) x)))(hm: ∀x,Ib M T t c rs (jl 0 (eK (.st c::ps) x))=pQ x):gC P G f t ⟨.st c::ps,.st c::rs,pre,pQ⟩:=fun x hx=>by
 subst aJ
 obtain⟨d0,mi,oG,p8,hdr⟩:=m7 (vw (rs:=.st c::ps) (x:=x))
 obtain⟨ra,e5⟩:=d0
 simp only at p8
 subst p8
 have av:mi.length=ps.length:=by have:=congrArg List.length hdr;rw[List.length_map]at this;exact this
 have ag:(vy t c ps.length).cO:=⟨fun i x hi=>by simp[vy,bd.get]at hi,by
  show(af.cW (ps.length+1) (kc c 0 0 (ft c))&&true)=true;rw[zhD (Nat.succ_pos _)]
  rfl,rfl⟩
 have h:=cS f (.eV 0 0::jE 1 ps) (vy t c ps.length) (jl 0 (eK (.st c::ps) x)) ag (by
  show(true&&af.cW (ps.length+1) (jE 1 ps))=true;rw[Dx (by omega)]
  rfl) (fun c hc=>by cases hc) (ao x hx)
 have fq: ∀j d,(⟨.st c,e5⟩::mi)[j]? =some d→Env.at (jl 0 (eK (.st c::ps) x)) j=d:=fun j d aj=>by
  have:=Pf (ds:=eK (.st c::ps) x) (i:=0) (j:=j) (d:=d) (by rw[oG];exact aj)
  rwa[Nat.zero_add]at this
 have hd:af.b0 G (jl 0 (eK (.st c::ps) x)) (jE 1 ps)=mi.map aL.cC:=Dw hdr fun j d aj=>by rw[Nat.add_comm];exact fq (j+1) d (by simpa using aj)
 have mO:c6 G (jl 0 (eK (.st c::ps) x)) (vy t c ps.length).h=[(0,.box t ((df c e5).map .ad))]:=by
  have aS:=fq 0 ⟨.st c,e5⟩ rfl
  simp only[vy,c6,bQ.den];rw[uX,aS,c3]
 have jc:af.b0 G (jl 0 (eK (.st c::ps) x)) (.eV 0 0::jE 1 ps)= .ptr 0 0::mi.map aL.cC:=by
  show aC.ptr 0 0::_=_;rw[hd]
 rw[jc,mO]at h
 show eJ P G f (.ptr 0 0::(eK (.st c::ps) x).tail.map aL.cC) [(0,.box t (Aj (eK (.st c::ps) x)))] 1 _
 rw[oG]
 refine eJ.zhB (Q:=fun v cs=>v=H5 (eK (.st c::rs) (pQ x))∧cs=Aj (eK (.st c::rs) (pQ x))) h fun r cc ah=>?_
 obtain⟨aO,aF,cy,rfl,rfl,_⟩:=ah
 have pJ:=WK he cy
 obtain⟨l,nK⟩:=Option.isSome_iff_exists.1 pJ
 have uR:=hm x
 unfold Ib at uR
 rw[oY,lB cy]at uR
 unfold WY at uR
 rw[nK]at uR
 simp only at uR
 unfold Pw at nK
 split at nK
 rotate_left
 ·cases nK
 rename_i bh F7 ai
 split at nK
 rotate_left
 ·cases nK
 rename_i hc
 simp only[Bool.and_eq_true]at hc
 obtain⟨⟨aB,bU⟩,b7,c2⟩:=hc
 have aB:=Nat.eq_of_beq_eq_true aB
 subst aB
 split at nK
 rotate_left
 ·cases nK
 rename_i xs pq
 cases nK
 obtain⟨_,_,_,a4⟩:=Ai (G:=G) (e:=aF) pq
 have xo:(hP aF (.st c::rs) (.cA F7::xs)).map aL.r= .st c::rs:=by simp only[hP,List.map_cons,a4]
 rw[←uR,Ah xo]
 exact⟨_,_,_,by rw[e7,ai];rfl,Cs bU,B7 _,zhE b7 c2 pq,by
  have ar:=HV (hP aF rs xs)
  split
  ·rename_i v az
   rw[az]at ar;simpa[fX]using ar
  ·exact ar,rfl,rfl⟩
theorem wI(cS:gV P G M inl){f:Nat}{t:TypeId}{c:bX}{ps rs:List aX}{pQ:(ga (.st c::ps)).den→(ga (.st c::rs)).den}(T:aH)(aJ:inl f (.eV 0 0::jE 1 ps) (vy t c ps.length)=T)
 (he:(T.clean&&T.gG.all (Px t c rs))=true)(hm: ∀x,Ib M T t c rs (jl 0 (eK (.st c::ps) x))=pQ x):gC P G f t ⟨.st c::ps,.st c::rs,none,pQ⟩:=by
 simp only[Bool.and_eq_true]at he
 exact WZ cS T aJ he.2 (fun _ _=>tk M he.1) hm
end
end Go.aK
namespace Go.aK
open Go
def sh:List (Nat × bQ)→Nat→List (Nat × bQ)
 |[],_=>[]
 |(k,x)::r,id=>match Nat.beq k id with
  |true=>sh r id
  |false=>(k,x)::sh r id
theorem Py{G:aR}{e:Env}{id:Nat}: ∀(h:List (Nat × bQ)),c6 G e (sh h id)=gS (c6 G e h) id
 |[]=>rfl
 |(k,x)::r=>by
  simp only[sh,c6,gS]
  by_cases an:k=id
  ·subst an
   simp only[Nat.beq_refl,if_true];exact Py r
  ·have:Nat.beq k id=false:=by cases aG:Nat.beq k id with|true=>exact absurd (Nat.eq_of_beq_eq_true aG) an|false=>rfl
   simp only[this,if_neg an,c6,Py r]
theorem Pz{k id:Nat}: ∀{h:List (Nat × bQ)},fu k h=true→fu k (sh h id)=true
 |[],h=>h
 |(j,x)::r,h=>by
  have aV:x.lt k=true∧fu k r=true:=by cases x<;>simpa only[fu,Bool.and_eq_true]using h
  simp only[sh]
  split
  ·exact Pz aV.2
  ·show(x.lt k&&fu k (sh r id))=true
   rw[aV.1,Pz aV.2];rfl
def PA(pa nB t5:Nat)(inl:Nat→List af→ay→aH)(f:Nat)(aI:List af)(S:ay):aH:=
 match Nat.beq f pa,aI with
 |true,[.eV id 0]=>match dK S.h id with
  |some (.dY t [x0,.aq r])=>match dK S.h r with
   |some (.rw bh .u8 x)=>match(Nat.beq t nB&&Nat.beq bh t5)&&(x.fr (.li .u8)&&x.lt S.k)with
    |true=>emit S.k [.f1 .cE x] [] (.dc .b8 ⟨bd.put .emp 0 (.bs .str S.k),sh S.h r,S.n,S.k+1,S.g⟩)
    |false=>inl f aI S
   |_=>inl f aI S
  |some (.dY t [x0,.cs (.slice none 0 0)])=>match Nat.beq t nB with
   |true=>.dc .b8 ⟨bd.put .emp 0 (.cs (.string ⟨#[]⟩)),S.h,S.n,S.k,S.g⟩
   |false=>inl f aI S
  |_=>inl f aI S
 |_,_=>inl f aI S
section
variable {P:Program} {G:aR} {M:List bo} {inl:Nat→List af→ay→aH} {pa nB t5:Nat}
def x7(P:Program)(G:aR)(pa nB t5:Nat):Prop:=
 (∀{σ:Heap} {n rid id:Nat} {x0:aC} {l:List Int},aE σ id=some (.box nB [x0,.aq rid])→aE σ rid=some (.row false t5 1 (l.map fun z=>[.v (.int .u8 z)]))→
  eJ P G pa [.ptr id 0] σ n fun r cc=>r= .ad (.v (.string (bytesOf l)))∧cc=gS σ rid)∧
 ∀{σ:Heap} {n id:Nat} {x0:aC},aE σ id=some (.box nB [x0,.ad (.v (.slice none 0 0))])→eJ P G pa [.ptr id 0] σ n fun r cc=>r= .ad (.v (.string ⟨#[]⟩))∧cc=σ
theorem zhF(eh:x7 P G pa nB t5)(cS:gV P G M inl):gV P G M (PA pa nB t5 inl):=fun f aI S e ag av hf ao=>by
 unfold PA at ao⊢
 split at ao
 rotate_left
 ·exact cS _ _ S e ag av hf ao
 rename_i id zhG
 have aW:=Nat.eq_of_beq_eq_true zhG
 subst aW
 split at ao
 ·rename_i t x0 r ai
  split at ao
  rotate_left
  ·exact cS _ _ S e ag av hf ao
  rename_i bh x JE
  split at ao
  rotate_left
  ·exact cS _ _ S e ag av hf ao
  rename_i an;simp only[Bool.and_eq_true]at an;obtain⟨⟨fm,ha⟩,oq,yv⟩:=an
  have fm:=Nat.eq_of_beq_eq_true fm
  have ha:=Nat.eq_of_beq_eq_true ha
  subst fm ha
  have xt:iC S.k [b1.f1 .cE x]=true:=by
   simp only[iC,b1.lt,yv,Bool.and_self]
  have b4:cp S.k e (dP M e S.k [b1.f1 .cE x]):=la (Nat.le_refl _)
  have fq:=kJ (M:=M) (e:=e) xt 0 _ rfl
  have zhH:x.aN (dP M e S.k [b1.f1 .cE x]) (.li .u8)=x.aN e (.li .u8):=fy b4 yv
  simp only[Nat.add_zero,b1.den,cB.den,cB.a,zhH]at fq
  have lR:=eh.1 (σ:=c6 G e S.h) (n:=S.n) (rid:=r) (id:=id) (x0:=x0.den G e) (l:=x.aN e (.li .u8)) (by rw[e7,ai];rfl) (by rw[e7,JE];rfl)
  refine lR.res fun zhI cc ⟨ab,ae⟩=>⟨⟨bd.put .emp 0 (.bs .str S.k),sh S.h r,S.n,S.k+1,S.g⟩,dP M e S.k [b1.f1 .cE x],by rw[nd];rfl,?_,?_,?_,jU b4 ag.g hf,b4,Nat.le_succ _⟩
  ·rw[ab]
   show _=af.den G _ (ay.at _ 0);unfold ay.at
   simp only[bd.kl,if_true,af.den,af.dyn,fq];rfl
  ·rw[ae]
   show _=c6 G _ (sh S.h r);rw[Py,CG b4 ag.h]
  ·refine⟨fun i y hi=>?_,Pz (w0 (Nat.le_succ _) ag.h),qP (Nat.le_succ _) ag.g⟩
   simp only[bd.kl]at hi
   split at hi
   ·cases hi
    exact l1 (Nat.lt_succ_self _)
   ·simp[bd.get]at hi
 ·rename_i t x0 ai
  split at ao
  rotate_left
  ·exact cS _ _ S e ag av hf ao
  rename_i fm
  have fm:=Nat.eq_of_beq_eq_true fm
  subst fm
  have lR:=eh.2 (σ:=c6 G e S.h) (n:=S.n) (id:=id) (x0:=x0.den G e) (by rw[e7,ai];rfl)
  refine lR.res fun zhI cc ⟨ab,ae⟩=>⟨⟨bd.put .emp 0 (.cs (.string ⟨#[]⟩)),S.h,S.n,S.k,S.g⟩,e,rfl,?_,?_,?_,hf,cp.refl _ _,Nat.le_refl _⟩
  ·rw[ab]
   show _=af.den G _ (ay.at _ 0);unfold ay.at
   simp only[bd.kl,if_true,af.den]
  ·rw[ae]
  ·refine⟨fun i y hi=>?_,ag.h,ag.g⟩
   simp only[bd.kl]at hi
   split at hi
   ·cases hi
    rfl
   ·simp[bd.get]at hi
 ·exact cS _ _ S e ag av hf ao
end
end Go.aK
namespace Go.aK
open Go
def pR(n:Nat)(b:Bool)(f:cf→Bool)(x:cf):Bool:=
 match x.b6 n with
 |true=>b
 |false=>f x
def tM(n:Nat)(b:Bool)(f:cf→Bool)(x:cf):Bool:=
 match x.dy n with
 |true=>b
 |false=>f x
def aH.bZ:aH→(cf→Bool)→Bool
 | .dc x _,f=>f x
 | .lt _ _ t,f=>t.bZ f
 | .fF _ _,_=>false
 | .it _ a b,f=>a.bZ f&&b.bZ f
 | .eo n a _ k,f=>a.bZ (pR n (k.bZ f) f)
 | .e6 m xid _ _ _ a k,f=>k.bZ f&&a.bZ (pR m true (tM xid true f))
 | .fz _ _ _ _ _,_=>false
 | .bad _,_=>false
def aH.jm(M:List bo):aH→Env→(cf→Bool)→(cf→ay→Env→Prop)→Prop
 | .dc x S,e,_,Q=>Q x S e
 | .lt i x t,e,f,Q=>t.jm M (bd.put e i (x.den M e)) f Q
 | .fF n t,e,f,Q=>match t.bZ f with
  |true=>n.ok M e
  |false=>n.ok M e∧t.jm M e f Q
 | .it g a b,e,f,Q=>match a.bZ f,b.bZ f with
  |true,true=>True
  |true,false=>g.aN e .bool=false→b.jm M e f Q
  |false,true=>g.aN e .bool=true→a.jm M e f Q
  |false,false=>(g.aN e .bool=true→a.jm M e f Q)∧(g.aN e .bool=false→b.jm M e f Q)
 | .eo n a ps k,e,f,Q=>a.jm M e (pR n (k.bZ f) f) fun x S aF=>bif x.b6 n then k.jm M (gF e (fun r p=>⟨r,(p.dO S).get aF r⟩) ps) f Q else Q x S aF
 | .e6 m xid dZ cg ca a k,e,f,Q=>match k.bZ f with
  |true=>∃I:Nat→b9 ca→Prop,I 0 (cw _ (eu e ca))∧∀(i:Nat) (v:b9 ca),i<(cN (dZ.den M e)).toNat→I i v→
   a.jm M (bw (bd.put e cg ⟨.int .i64,(i:Int)⟩) ca v) (pR m false (tM xid true f)) fun x S aF=>bif x.b6 m then I (i+1) (cw _ (gp S aF ca))else bif x.dy xid then True else Q x S aF
  |false=>∃I:Nat→b9 ca→Prop,I 0 (cw _ (eu e ca))∧(∀(i:Nat) (v:b9 ca),i<(cN (dZ.den M e)).toNat→I i v→
   a.jm M (bw (bd.put e cg ⟨.int .i64,(i:Int)⟩) ca v) (pR m false (tM xid false f)) fun x S aF=>bif x.b6 m then I (i+1) (cw _ (gp S aF ca))else bif x.dy xid then k.jm M (bw e ca (cw _ (gp S aF ca))) f Q else Q x S aF)∧
   ∀v,I (cN (dZ.den M e)).toNat v→k.jm M (bw e ca v) f Q
 | .fz m xid ca a k,e,f,Q=>∃(I:b9 ca→Prop) (kP:b9 ca→Nat),I (cw _ (eu e ca))∧kP (cw _ (eu e ca))<dt∧∀(v:b9 ca),I v→
  a.jm M (bw e ca v) (pR m false (tM xid (k.bZ f) f)) fun x S aF=>bif x.b6 m then I (cw _ (gp S aF ca))∧kP (cw _ (gp S aF ca))<kP v else bif x.dy xid then k.jm M (bw e ca (cw _ (gp S aF ca))) f Q else Q x S aF
 | .bad _,_,_,_=>False
section
variable {M:List bo}
def lG(f:cf→Bool)(Q:cf→ay→Env→Prop):Prop:=∀x,f x=true→∀S e,Q x S e
theorem lG.eo{f:cf→Bool}{Q R:cf→ay→Env→Prop}{n:Nat}{b:Bool}(h:lG f R)(ag:b=true→∀x S e,x.b6 n=true→Q x S e)(ah: ∀x S e,x.b6 n=false→R x S e→Q x S e):lG (pR n b f) Q:=fun x hx S e=>by
 unfold pR at hx
 cases aj:x.b6 n with
 |true=>rw[aj]at hx;exact ag hx x S e aj
 |false=>rw[aj]at hx;exact ah x S e aj (h x hx S e)
theorem lG.nu{f:cf→Bool}{Q R:cf→ay→Env→Prop}{n:Nat}{b:Bool}(h:lG f R)(ag:b=true→∀x S e,x.dy n=true→Q x S e)(ah: ∀x S e,x.dy n=false→R x S e→Q x S e):lG (tM n b f) Q:=fun x hx S e=>by
 unfold tM at hx
 cases aj:x.dy n with
 |true=>rw[aj]at hx;exact ag hx x S e aj
 |false=>rw[aj]at hx;exact ah x S e aj (h x hx S e)
theorem lH: ∀(t:aH) {e:Env} {f:cf→Bool} {Q:cf→ay→Env→Prop},lG f Q→t.bZ f=true→t.wp M e Q
 | .dc x S,e,_,_,h,c=>h x c S e
 | .lt _ _ t,_,_,_,h,c=>lH t h c
 | .fF _ _,_,_,_,_,c=>by cases c
 | .it _ a b,_,_,_,h,c=>by
  simp only[aH.bZ,Bool.and_eq_true]at c;exact⟨fun _=>lH a h c.1,fun _=>lH b h c.2⟩
 | .eo n a ps k,e,f,Q,h,c=>lH a (lG.eo h (fun ag x S aF aj=>by rw[aj];exact lH k h ag) (fun x S aF aj aG=>by rw[aj];exact aG)) c
 | .e6 m xid dZ cg ca a k,e,f,Q,h,c=>by
  simp only[aH.bZ,Bool.and_eq_true]at c;refine⟨fun _ _=>True,trivial,fun i v _ _=>lH a (lG.eo (lG.nu h (Q:=fun x S aF=>bif x.dy xid then k.wp M (bw e ca (cw _ (gp S aF ca))) Q else Q x S aF) (fun _ x S aF aj=>by rw[aj];exact lH k h c.1) (fun x S aF aj aG=>by rw[aj];exact aG)) (fun _ x S aF aj=>by rw[aj];trivial) (fun x S aF aj aG=>by rw[aj];exact aG)) c.2,fun v _=>lH k h c.1⟩
 | .fz _ _ _ _ _,_,_,_,_,c=>by cases c
 | .bad _,_,_,_,_,c=>by cases c
theorem lI: ∀(t:aH) {e:Env} {f:cf→Bool} {Q R:cf→ay→Env→Prop},(∀x S aF,Q x S aF→R x S aF)→t.jm M e f Q→t.jm M e f R
 | .dc _ _,_,_,_,_,h,q=>h _ _ _ q
 | .lt _ _ t,_,_,_,_,h,q=>lI t h q
 | .fF n t,e,f,Q,R,h,q=>by
  simp only[aH.jm]at q⊢
  cases hc:t.bZ f with
  |true=>rw[hc]at q;exact q
  |false=>rw[hc]at q;exact⟨q.1,lI t h q.2⟩
 | .it g a b,e,f,Q,R,h,q=>by
  simp only[aH.jm]at q⊢
  cases a6:a.bZ f<;>cases ag:b.bZ f<;>rw[a6,ag]at q<;>simp only at q⊢
  ·exact⟨fun ai=>lI a h (q.1 ai),fun ai=>lI b h (q.2 ai)⟩
  ·exact fun ai=>lI a h (q ai)
  ·exact fun ai=>lI b h (q ai)
 | .eo n a ps k,e,f,Q,R,h,q=>lI a (fun x S aF r=>by
  cases hx:x.b6 n with
  |true=>rw[hx]at r;exact lI k h r
  |false=>rw[hx]at r;exact h _ _ _ r) q
 | .e6 m xid dZ cg ca a k,e,f,Q,R,h,q=>by
  simp only[aH.jm]at q⊢
  cases hc:k.bZ f with
  |true=>
   rw[hc]at q;obtain⟨I,ab,ae⟩:=q;refine⟨I,ab,fun i v hi az=>lI a (fun x S aF r=>?_) (ae i v hi az)⟩
   cases hx:x.b6 m with
   |true=>rw[hx]at r;exact r
   |false=>
    rw[hx]at r
    cases aA:x.dy xid with
    |true=>trivial
    |false=>rw[aA]at r;exact h _ _ _ r
  |false=>
   rw[hc]at q;obtain⟨I,ab,ae,aw⟩:=q;refine⟨I,ab,fun i v hi az=>lI a (fun x S aF r=>?_) (ae i v hi az),fun v az=>lI k h (aw v az)⟩
   cases hx:x.b6 m with
   |true=>rw[hx]at r;exact r
   |false=>
    rw[hx]at r
    cases aA:x.dy xid with
    |true=>rw[aA]at r;exact lI k h r
    |false=>rw[aA]at r;exact h _ _ _ r
 | .fz m xid ca a k,e,f,Q,R,h,q=>by
  obtain⟨I,kP,ab,ae,aw⟩:=q;refine⟨I,kP,ab,ae,fun v az=>lI a (fun x S aF r=>?_) (aw v az)⟩
  cases hx:x.b6 m with
  |true=>rw[hx]at r;exact r
  |false=>
   rw[hx]at r
   cases aA:x.dy xid with
   |true=>rw[aA]at r;exact lI k h r
   |false=>rw[aA]at r;exact h _ _ _ r
 | .bad _,_,_,_,_,_,q=>q.elim
theorem nj: ∀(t:aH) {e:Env} {f:cf→Bool} {Q:cf→ay→Env→Prop},lG f Q→t.jm M e f Q→t.wp M e Q
 | .dc _ _,_,_,_,_,q=>q
 | .lt _ _ t,_,_,_,h,q=>nj t h q
 | .fF n t,e,f,Q,h,q=>by
  simp only[aH.jm]at q
  cases hc:t.bZ f with
  |true=>rw[hc]at q;exact⟨q,lH t h hc⟩
  |false=>rw[hc]at q;exact⟨q.1,nj t h q.2⟩
 | .it g a b,e,f,Q,h,q=>by
  simp only[aH.jm]at q
  cases a6:a.bZ f<;>cases ag:b.bZ f<;>rw[a6,ag]at q<;>simp only at q
  ·exact⟨fun ai=>nj a h (q.1 ai),fun ai=>nj b h (q.2 ai)⟩
  ·exact⟨fun ai=>nj a h (q ai),fun _=>lH b h ag⟩
  ·exact⟨fun _=>lH a h a6,fun ai=>nj b h (q ai)⟩
  ·exact⟨fun _=>lH a h a6,fun _=>lH b h ag⟩
 | .eo n a ps k,e,f,Q,h,q=>by
  refine nj a (f:=pR n (k.bZ f) f) (lG.eo h (fun ag x S aF aj=>?_) (fun x S aF aj aG=>by rw[aj];exact aG)) ?_
  ·rw[aj];exact lH k h ag
  ·exact lI a (fun x S aF r=>by
    cases hx:x.b6 n with
    |true=>rw[hx]at r;exact nj k h r
    |false=>rw[hx]at r;exact r) q
 | .e6 m xid dZ cg ca a k,e,f,Q,h,q=>by
  simp only[aH.jm]at q
  cases hc:k.bZ f with
  |true=>
   rw[hc]at q;obtain⟨I,ab,ae⟩:=q;refine⟨I,ab,fun i v hi az=>?_,fun v _=>lH k h hc⟩
   refine nj a (f:=pR m false (tM xid true f)) (lG.eo (lG.nu h (Q:=fun x S aF=>bif x.dy xid then k.wp M (bw e ca (cw _ (gp S aF ca))) Q else Q x S aF) (fun _ x S aF aj=>by rw[aj];exact lH k h hc) (fun x S aF aj aG=>by rw[aj];exact aG)) (fun ag=>by cases ag) (fun x S aF aj aG=>by rw[aj];exact aG)) ?_
   refine lI a (fun x S aF r=>?_) (ae i v hi az)
   cases hx:x.b6 m with
   |true=>rw[hx]at r;exact r
   |false=>
    rw[hx]at r
    cases aA:x.dy xid with
    |true=>exact lH k h hc
    |false=>rw[aA]at r;exact r
  |false=>
   rw[hc]at q;obtain⟨I,ab,ae,aw⟩:=q;refine⟨I,ab,fun i v hi az=>?_,fun v az=>nj k h (aw v az)⟩
   refine nj a (f:=pR m false (tM xid false f)) (lG.eo (lG.nu h (Q:=fun x S aF=>bif x.dy xid then k.wp M (bw e ca (cw _ (gp S aF ca))) Q else Q x S aF) (fun ag=>by cases ag) (fun x S aF aj aG=>by rw[aj];exact aG)) (fun ag=>by cases ag) (fun x S aF aj aG=>by rw[aj];exact aG)) ?_
   refine lI a (fun x S aF r=>?_) (ae i v hi az)
   cases hx:x.b6 m with
   |true=>rw[hx]at r;exact r
   |false=>
    rw[hx]at r
    cases aA:x.dy xid with
    |true=>rw[aA]at r;exact nj k h r
    |false=>rw[aA]at r;exact r
 | .fz m xid ca a k,e,f,Q,h,q=>by
  obtain⟨I,kP,ab,ae,aw⟩:=q;refine⟨I,kP,ab,ae,fun v az=>?_⟩
  refine nj a (f:=pR m false (tM xid (k.bZ f) f)) (lG.eo (lG.nu h (Q:=fun x S aF=>bif x.dy xid then k.wp M (bw e ca (cw _ (gp S aF ca))) Q else Q x S aF) (fun ag x S aF aj=>by rw[aj];exact lH k h ag) (fun x S aF aj aG=>by rw[aj];exact aG)) (fun ag=>by cases ag) (fun x S aF aj aG=>by rw[aj];exact aG)) ?_
  refine lI a (fun x S aF r=>?_) (aw v az)
  cases hx:x.b6 m with
  |true=>rw[hx]at r;exact r
  |false=>
   rw[hx]at r
   cases aA:x.dy xid with
   |true=>rw[aA]at r;exact nj k h r
   |false=>rw[aA]at r;exact r
 | .bad _,_,_,_,_,q=>q.elim
end
def PB(M:List bo)(t:aH)(e:Env):Prop:=t.jm M e (fun _=>true) fun _ _ _=>True
theorem W0{M:List bo}{t:aH}{e:Env}(h:PB M t e):t.wp M e fun _ _ _=>True:=nj t (fun _ _ _ _=>trivial) h
section
variable {P:Program} {G:aR} {M:List bo} {inl:Nat→List af→ay→aH}
theorem gD(cS:gV P G M inl){f:Nat}{m:bo}(t:aH)(aJ:inl f (jE 0 m.ps) (xv m.ps.length)=t)(he:t.gG.all (DA m.rs)=true)
 (ao: ∀x,PB M t (jl 0 (eK m.ps x))=ql m.pre x)(hm: ∀x,Pk M t m.rs (jl 0 (eK m.ps x))=m.m x):eF P G f m:=
 zg8 cS t aJ he (fun x hx=>W0 (by rw[ao x];exact hx)) hm
theorem jx(cS:gV P G M inl){f:Nat}{t:TypeId}{c:bX}{ps rs:List aX}{pre:Option ((ga (.st c::ps)).den→Prop)}{pQ:(ga (.st c::ps)).den→(ga (.st c::rs)).den}(T:aH)(aJ:inl f (.eV 0 0::jE 1 ps) (vy t c ps.length)=T)
 (he:T.gG.all (Px t c rs)=true)(ao: ∀x,PB M T (jl 0 (eK (.st c::ps) x))=ql pre x)(hm: ∀x,Ib M T t c rs (jl 0 (eK (.st c::ps) x))=pQ x):gC P G f t ⟨.st c::ps,.st c::rs,pre,pQ⟩:=
 WZ cS T aJ he (fun x hx=>(l8 T (W0 (by rw[ao x];exact hx))).1) hm
end
end Go.aK
