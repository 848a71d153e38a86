/- Conditions: none. -/
import Derived.Test.YtddeffoppnlafaaGreatJTEc
open Bool renaming and_eq_true->zZr,and_self->zVg
open List renaming length->zZ5,length_cons->zVi,length_map->zXe,map_cons->zXq
open Nat renaming add_zero->zYh,beq->zZu,eq_of_beq_eq_true->zWi,le_add_right->zY8,le_refl->zZv,le_succ->zVh,one_pos->zV5,zero_add->zZ0
namespace Go.aH
open Go
section
variable {P:Program} {G:aV} {f:FuncId} {args:List aC} {σ:bK} {n:Nat}
theorem fa.zmd{t:TypeId}{cs rX:List aC}{R:aC->List aC->Prop}(h:fa P G f (.ptr 0 0::args) [(0,.box t cs)] 1 λr cu=>∃cs',cu=[(0,.box t cs')]/\R r cs')(ar:gI args=true)(fH:gI cs=true)
 (iZ: ∀r cs',R r cs'->jF r=true/\sn cs'=true){id:Nat}(bq:aF σ id=some (.box t rX))(gb:h1 rX cs):
 fa P G f (.ptr id 0::args) σ n λr cu=>∃cs',cu=eX σ id (.box t cs')/\R r cs':=by
 intro w β ro dY aa ae aw aN bx;have eg:=aw.dB id _ bq
 cases eg with
 |box _ _ b arr aE bc cJ ek=>
  have Ld: ∀k,Own [(0,ey.box t cs)] (λ_=>β id) k->cF (β id)=some k:=λk ⟨i,o,ai,_,af⟩=>af
  have zP:hA w ro [(0,.box t cs)] (λ_=>β id) 1:=by
   refine⟨λi o ai=>?_,λi Bx o ct k ai ee _ _ _ _=>?_,λk an av=>aw.fy k an ⟨id,_,bq,rfl,Ld k av⟩,aw.lt⟩
   ·simp only[aF]at ai
    split at ai
    ·rename_i hi
     subst hi;cases ai;refine .box t cs b arr aE bc (by rw[cJ,gb.at.1]) λj x aj=>?_
     obtain⟨y,aA,ao⟩:=gb.at.2 j x aj;exact ra (ao _ _ _ _ _ _ (ek j y aA)) (q9 fH aj)
    ·cases ai
   ·simp only[aF]at ai ee
    split at ai
    ·split at ee
     ·rename_i cw a2;rw[<-cw,<-a2]
     ·cases ee
    ·cases ai
  refine Calls.mono (h w (λ_=>β id) ro dY aa (λi x hx=>?_) zP aN (λi o ai=>?_)) λe w' ⟨v,r,gW,cS,ro',b0,he,⟨cs',NS,ah⟩,dO,gk,cP⟩=>?_
  ·cases i with
   |zero=>
    simp only[List.getElem?_cons_zero,Option.some.injEq]at hx;subst hx;have:=ae 0 _ rfl;generalize dY.getD 0 undef=aT at this⊢
    cases this with
    |ptr _ _ _ au lx=>
     refine .ptr 0 0 aT zV5 λbr cs' ai=>?_;exact lx t rX bq
   |succ i=>exact ra (ae (i+1) x (by simpa using hx)) (q9 ar (by simpa using hx))
  ·simp only[aF]at ai
   split at ai
   ·rename_i hi;rw[<-hi];exact zV5
   ·cases ai
  ·subst NS
   obtain⟨zme,zmf⟩:=iZ r cs' ah;have hR:dy ⟨w,ro,σ,β,n,[]⟩ G ⟨[],σ,n,n⟩ ⟨#[],[]⟩ w β ro:=⟨rfl,rfl,by simp,aw,aN,⟨rfl,rfl,rfl,zZv _,λ_ _ _=>rfl,λ_ h=>.inl h,λ_ h=>h,λ_ h=>.inl h,λid _ o ai=>⟨by simp[ai],rfl⟩,bx,zZv _⟩,zZv _⟩
   have zaX:cS 0=β id:=(cP.er 0 zV5 (.box t cs') (by simp[aF])).2
   have hw:=hR.write (w':=w') id _ (.box t cs') bq rfl rfl (.inl ⟨t,rX,cs',rfl,rfl⟩) cP.os cP.tape cP.output cP.size (λk an b6=>cP.frame k an λav=>b6 (Ld k av)) (by
    have zmg:=gk.dB 0 (.box t cs') (by simp[aF])
    cases zmg with
    |box _ _ hL zmh g1 g2 g3 g4=>
     exact .box t cs' hL zmh (by rw[<-zaX];exact g1) g2 g3 λj x aj=>Xb (g4 j x aj) (Jj zmf aj))
   have EF: ∀k,Own (eX σ id (.box t cs')) β k->Own σ β k:=λk ⟨i,o,ai,au,af⟩=>by
    rw[wG]at ai
    split at ai
    ·rename_i hi
     subst hi;exact⟨_,_,bq,rfl,af⟩
    ·exact⟨i,o,ai,au,af⟩
   refine⟨v,r,eX σ id (.box t cs'),β,ro',n,he,⟨cs',rfl,ah⟩,ra dO zme,⟨λi o ai=>?_,hw.heap.inj,λk an av=>?_,gk.lt⟩,{hw.trans with h9:=λk an=>?_,hp:=cP.hp}⟩
   ·exact(hw.heap.dB i o ai).keep (λ_ _=>rfl) cP.hp (zZv _) (zZv _) rfl (λ_ _ _=>rfl) (λ_ _ _ h=>⟨rfl,_,_,h⟩) (λ_ _ _ _ _ h=>⟨rfl,_,_,_,h⟩) λ_ _ h=>⟨rfl,_,h⟩
   ·have av:=EF k av
    rcases cP.h9 k an with q|q|q
    ·exact aw.fy k q av
    ·exact gk.fy k an ⟨0,.box t cs',by simp[aF],rfl,by rw[zaX];exact Ld k q⟩
    ·obtain⟨i,o,ai,au,af⟩:=av
     have:=(aw.dB i o ai).jB au af;have q:w.heap.size<=k:=q;omega
   ·rcases cP.h9 k an with q|q|q
    ·exact .inl q
    ·exact .inr (.inl ⟨id,_,bq,rfl,Ld k q⟩)
    ·exact .inr (.inr q)
end
def CQ(ds:List aK):List aC:=
 match ds with
 |⟨.st c,x⟩::_=>(dr c x).map .ad|_=>[]
def Le(ds:List aK):aC:=
 match ds.tail.map aK.cI with
 |[v]=>v|l=>.tuple l
def hz(P:Program)(G:aV)(f:Nat)(t:TypeId)(m:bs):Prop:=
 ∀x:(gi m.ps).den,p3 m.pre x->fa P G f (.ptr 0 0::(eH m.ps x).tail.map aK.cI) [(0,.box t (CQ (eH m.ps x)))] 1 λv cu=>∃cs',cu=[(0,.box t cs')]/\v=Le (eH m.rs (m.m x))/\cs'=CQ (eH m.rs (m.m x))
structure mM where
 f:Nat
 j:Nat
 t:TypeId
 c:bZ
 ps:List a6
 rs:List a6
 bX:Bool
def mM.sV(b:mM):kD:=⟨b.f,b.j,.st b.c::b.ps,.st b.c::b.rs,b.bX⟩
def zmi(P:Program)(G:aV)(M:List bs)(b:mM):Prop:=
 (fQ bs.d M b.j).ps= .st b.c::b.ps/\(fQ bs.d M b.j).rs= .st b.c::b.rs/\hz P G b.f b.t (fQ bs.d M b.j)/\(b.bX=true->(fQ bs.d M b.j).pre=none)
def NF(P:Program)(G:aV)(M:List bs)(C:List mM):Prop:=∀b∈C,zmi P G M b
def Lf(f:Nat):List mM->Option mM
 |[]=>none|c::r=>match zZu c.f f with
  |true=>some c|false=>Lf f r
theorem zaY{f:Nat}{c:mM}: ∀{C:List mM},Lf f C=some c->c∈C/\c.f=f
 |[],h=>by cases h
 |d::r,h=>by
  unfold Lf at h
  split at h
  ·rename_i hd;cases h;exact⟨List.mem_cons_self ..,zWi hd⟩
  ·obtain⟨aa,ae⟩:=zaY h;exact⟨List.mem_cons_of_mem _ aa,ae⟩
def sW(rs:List a6)(k:Nat):Nat:=
 match rs with
 |[_]=>k|_=>k+1
def Lg(rs:List a6)(k:Nat):ag:=
 match rs with
 |[r]=>Gg r k|rs=>.tp (jM k rs)
def Lh(b:mM)(S:ax)(id:Nat)(xs:List ag):ax:=
 ⟨bn.put .emp 0 (Lg b.rs (sW b.sV.rs S.k+1)),lL S.h id (.dQ b.t (k9 b.c (sW b.sV.rs S.k) 0 (fR b.c))),S.n,S.k+(kP b.sV xs S.k).length,S.g⟩
def zaZ(b:mM)(S:ax)(t:TypeId)(l rest xs:List ag):Bool:=
 (zZu t b.t&&(js (fR b.c) l&&ag.c6 S.k l))&&((xO rest&&ag.c6 S.k xs)&&((a6.st b.c).zW&&b.rs.all a6.kJ))
def R0(C:List mM)(inl:Nat->List ag->ax->aG)(f:Nat)(aI:List ag)(S:ax):aG:=
 match Lf f C,aI with
 |some b,.fi id 0::rest=>match dG S.h id,vT S b.ps rest with
  |some (.dQ t l),some xs=>match zaZ b S t l rest xs with
   |true=>emit S.k (kP b.sV (.cH l::xs) S.k) (K1 b.sV (.cH l::xs)) (.db .cp (Lh b S id (.cH l::xs)))|false=>inl f aI S
  |_,_=>inl f aI S
 |_,_=>inl f aI S
section
variable {P:Program} {G:aV} {M:List bs} {C:List mM} {inl:Nat->List ag->ax->aG}
theorem zmj{c:kD}{xs:List ag}{k:Nat}{e:Env}{y:(gi c.rs).den}(au:ag.c6 k xs=true)(aP:Env.at (ed M e k (kP c xs k)) k=⟨gi c.rs,y⟩):
 ∀(j:Nat) (d:aK),(eH c.rs y)[j]? =some d->Env.at (ed M e k (kP c xs k)) (sW c.rs k+j)=d:=by
 have fM:=lO (M:=M) (e:=e) (K3 (c:=c) au);obtain⟨f,K5,ps,rs,bX⟩:=c;simp only at y aP fM⊢
 match rs,y,aP,fM with
 |[],y,aP,fM=>intro j d aj;cases aj
 |[r],y,aP,fM=>
  intro j d aj
  cases j with
  |zero=>
   have aj:(⟨r,y⟩:aK)=d:=by simpa[eH]using aj
   rw[<-aj];exact aP
  |succ j=>simp[eH]at aj
 |r::s::l,y,aP,fM=>
  intro j d aj
  have hlen:j<(r::s::l).length:=by
   have aa:=(List.getElem?_eq_some_iff.1 aj).1;have:=congrArg zZ5 (xP (rs:=r::s::l) (x:=y));rw[zXe]at this;omega
  have aa:=fM (j+1) (.vw (r::s::l) k j) (by
   show(cf.ca K5 xs::rz (r::s::l) k 0 (r::s::l))[j+1]? =_
   rw[List.getElem?_cons_succ,Rp,if_pos hlen,zZ0])
  show Env.at _ (k+1+j)=d;rw[show k+1+j=k+(j+1)by omega,aa]
  simp only[cf.den,aP,df];exact Rt aj
theorem zmk{e:Env}{rs:List a6}{k:Nat}{ds:List aK}(ah:ds.map aK.r=rs)(h: ∀j d,ds[j]? =some d->Env.at e (k+j)=d):(Lg rs k).den G e=(match ds.map aK.cI with|[v]=>v|l=>.tuple l):=by
 match rs,ds,ah,h with
 |[],ds,ah,h=>cases py ah;rfl
 |[r],ds,ah,h=>
  obtain⟨d,sr,rfl,aa,ae⟩:=oP ah
  cases py ae
  subst aa;exact Rr (x:=d.v) (h 0 d rfl)
 |r::s::l,ds,ah,h=>
  have:=Gh (G:=G) (i:=k) ah h;obtain⟨d,sr,rfl,aa,ae⟩:=oP ah;obtain⟨d2,zpb,rfl,aw,aN⟩:=oP ae;show aC.tuple (ag.cc G e (jM k (r::s::l)))=_;rw[this];rfl
theorem za0: ∀l:List aK,gI (l.map aK.cI)=true
 |[]=>rfl|⟨r,x⟩::l=>by
  simp only[zXq,gI,zZr];refine⟨?_,za0 l⟩
  cases r<;>first|rfl|exact EO _
theorem zml{ds:List aK}{c:bZ}{x:hY c}{r:List aK}(h:ds=⟨.st c,x⟩::r)(hc:(a6.st c).zW=true):sn (CQ ds)=true:=by
 subst h;have:=zat (d:=⟨.st c,x⟩) hc;exact this
theorem zma(my:NF P G M C)(cO:gK P G M inl):gK P G M (R0 C inl):=λf aI S e af au hf ao=>by
 unfold R0 at ao⊢
 split at ao
 rotate_left
 ·exact cO _ _ S e af au hf ao
 rename_i b id rest hc
 split at ao
 rotate_left
 ·exact cO _ _ S e af au hf ao
 rename_i t l xs ai hx
 split at ao
 rotate_left
 ·exact cO _ _ S e af au hf ao
 rename_i an;simp only[zaZ,zZr]at an;obtain⟨⟨eG,eO,mL⟩,⟨Bg,Nx⟩,za1,zmm⟩:=an;have eG:=zWi eG;subst eG;obtain⟨hm,Gk⟩:=zaY hc;obtain⟨g1,g2,g3,g4⟩:=my b hm;have zmn:ag.lt S.k (.cH l)=true:=mL;have Li:ag.c6 S.k (.cH l::xs)=true:=by simp only[ag.c6,zmn,Nx,zVg]
 obtain⟨hn,_⟩:=pF ao;have zY:=K3 (c:=b.sV) Li;have ck:cy S.k e (ed M e S.k (kP b.sV (.cH l::xs) S.k)):=mv (zZv _);have b6:b.bX=false->hj.ok M (ed M e S.k (kP b.sV (.cH l::xs) S.k)) (.ca b.j (.cH l::xs)):=λfv=>hn _ (by unfold K1;rw[show b.sV.bX=b.bX from rfl,fv];exact List.mem_singleton.2 rfl)
 obtain⟨cw,a2,a3,a4⟩:=CM (G:=G) (e:=e) hx;have fM:=lO (M:=M) (e:=e) zY 0 (.ca b.j (.cH l::xs)) (by unfold kP;split<;>rfl)
 have e1:=Fa (G:=G) (e:=e) eO;obtain⟨Lj,Gu,bt,jQ,vW,rA,Gv⟩:=b;simp only[mM.sV]at g1 g2 g3 g4 Gk zY ck b6 cw a2 a3 a4 fM eO za1 zmm e1 hx⊢;subst Gk;simp only[zYh,cf.den]at fM;simp only[hj.ok]at b6;clear ao hn;generalize fQ bs.d M Gu=m at g1 g2 g3 g4 fM b6;obtain⟨zpc,zpd,zpe,lU⟩:=m;simp only at g1 g2 g3 g4 fM b6;subst g1 g2;rw[BX ck Li]at fM;have zT:(iA e (.st jQ::vW) (.cH l::xs)).map aK.r= .st jQ::vW:=by simp only[iA,zXq,a4]
 have Gt:=zX zT
 have hP:=g3 (cr _ (iA e (.st jQ::vW) (.cH l::xs))) (by
  cases Gv with
  |true=>rw[g4 rfl];trivial|false=>
   have:=b6 rfl;rw[BX ck Li]at this
   exact this)
 simp only at hP;rw[Gt]at hP;generalize aA:lU (cr (.st jQ::vW) (iA e (.st jQ::vW) (.cH l::xs)))=y at hP fM;have JX:=zmj (M:=M) (c:=⟨Lj,Gu,.st jQ::vW,.st jQ::rA,Gv⟩) Li fM;obtain⟨d0,nK,qh,rU,hdr⟩:=oP (xP (rs:=.st jQ::rA) (x:=y));obtain⟨mz,ft⟩:=d0;simp only at rU;subst rU;simp only[qh]at hP JX;rw[a3 Bg]at cw a2;have hP:=hP.arg (.cons (Sub.refl _) cw);have bq:aF (di G e S.h) id=some (.box bt (ag.cc G e l)):=by rw[fx,ai];rfl
 have m9:=fa.zmd (R:=λr cs'=>r=Le (⟨.st jQ,ft⟩::nK)/\cs'=CQ (⟨.st jQ,ft⟩::nK)) (σ:=di G e S.h) (n:=S.n) hP a2 (EO _) (λr cs' ⟨dp,dP⟩=>⟨by
  rw[dp];have hsc:gI (nK.map aK.cI)=true:=za0 nK;unfold Le;simp only[List.tail_cons]
  split
  ·rename_i v az
   rw[az]at hsc;simpa[gI]using hsc
  ·exact hsc,by rw[dP];exact zml rfl za1⟩) bq e1
 have aP:=JX 0 ⟨.st jQ,ft⟩ rfl;rw[zYh]at aP
 have hlen:sW (.st jQ::rA) S.k+1+rA.length<=S.k+(kP ⟨Lj,Gu,.st jQ::vW,.st jQ::rA,Gv⟩ (.cH l::xs) S.k).length:=by
  cases rA with
  |nil=>simp[sW,kP]|cons r q=>simp only[sW,kP,zVi,Rq];omega
 have zmo:sW (.st jQ::rA) S.k<S.k+(kP ⟨Lj,Gu,.st jQ::vW,.st jQ::rA,Gv⟩ (.cH l::xs) S.k).length:=by omega
 refine m9.res λr cu ⟨cs',aa,ae,aw⟩=>⟨_,_,by rw[oU];rfl,?_,?_,?_,?_,ck,zY8 _ _⟩
 ·rw[ae]
  have:=zmk (G:=G) (k:=sW (.st jQ::rA) S.k+1) hdr λj d aj=>by
   have:=JX (j+1) d (by simpa using aj)
   rw[<-this]
   congr 1
   omega
  show _=ag.den G _ (ax.at (Lh _ S id _) 0);unfold Lh ax.at
  simp only[bn.lu,if_true];exact this.symm
 ·rw[aa,aw]
  show _=di G _ (lL S.h id _);rw[xr,Fq ck af.h];simp only[b1.den,mM.sV];rw[xk,aP,df];rfl
 ·refine⟨λi x hi=>?_,Kq (o:=.dQ bt (k9 jQ (sW (.st jQ::rA) S.k) 0 (fR jQ))) (K4 zmo) (zu (zY8 _ _) af.h),sz (zY8 _ _) af.g⟩
  simp only[Lh,bn.lu]at hi
  split at hi
  ·cases hi
   show(Lg rA (sW (.st jQ::rA) S.k+1)).lt (S.k+_)=true;unfold Lg
   split
   ·have NW:sW (.st jQ::[_]) S.k+1<S.k+(kP ⟨Lj,Gu,.st jQ::vW,.st jQ::[_],Gv⟩ (.cH l::xs) S.k).length:=hlen
    exact Rs NW
   ·simp only[ag.lt]
    exact Gi hlen
  ·simp[bn.get]at hi
 ·exact kL ck af.g hf
end
end Go.aH
namespace Go.aH
open Go
section
variable {P:Program} {G:aV} {f:FuncId} {args:List aC} {t:TypeId} {σ:bK} {R:aC->bK->Prop}
theorem fa.zmp(h:fa P G f args σ 1 R){Q:aC->List aC->Prop}(iZ: ∀r cu,R r cu->∃v rX cs,aF cu 0=some (.box t rX)/\h1 rX cs/\gI cs=true/\Sub r v/\jF v=true/\Q v cs):
 fa P G f args σ 1 λv cu=>∃cs,cu=[(0,.box t cs)]/\Q v cs:=by
 intro w β ro dY aa ae aw aN bx;refine Calls.mono (h w β ro dY aa ae aw aN bx) λe w' ⟨v,r,cu,cS,ro',b0,he,ah,dO,gk,cP⟩=>?_;obtain⟨u,rX,cs,ai,gb,ar,hu,DA,aB⟩:=iZ r cu ah
 have CR: ∀{id:Nat} {o:ey},aF [(0,ey.box t cs)] id=some o->id=0/\o= .box t cs:=λ{id o} ai=>by
  simp only[aF]at ai
  split at ai
  ·rename_i hi;cases ai;exact⟨hi.symm,rfl⟩
  ·cases ai
 have own: ∀b,Own [(0,ey.box t cs)] cS b->Own cu cS b:=λb ⟨id,o,vX,_,af⟩=>by
  obtain⟨rfl,rfl⟩:=CR vX;exact⟨0,_,ai,rfl,af⟩
 refine⟨v,u,[(0,.box t cs)],cS,ro',b0,he,⟨cs,rfl,aB⟩,ra (hu _ _ _ _ _ _ dO) DA,⟨λid o vX=>?_,λid jn o ct b vX zmq _ _ _ _=>?_,λb af av=>gk.fy b af (own b av),gk.lt⟩,
  ⟨cP.os,cP.tape,cP.output,cP.size,cP.frame,cP.h9,cP.hp,λb af=>cP.gG b (own b af),λid bq o vX=>?_,λid o vX=>?_,cP.le⟩⟩
 ·obtain⟨rfl,rfl⟩:=CR vX
  have eg:=gk.dB 0 _ ai
  cases eg with
  |box _ _ b arr aE bc cJ ek=>
   refine .box t cs b arr aE bc (by rw[cJ,gb.at.1]) λj x aj=>?_
   obtain⟨y,aA,ao⟩:=gb.at.2 j x aj;exact ra (ao _ _ _ _ _ _ (ek j y aA)) (q9 ar aj)
 ·rw[(CR vX).1,(CR zmq).1]
 ·obtain⟨rfl,rfl⟩:=CR vX
  exact cP.er 0 bq _ ai
 ·obtain⟨rfl,rfl⟩:=CR vX
  exact cP.new 0 _ ai
end
def xT(t:TypeId)(c:bZ)(n:Nat):ax:=⟨.emp,[(0,.dQ t (k9 c 0 0 (fR c)))],1,n+1,[]⟩
def R2(t:TypeId)(c:bZ)(rs:List a6)(C:ax):Option (List ag):=
 match dG C.h 0 with
 |some (.dQ br l)=>match(zZu br t&&js (fR c) l)&&(Rv rs (C.at 0)&&xO (zZ rs (C.at 0)))with
  |true=>match vT C rs (zZ rs (C.at 0))with
   |some xs=>some (.cH l::xs)|none=>none
  |false=>none
 |_=>none
def R3(t:TypeId)(c:bZ)(rs:List a6)(C:ax):Bool:=(R2 t c rs C).isSome
def za2(t:TypeId)(c:bZ)(rs:List a6)(C:ax)(e:Env):(gi (.st c::rs)).den:=
 match R2 t c rs C with
 |some l=>cr (.st c::rs) (iA e (.st c::rs) l)|none=>(gi (.st c::rs)).gL
def Lk(M:List bs)(T:aG)(t:TypeId)(c:bZ)(rs:List a6)(e:Env):(gi (.st c::rs)).den:=T.kl M e (λ_ C aD=>za2 t c rs C aD) (gi (.st c::rs)).gL
section
variable {P:Program} {G:aV} {M:List bs} {inl:Nat->List ag->ax->aG}
theorem zmr{c:bZ}{i k:Nat}(h:i<k):ag.c6 k (k9 c i 0 (fR c))=true:=K4 h
theorem zms{rs:List a6}{S:ax}{e:Env}{xs:List ag}(aJ:Rv rs (S.at 0)=true)(hI:xO (zZ rs (S.at 0))=true)(h:vT S rs (zZ rs (S.at 0))=some xs):
 Sub ((S.at 0).den G e) (match(iA e rs xs).map aK.cI with|[v]=>v|l=>.tuple l):=by
 obtain⟨cw,_,a3,a4⟩:=CM (G:=G) (e:=e) h;rw[a3 hI]at cw
 match rs,cw,a4,aJ with
 |[r],cw,a4,aJ=>
  obtain⟨d,sr,az,aa,ae⟩:=oP a4
  cases py ae
  rw[az]at cw⊢;simp only[zZ,ag.cc,zXq,List.map_nil]at cw⊢
  cases cw with
  |cons h _=>exact h
 |[],cw,a4,aJ=>
  cases az:S.at 0 with
  |tp m=>
   rw[az]at cw;rw[py a4]at cw⊢;exact cw.tuple
  |_=>rw[az]at aJ;cases aJ
 |r::s::q,cw,a4,aJ=>
  cases az:S.at 0 with
  |tp m=>
   rw[az]at cw;have au:=congrArg zZ5 a4;simp only[zXe,zVi]at au;generalize iA e (r::s::q) xs=ds at cw au⊢
   match ds,au with
   |d::d2::ds,_=>exact cw.tuple
  |_=>rw[az]at aJ;cases aJ
theorem za3(cO:gK P G M inl){f:Nat}{t:TypeId}{c:bZ}{ps rs:List a6}{pre:Option ((gi (.st c::ps)).den->Prop)}{lU:(gi (.st c::ps)).den->(gi (.st c::rs)).den}(T:aG)(aJ:inl f (.fi 0 0::jM 1 ps) (xT t c ps.length)=T)
 (he:T.gV.all (R3 t c rs)=true)(ao: ∀x,p3 pre x->T.safe M (iX 0 (eH (.st c::ps) x)))(hm: ∀x,Lk M T t c rs (iX 0 (eH (.st c::ps) x))=lU x):hz P G f t ⟨.st c::ps,.st c::rs,pre,lU⟩:=λx hx=>by
 subst aJ;obtain⟨d0,nK,qh,rU,hdr⟩:=oP (xP (rs:=.st c::ps) (x:=x));obtain⟨mz,ft⟩:=d0;simp only at rU;subst rU;have au:nK.length=ps.length:=by have:=congrArg zZ5 hdr;rw[zXe]at this;exact this
 have af:(xT t c ps.length).cU:=⟨λi x hi=>by simp[xT,bn.get]at hi,by
  show(ag.c6 (ps.length+1) (k9 c 0 0 (fR c))&&true)=true;rw[zmr (Nat.succ_pos _)]
  rfl,rfl⟩
 have h:=cO f (.fi 0 0::jM 1 ps) (xT t c ps.length) (iX 0 (eH (.st c::ps) x)) af (by
  show(true&&ag.c6 (ps.length+1) (jM 1 ps))=true;rw[Gi (by omega)]
  rfl) (λc hc=>by cases hc) (ao x hx)
 have fM: ∀j d,(⟨.st c,ft⟩::nK)[j]? =some d->Env.at (iX 0 (eH (.st c::ps) x)) j=d:=λj d aj=>by
  have:=Ru (ds:=eH (.st c::ps) x) (i:=0) (j:=j) (d:=d) (by rw[qh];exact aj)
  rwa[zZ0]at this
 have hd:ag.cc G (iX 0 (eH (.st c::ps) x)) (jM 1 ps)=nK.map aK.cI:=Gh hdr λj d aj=>by rw[Nat.add_comm];exact fM (j+1) d (by simpa using aj)
 have ot:di G (iX 0 (eH (.st c::ps) x)) (xT t c ps.length).h=[(0,.box t ((dr c ft).map .ad))]:=by
  have aP:=fM 0 ⟨.st c,ft⟩ rfl;simp only[xT,di,b1.den];rw[xk,aP,df]
 have jV:ag.cc G (iX 0 (eH (.st c::ps) x)) (.fi 0 0::jM 1 ps)= .ptr 0 0::nK.map aK.cI:=by
  show aC.ptr 0 0::_=_;rw[hd]
 rw[jV,ot]at h;show fa P G f (.ptr 0 0::(eH (.st c::ps) x).tail.map aK.cI) [(0,.box t (CQ (eH (.st c::ps) x)))] 1 _;rw[qh];refine fa.zmp (Q:=λv cs=>v=Le (eH (.st c::rs) (lU x))/\cs=CQ (eH (.st c::rs) (lU x))) h λr cu ah=>?_;obtain⟨aM,aD,cE,rfl,rfl,_⟩:=ah;have rr:=zaz he cE;obtain⟨l,pt⟩:=Option.isSome_iff_exists.1 rr;have xd:=hm x;unfold Lk at xd;rw[qA,mT cE]at xd;unfold za2 at xd;rw[pt]at xd;simp only at xd;unfold R2 at pt
 split at pt
 rotate_left
 ·cases pt
 rename_i br Ji ai
 split at pt
 rotate_left
 ·cases pt
 rename_i hc;simp only[zZr]at hc;obtain⟨⟨aO,bz⟩,bd,dV⟩:=hc;have aO:=zWi aO;subst aO
 split at pt
 rotate_left
 ·cases pt
 rename_i xs q6
 cases pt
 obtain⟨_,_,_,a4⟩:=CM (G:=G) (e:=aD) q6;have zT:(iA aD (.st c::rs) (.cH Ji::xs)).map aK.r= .st c::rs:=by simp only[iA,zXq,a4]
 rw[<-xd,zX zT]
 exact⟨_,_,_,by rw[fx,ai];rfl,Fa bz,EO _,zms bd dV q6,by
  have ar:=K2 (iA aD rs xs)
  split
  ·rename_i v az
   rw[az]at ar;simpa[gI]using ar
  ·exact ar,rfl,rfl⟩
theorem za(cO:gK P G M inl){f:Nat}{t:TypeId}{c:bZ}{ps rs:List a6}{lU:(gi (.st c::ps)).den->(gi (.st c::rs)).den}(T:aG)(aJ:inl f (.fi 0 0::jM 1 ps) (xT t c ps.length)=T)
 (he:(T.clean&&T.gV.all (R3 t c rs))=true:=by kernel_rfl)(hm: ∀x,Lk M T t c rs (iX 0 (eH (.st c::ps) x))=lU x:=by intro x;kernel_rfl):hz P G f t ⟨.st c::ps,.st c::rs,none,lU⟩:=by
 simp only[zZr]at he;exact za3 cO T aJ he.2 (λ_ _=>vA M he.1) hm
end
end Go.aH
namespace Go.aH
open Go
def uy:List (Nat × b1)->Nat->List (Nat × b1)
 |[],_=>[]|(k,x)::r,id=>match zZu k id with
  |true=>uy r id|false=>(k,x)::uy r id
theorem R4{G:aV}{e:Env}{id:Nat}: ∀(h:List (Nat × b1)),di G e (uy h id)=hM (di G e h) id
 |[]=>rfl|(k,x)::r=>by
  simp only[uy,di,hM]
  by_cases an:k=id
  ·subst an
   simp only[Nat.beq_refl,if_true];exact R4 r
  ·have:zZu k id=false:=by cases aB:zZu k id with|true=>exact absurd (zWi aB) an|false=>rfl
   simp only[this,if_neg an,di,R4 r]
theorem R5{k id:Nat}: ∀{h:List (Nat × b1)},fT k h=true->fT k (uy h id)=true
 |[],h=>h|(j,x)::r,h=>by
  have a8:x.lt k=true/\fT k r=true:=by cases x<;>simpa only[fT,zZr]using h
  simp only[uy]
  split
  ·exact R5 a8.2
  ·show(x.lt k&&fT k (uy r id))=true
   rw[a8.1,R5 a8.2];rfl
def RZ(iE pf t5:Nat)(inl:Nat->List ag->ax->aG)(f:Nat)(aI:List ag)(S:ax):aG:=
 match zZu f iE,aI with
 |true,[.fi id 0]=>match dG S.h id with
  |some (.dQ t [x0,.aq r])=>match dG S.h r with
   |some (.rw br .u8 x)=>match(zZu t pf&&zZu br t5)&&(x.fN (.li .u8)&&x.lt S.k)with
    |true=>emit S.k [.f1 .cM x] [] (.db .cp ⟨bn.put .emp 0 (.bE .str S.k),uy S.h r,S.n,S.k+1,S.g⟩)|false=>inl f aI S
   |_=>inl f aI S
  |some (.dQ t [x0,.cs (.slice none 0 0)])=>match zZu t pf with
   |true=>.db .cp ⟨bn.put .emp 0 (.cs (.string ⟨#[]⟩)),S.h,S.n,S.k,S.g⟩|false=>inl f aI S
  |_=>inl f aI S
 |_,_=>inl f aI S
section
variable {P:Program} {G:aV} {M:List bs} {inl:Nat->List ag->ax->aG} {iE pf t5:Nat}
def AP(P:Program)(G:aV)(iE pf t5:Nat):Prop:=
 (∀{σ:bK} {n rid id:Nat} {x0:aC} {l:List Int},aF σ id=some (.box pf [x0,.aq rid])->aF σ rid=some (.row false t5 1 (l.map λz=>[.v (.int .u8 z)]))->
  fa P G iE [.ptr id 0] σ n λr cu=>r= .ad (.v (.string (bytesOf l)))/\cu=hM σ rid)/\
 ∀{σ:bK} {n id:Nat} {x0:aC},aF σ id=some (.box pf [x0,.ad (.v (.slice none 0 0))])->fa P G iE [.ptr id 0] σ n λr cu=>r= .ad (.v (.string ⟨#[]⟩))/\cu=σ
theorem zl9(ej:AP P G iE pf t5)(cO:gK P G M inl):gK P G M (RZ iE pf t5 inl):=λf aI S e af au hf ao=>by
 unfold RZ at ao⊢
 split at ao
 rotate_left
 ·exact cO _ _ S e af au hf ao
 rename_i id zmt;have aX:=zWi zmt;subst aX
 split at ao
 ·rename_i t x0 r ai
  split at ao
  rotate_left
  ·exact cO _ _ S e af au hf ao
  rename_i br x MT
  split at ao
  rotate_left
  ·exact cO _ _ S e af au hf ao
  rename_i an;simp only[zZr]at an;obtain⟨⟨eG,eO⟩,mL,Bg⟩:=an;have eG:=zWi eG;have eO:=zWi eO;subst eG eO
  have zY:jt S.k [cf.f1 .cM x]=true:=by
   simp only[jt,cf.lt,Bg,zVg]
  have ck:cy S.k e (ed M e S.k [cf.f1 .cM x]):=mv (zZv _);have fM:=lO (M:=M) (e:=e) zY 0 _ rfl;have zmu:x.aL (ed M e S.k [cf.f1 .cM x]) (.li .u8)=x.aL e (.li .u8):=fY ck Bg;simp only[zYh,cf.den,cx.den,cx.a,zmu]at fM;have m9:=ej.1 (σ:=di G e S.h) (n:=S.n) (rid:=r) (id:=id) (x0:=x0.den G e) (l:=x.aL e (.li .u8)) (by rw[fx,ai];rfl) (by rw[fx,MT];rfl)
  refine m9.res λzmv cu ⟨aa,ae⟩=>⟨⟨bn.put .emp 0 (.bE .str S.k),uy S.h r,S.n,S.k+1,S.g⟩,ed M e S.k [cf.f1 .cM x],by rw[oU];rfl,?_,?_,?_,kL ck af.g hf,ck,zVh _⟩
  ·rw[aa]
   show _=ag.den G _ (ax.at _ 0);unfold ax.at
   simp only[bn.lu,if_true,ag.den,ag.dyn,fM];rfl
  ·rw[ae]
   show _=di G _ (uy S.h r);rw[R4,Fq ck af.h]
  ·refine⟨λi y hi=>?_,R5 (zu (zVh _) af.h),sz (zVh _) af.g⟩
   simp only[bn.lu]at hi
   split at hi
   ·cases hi
    exact nq (Nat.lt_succ_self _)
   ·simp[bn.get]at hi
 ·rename_i t x0 ai
  split at ao
  rotate_left
  ·exact cO _ _ S e af au hf ao
  rename_i eG;have eG:=zWi eG;subst eG;have m9:=ej.2 (σ:=di G e S.h) (n:=S.n) (id:=id) (x0:=x0.den G e) (by rw[fx,ai];rfl)
  refine m9.res λzmv cu ⟨aa,ae⟩=>⟨⟨bn.put .emp 0 (.cs (.string ⟨#[]⟩)),S.h,S.n,S.k,S.g⟩,e,rfl,?_,?_,?_,hf,cy.refl _ _,zZv _⟩
  ·rw[aa]
   show _=ag.den G _ (ax.at _ 0);unfold ax.at
   simp only[bn.lu,if_true,ag.den]
  ·rw[ae]
  ·refine⟨λi y hi=>?_,af.h,af.g⟩
   simp only[bn.lu]at hi
   split at hi
   ·cases hi
    rfl
   ·simp[bn.get]at hi
 ·exact cO _ _ S e af au hf ao
end
end Go.aH
namespace Go.aH
open Go
def nz(n:Nat)(b:Bool)(f:cm->Bool)(x:cm):Bool:=
 match x.b9 n with
 |true=>b|false=>f x
def rB(n:Nat)(b:Bool)(f:cm->Bool)(x:cm):Bool:=
 match x.dw n with
 |true=>b|false=>f x
def aG.bX:aG->(cm->Bool)->Bool
 | .db x _,f=>f x| .lt _ _ t,f=>t.bX f| .fF _ _,_=>false| .it _ a b,f=>a.bX f&&b.bX f| .eB n a _ k,f=>a.bX (nz n (k.bX f) f)| .fc m xid _ _ _ a k,f=>k.bX f&&a.bX (nz m true (rB xid true f))| .fG _ _ _ _ _,_=>false| .bad _,_=>false
def aG.iC(M:List bs):aG->Env->(cm->Bool)->(cm->ax->Env->Prop)->Prop
 | .db x S,e,_,Q=>Q x S e| .lt i x t,e,f,Q=>t.iC M (bn.put e i (x.den M e)) f Q| .fF n t,e,f,Q=>match t.bX f with
  |true=>n.ok M e|false=>n.ok M e/\t.iC M e f Q
 | .it g a b,e,f,Q=>match a.bX f,b.bX f with
  |true,true=>True|true,false=>g.aL e .bool=false->b.iC M e f Q|false,true=>g.aL e .bool=true->a.iC M e f Q|false,false=>(g.aL e .bool=true->a.iC M e f Q)/\(g.aL e .bool=false->b.iC M e f Q)
 | .eB n a ps k,e,f,Q=>a.iC M e (nz n (k.bX f) f) λx S aD=>bif x.b9 n then k.iC M (gN e (λr p=>⟨r,(p.dR S).get aD r⟩) ps) f Q else Q x S aD
 | .fc m xid dM cn ca a k,e,f,Q=>match k.bX f with
  |true=>∃I:Nat->cd ca->Prop,I 0 (cr _ (ew e ca))/\∀(i:Nat) (v:cd ca),i<(cQ (dM.den M e)).toNat->I i v->
   a.iC M (bD (bn.put e cn ⟨.int .i64,(i:Int)⟩) ca v) (nz m false (rB xid true f)) λx S aD=>bif x.b9 m then I (i+1) (cr _ (fS S aD ca))else bif x.dw xid then True else Q x S aD
  |false=>∃I:Nat->cd ca->Prop,I 0 (cr _ (ew e ca))/\(∀(i:Nat) (v:cd ca),i<(cQ (dM.den M e)).toNat->I i v->
   a.iC M (bD (bn.put e cn ⟨.int .i64,(i:Int)⟩) ca v) (nz m false (rB xid false f)) λx S aD=>bif x.b9 m then I (i+1) (cr _ (fS S aD ca))else bif x.dw xid then k.iC M (bD e ca (cr _ (fS S aD ca))) f Q else Q x S aD)/\
   ∀v,I (cQ (dM.den M e)).toNat v->k.iC M (bD e ca v) f Q
 | .fG m xid ca a k,e,f,Q=>∃(I:cd ca->Prop) (j4:cd ca->Nat),I (cr _ (ew e ca))/\j4 (cr _ (ew e ca))<c5/\∀(v:cd ca),I v->
  a.iC M (bD e ca v) (nz m false (rB xid (k.bX f) f)) λx S aD=>bif x.b9 m then I (cr _ (fS S aD ca))/\j4 (cr _ (fS S aD ca))<j4 v else bif x.dw xid then k.iC M (bD e ca (cr _ (fS S aD ca))) f Q else Q x S aD
 | .bad _,_,_,_=>False
section
variable {M:List bs}
def mX(f:cm->Bool)(Q:cm->ax->Env->Prop):Prop:=∀x,f x=true->∀S e,Q x S e
theorem mX.eB{f:cm->Bool}{Q R:cm->ax->Env->Prop}{n:Nat}{b:Bool}(h:mX f R)(af:b=true->∀x S e,x.b9 n=true->Q x S e)(ah: ∀x S e,x.b9 n=false->R x S e->Q x S e):mX (nz n b f) Q:=λx hx S e=>by
 unfold nz at hx
 cases aj:x.b9 n with
 |true=>rw[aj]at hx;exact af hx x S e aj|false=>rw[aj]at hx;exact ah x S e aj (h x hx S e)
theorem mX.o8{f:cm->Bool}{Q R:cm->ax->Env->Prop}{n:Nat}{b:Bool}(h:mX f R)(af:b=true->∀x S e,x.dw n=true->Q x S e)(ah: ∀x S e,x.dw n=false->R x S e->Q x S e):mX (rB n b f) Q:=λx hx S e=>by
 unfold rB at hx
 cases aj:x.dw n with
 |true=>rw[aj]at hx;exact af hx x S e aj|false=>rw[aj]at hx;exact ah x S e aj (h x hx S e)
theorem mY: ∀(t:aG) {e:Env} {f:cm->Bool} {Q:cm->ax->Env->Prop},mX f Q->t.bX f=true->t.wp M e Q
 | .db x S,e,_,_,h,c=>h x c S e| .lt _ _ t,_,_,_,h,c=>mY t h c| .fF _ _,_,_,_,_,c=>by cases c
 | .it _ a b,_,_,_,h,c=>by
  simp only[aG.bX,zZr]at c;exact⟨λ_=>mY a h c.1,λ_=>mY b h c.2⟩
 | .eB n a ps k,e,f,Q,h,c=>mY a (mX.eB h (λaf x S aD aj=>by rw[aj];exact mY k h af) (λx S aD aj aB=>by rw[aj];exact aB)) c
 | .fc m xid dM cn ca a k,e,f,Q,h,c=>by
  simp only[aG.bX,zZr]at c;refine⟨λ_ _=>True,trivial,λi v _ _=>mY a (mX.eB (mX.o8 h (Q:=λx S aD=>bif x.dw xid then k.wp M (bD e ca (cr _ (fS S aD ca))) Q else Q x S aD) (λ_ x S aD aj=>by rw[aj];exact mY k h c.1) (λx S aD aj aB=>by rw[aj];exact aB)) (λ_ x S aD aj=>by rw[aj];trivial) (λx S aD aj aB=>by rw[aj];exact aB)) c.2,λv _=>mY k h c.1⟩
 | .fG _ _ _ _ _,_,_,_,_,c=>by cases c
 | .bad _,_,_,_,_,c=>by cases c
theorem mZ: ∀(t:aG) {e:Env} {f:cm->Bool} {Q R:cm->ax->Env->Prop},(∀x S aD,Q x S aD->R x S aD)->t.iC M e f Q->t.iC M e f R
 | .db _ _,_,_,_,_,h,q=>h _ _ _ q| .lt _ _ t,_,_,_,_,h,q=>mZ t h q| .fF n t,e,f,Q,R,h,q=>by
  simp only[aG.iC]at q⊢
  cases hc:t.bX f with
  |true=>rw[hc]at q;exact q|false=>rw[hc]at q;exact⟨q.1,mZ t h q.2⟩
 | .it g a b,e,f,Q,R,h,q=>by
  simp only[aG.iC]at q⊢
  cases ba:a.bX f<;>cases af:b.bX f<;>rw[ba,af]at q<;>simp only at q⊢
  ·exact⟨λai=>mZ a h (q.1 ai),λai=>mZ b h (q.2 ai)⟩
  ·exact λai=>mZ a h (q ai)
  ·exact λai=>mZ b h (q ai)
 | .eB n a ps k,e,f,Q,R,h,q=>mZ a (λx S aD r=>by
  cases hx:x.b9 n with
  |true=>rw[hx]at r;exact mZ k h r
  |false=>rw[hx]at r;exact h _ _ _ r) q
 | .fc m xid dM cn ca a k,e,f,Q,R,h,q=>by
  simp only[aG.iC]at q⊢
  cases hc:k.bX f with
  |true=>
   rw[hc]at q;obtain⟨I,aa,ae⟩:=q;refine⟨I,aa,λi v hi az=>mZ a (λx S aD r=>?_) (ae i v hi az)⟩
   cases hx:x.b9 m with
   |true=>rw[hx]at r;exact r|false=>
    rw[hx]at r
    cases aA:x.dw xid with
    |true=>trivial|false=>rw[aA]at r;exact h _ _ _ r
  |false=>
   rw[hc]at q;obtain⟨I,aa,ae,aw⟩:=q;refine⟨I,aa,λi v hi az=>mZ a (λx S aD r=>?_) (ae i v hi az),λv az=>mZ k h (aw v az)⟩
   cases hx:x.b9 m with
   |true=>rw[hx]at r;exact r|false=>
    rw[hx]at r
    cases aA:x.dw xid with
    |true=>rw[aA]at r;exact mZ k h r|false=>rw[aA]at r;exact h _ _ _ r
 | .fG m xid ca a k,e,f,Q,R,h,q=>by
  obtain⟨I,j4,aa,ae,aw⟩:=q;refine⟨I,j4,aa,ae,λv az=>mZ a (λx S aD r=>?_) (aw v az)⟩
  cases hx:x.b9 m with
  |true=>rw[hx]at r;exact r|false=>
   rw[hx]at r
   cases aA:x.dw xid with
   |true=>rw[aA]at r;exact mZ k h r|false=>rw[aA]at r;exact h _ _ _ r
 | .bad _,_,_,_,_,_,q=>q.elim
theorem oY: ∀(t:aG) {e:Env} {f:cm->Bool} {Q:cm->ax->Env->Prop},mX f Q->t.iC M e f Q->t.wp M e Q
 | .db _ _,_,_,_,_,q=>q| .lt _ _ t,_,_,_,h,q=>oY t h q| .fF n t,e,f,Q,h,q=>by
  simp only[aG.iC]at q
  cases hc:t.bX f with
  |true=>rw[hc]at q;exact⟨q,mY t h hc⟩|false=>rw[hc]at q;exact⟨q.1,oY t h q.2⟩
 | .it g a b,e,f,Q,h,q=>by
  simp only[aG.iC]at q
  cases ba:a.bX f<;>cases af:b.bX f<;>rw[ba,af]at q<;>simp only at q
  ·exact⟨λai=>oY a h (q.1 ai),λai=>oY b h (q.2 ai)⟩
  ·exact⟨λai=>oY a h (q ai),λ_=>mY b h af⟩
  ·exact⟨λ_=>mY a h ba,λai=>oY b h (q ai)⟩
  ·exact⟨λ_=>mY a h ba,λ_=>mY b h af⟩
 | .eB n a ps k,e,f,Q,h,q=>by
  refine oY a (f:=nz n (k.bX f) f) (mX.eB h (λaf x S aD aj=>?_) (λx S aD aj aB=>by rw[aj];exact aB)) ?_
  ·rw[aj];exact mY k h af
  ·exact mZ a (λx S aD r=>by
    cases hx:x.b9 n with
    |true=>rw[hx]at r;exact oY k h r
    |false=>rw[hx]at r;exact r) q
 | .fc m xid dM cn ca a k,e,f,Q,h,q=>by
  simp only[aG.iC]at q
  cases hc:k.bX f with
  |true=>
   rw[hc]at q;obtain⟨I,aa,ae⟩:=q;refine⟨I,aa,λi v hi az=>?_,λv _=>mY k h hc⟩;refine oY a (f:=nz m false (rB xid true f)) (mX.eB (mX.o8 h (Q:=λx S aD=>bif x.dw xid then k.wp M (bD e ca (cr _ (fS S aD ca))) Q else Q x S aD) (λ_ x S aD aj=>by rw[aj];exact mY k h hc) (λx S aD aj aB=>by rw[aj];exact aB)) (λaf=>by cases af) (λx S aD aj aB=>by rw[aj];exact aB)) ?_
   refine mZ a (λx S aD r=>?_) (ae i v hi az)
   cases hx:x.b9 m with
   |true=>rw[hx]at r;exact r|false=>
    rw[hx]at r
    cases aA:x.dw xid with
    |true=>exact mY k h hc|false=>rw[aA]at r;exact r
  |false=>
   rw[hc]at q;obtain⟨I,aa,ae,aw⟩:=q;refine⟨I,aa,λi v hi az=>?_,λv az=>oY k h (aw v az)⟩;refine oY a (f:=nz m false (rB xid false f)) (mX.eB (mX.o8 h (Q:=λx S aD=>bif x.dw xid then k.wp M (bD e ca (cr _ (fS S aD ca))) Q else Q x S aD) (λaf=>by cases af) (λx S aD aj aB=>by rw[aj];exact aB)) (λaf=>by cases af) (λx S aD aj aB=>by rw[aj];exact aB)) ?_
   refine mZ a (λx S aD r=>?_) (ae i v hi az)
   cases hx:x.b9 m with
   |true=>rw[hx]at r;exact r|false=>
    rw[hx]at r
    cases aA:x.dw xid with
    |true=>rw[aA]at r;exact oY k h r|false=>rw[aA]at r;exact r
 | .fG m xid ca a k,e,f,Q,h,q=>by
  obtain⟨I,j4,aa,ae,aw⟩:=q;refine⟨I,j4,aa,ae,λv az=>?_⟩;refine oY a (f:=nz m false (rB xid (k.bX f) f)) (mX.eB (mX.o8 h (Q:=λx S aD=>bif x.dw xid then k.wp M (bD e ca (cr _ (fS S aD ca))) Q else Q x S aD) (λaf x S aD aj=>by rw[aj];exact mY k h af) (λx S aD aj aB=>by rw[aj];exact aB)) (λaf=>by cases af) (λx S aD aj aB=>by rw[aj];exact aB)) ?_
  refine mZ a (λx S aD r=>?_) (aw v az)
  cases hx:x.b9 m with
  |true=>rw[hx]at r;exact r|false=>
   rw[hx]at r
   cases aA:x.dw xid with
   |true=>rw[aA]at r;exact oY k h r|false=>rw[aA]at r;exact r
 | .bad _,_,_,_,_,q=>q.elim
end
def R6(M:List bs)(t:aG)(e:Env):Prop:=t.iC M e (λ_=>true) λ_ _ _=>True
theorem za4{M:List bs}{t:aG}{e:Env}(h:R6 M t e):t.wp M e λ_ _ _=>True:=oY t (λ_ _ _ _=>trivial) h
section
variable {P:Program} {G:aV} {M:List bs} {inl:Nat->List ag->ax->aG}
theorem gU(cO:gK P G M inl){f:Nat}{m:bs}(t:aG)(aJ:inl f (jM 0 m.ps) (vg m.ps.length)=t)(he:t.gV.all (zb m.rs)=true:=by kernel_rfl)
 (ao: ∀x,R6 M t (iX 0 (eH m.ps x))=p3 m.pre x:=by intro x;kernel_rfl)(hm: ∀x,Rx M t m.rs (iX 0 (eH m.ps x))=m.m x:=by intro x;kernel_rfl):eU P G f m:=
 zlq cO t aJ he (λx hx=>za4 (by rw[ao x];exact hx)) hm
theorem kf(cO:gK P G M inl){f:Nat}{t:TypeId}{c:bZ}{ps rs:List a6}{pre:Option ((gi (.st c::ps)).den->Prop)}{lU:(gi (.st c::ps)).den->(gi (.st c::rs)).den}(T:aG)(aJ:inl f (.fi 0 0::jM 1 ps) (xT t c ps.length)=T)
 (he:T.gV.all (R3 t c rs)=true:=by kernel_rfl)(ao: ∀x,R6 M T (iX 0 (eH (.st c::ps) x))=p3 pre x:=by intro x;kernel_rfl)(hm: ∀x,Lk M T t c rs (iX 0 (eH (.st c::ps) x))=lU x:=by intro x;kernel_rfl):hz P G f t ⟨.st c::ps,.st c::rs,pre,lU⟩:=
 za3 cO T aJ he (λx hx=>(ny T (za4 (by rw[ao x];exact hx))).1) hm
end
end Go.aH
namespace Go.aH
open Go
def eo{A X:Type}(F:A->X)(b:(A->X)->X):X:=b F
def uz:List (Nat × a6 × e8)->List a6
 |[]=>[]|q::l=>q.2.1::uz l
def z6(S:ax)(e:Env):List (Nat × a6 × e8)->List aK
 |[]=>[]|q::l=>⟨q.2.1,(q.2.2.dR S).get e q.2.1⟩::z6 S e l
def Gw(e:Env):List (Nat × a6 × e8)->List aK->Env
 |q::l,d::ds=>Gw (bn.put e q.1 d) l ds|_,_=>e
abbrev za5(ps:List (Nat × a6 × e8)):Type:=(gi (uz ps)).den
theorem za6(S:ax)(e:Env): ∀ps,(z6 S e ps).map aK.r=uz ps
 |[]=>rfl|q::l=>by
  show q.2.1::(z6 S e l).map aK.r=q.2.1::uz l;rw[za6 S e l]
theorem za7(S:ax)(aD:Env): ∀(ps:List (Nat × a6 × e8)) (e:Env),Gw e ps (z6 S aD ps)=gN e (λr p=>⟨r,(p.dR S).get aD r⟩) ps
 |[],_=>rfl|(i,r,p)::l,e=>za7 S aD l _
theorem za8(S:ax)(e aD:Env)(ps:List (Nat × a6 × e8)):Gw e ps (eH (uz ps) (cr (uz ps) (z6 S aD ps)))=gN e (λr p=>⟨r,(p.dR S).get aD r⟩) ps:=by
 rw[zX (za6 S aD ps),za7]
def aG.og(M:List bs):aG->{X:Type}->Env->(cm->ax->Env->X)->X->X
 | .db x S,_,e,K,_=>K x S e| .lt i x t,_,e,K,d=>t.og M (bn.put e i (x.den M e)) K d| .fF _ t,_,e,K,d=>t.og M e K d| .it g a b,_,e,K,d=>bif g.aL e .bool then a.og M e K d else b.og M e K d| .eB n a ps k,_,e,K,d=>eo (λv:za5 ps=>k.og M (Gw e ps (eH (uz ps) v)) K d) λF=>a.og M e (λx S aD=>bif x.b9 n then F (cr (uz ps) (z6 S aD ps))else K x S aD) d
 | .fc m xid dM cn ca a k,X,e,K,d=>Sum.elim (λr=>r) (λv=>k.og M (bD e ca v) K d)
  (bI (λi (v:cd ca)=>(a.og M (bD (bn.put e cn ⟨.int .i64,(i:Int)⟩) ca v) (fj m xid ca K) (.c4 v):Step X (cd ca))) 0 (cQ (dM.den M e)).toNat (cr _ (ew e ca)))
 | .fG m xid ca a k,X,e,K,d=>Sum.elim (λr=>r) (λv=>k.og M (bD e ca v) K d)
  (dk (λv=>(a.og M (bD e ca v) (fj m xid ca K) (.c4 v):Step X (cd ca))) c5 (cr _ (ew e ca)))
 | .bad _,_,_,_,d=>d
def aG.km(M:List bs):aG->Env->(cm->Bool)->(cm->ax->Env->Prop)->Prop
 | .db x S,e,_,Q=>Q x S e| .lt i x t,e,f,Q=>t.km M (bn.put e i (x.den M e)) f Q| .fF n t,e,f,Q=>match t.bX f with
  |true=>n.ok M e|false=>n.ok M e/\t.km M e f Q
 | .it g a b,e,f,Q=>match a.bX f,b.bX f with
  |true,true=>True|true,false=>g.aL e .bool=false->b.km M e f Q|false,true=>g.aL e .bool=true->a.km M e f Q|false,false=>(g.aL e .bool=true->a.km M e f Q)/\(g.aL e .bool=false->b.km M e f Q)
 | .eB n a ps k,e,f,Q=>match k.bX f with
  |true=>a.km M e (nz n true f) λx S aD=>bif x.b9 n then k.km M (gN e (λr p=>⟨r,(p.dR S).get aD r⟩) ps) f Q else Q x S aD
  |false=>eo (λv:za5 ps=>k.km M (Gw e ps (eH (uz ps) v)) f Q) λF=>a.km M e (nz n false f) λx S aD=>bif x.b9 n then F (cr (uz ps) (z6 S aD ps))else Q x S aD
 | .fc m xid dM cn ca a k,e,f,Q=>match k.bX f with
  |true=>∃I:Nat->cd ca->Prop,I 0 (cr _ (ew e ca))/\∀(i:Nat) (v:cd ca),i<(cQ (dM.den M e)).toNat->I i v->
   a.km M (bD (bn.put e cn ⟨.int .i64,(i:Int)⟩) ca v) (nz m false (rB xid true f)) λx S aD=>bif x.b9 m then I (i+1) (cr _ (fS S aD ca))else bif x.dw xid then True else Q x S aD
  |false=>∃I:Nat->cd ca->Prop,I 0 (cr _ (ew e ca))/\(∀(i:Nat) (v:cd ca),i<(cQ (dM.den M e)).toNat->I i v->
   a.km M (bD (bn.put e cn ⟨.int .i64,(i:Int)⟩) ca v) (nz m false (rB xid false f)) λx S aD=>bif x.b9 m then I (i+1) (cr _ (fS S aD ca))else bif x.dw xid then k.km M (bD e ca (cr _ (fS S aD ca))) f Q else Q x S aD)/\
   ∀v,I (cQ (dM.den M e)).toNat v->k.km M (bD e ca v) f Q
 | .fG m xid ca a k,e,f,Q=>∃(I:cd ca->Prop) (j4:cd ca->Nat),I (cr _ (ew e ca))/\j4 (cr _ (ew e ca))<c5/\∀(v:cd ca),I v->
  a.km M (bD e ca v) (nz m false (rB xid (k.bX f) f)) λx S aD=>bif x.b9 m then I (cr _ (fS S aD ca))/\j4 (cr _ (fS S aD ca))<j4 v else bif x.dw xid then k.km M (bD e ca (cr _ (fS S aD ca))) f Q else Q x S aD
 | .bad _,_,_,_=>False
section
variable {M:List bs}
theorem sX: ∀(t:aG) {X:Type} (e:Env) (K:cm->ax->Env->X) (d:X),t.og M e K d=t.kl M e K d
 | .db _ _,_,_,_,_=>rfl| .lt i x t,_,_,K,d=>sX t _ K d| .fF _ t,_,e,K,d=>sX t _ K d| .it g a b,_,e,K,d=>by simp only[aG.og,aG.kl,sX a,sX b]| .eB n a ps k,X,e,K,d=>by simp only[aG.og,aG.kl,eo,sX a,sX k,za8]| .fc m xid dM cn ca a k,_,e,K,d=>by simp only[aG.og,aG.kl,sX a,sX k]| .fG m xid ca a k,_,e,K,d=>by simp only[aG.og,aG.kl,sX a,sX k]| .bad _,_,_,_,_=>rfl
theorem sY: ∀(t:aG) (e:Env) (f:cm->Bool) (Q:cm->ax->Env->Prop),t.km M e f Q=t.iC M e f Q
 | .db _ _,_,_,_=>rfl| .lt i x t,_,f,Q=>sY t _ f Q| .fF _ t,e,f,Q=>by
  simp only[aG.km,aG.iC,sY t]
  all_goals (cases t.bX f<;>rfl)
 | .it g a b,e,f,Q=>by
  simp only[aG.km,aG.iC,sY a,sY b]
  all_goals (cases a.bX f<;>cases b.bX f<;>rfl)
 | .eB n a ps k,e,f,Q=>by
  simp only[aG.km,aG.iC,eo,sY a,sY k,za8]
  all_goals (cases k.bX f<;>rfl)
 | .fc m xid dM cn ca a k,e,f,Q=>by
  simp only[aG.km,aG.iC,sY a,sY k]
  all_goals (cases k.bX f<;>rfl)
 | .fG m xid ca a k,e,f,Q=>by simp only[aG.km,aG.iC,sY a,sY k]| .bad _,_,_,_=>rfl
end
def V9(M:List bs)(t:aG)(rs:List a6)(e:Env):(gi rs).den:=t.og M e (λ_ C aD=>K7 rs C aD) (gi rs).gL
def V8(M:List bs)(t:aG)(e:Env):Prop:=t.km M e (λ_=>true) λ_ _ _=>True
section
variable {P:Program} {G:aV} {M:List bs} {inl:Nat->List ag->ax->aG}
theorem zfV(cO:gK P G M inl){f:Nat}{m:bs}(t:aG)(aJ:inl f (jM 0 m.ps) (vg m.ps.length)=t)(he:t.gV.all (zb m.rs)=true)
 (ao: ∀x,V8 M t (iX 0 (eH m.ps x))=p3 m.pre x)(hm: ∀x,V9 M t m.rs (iX 0 (eH m.ps x))=m.m x):eU P G f m:=
 gU cO t aJ he (λx=>(sY t _ _ _).symm.trans (ao x)) λx=>(sX t _ _ _).symm.trans (hm x)
end
end Go.aH
