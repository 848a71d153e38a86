/- Conditions: none. -/
import Derived.Test.YtddeffoppnlafaaGreatJCEf
import Derived.Test.YtddeffoppnlafaaGreatJTEm
import Derived.Test.YtddeffoppnlafaaGreatJTEv
open Bool renaming and_eq_true->zZr
open Nat renaming beq->zZu,le_of_ble_eq_true->zZq,le_refl->zZv
namespace Go.aH
open Go Go.Proofs Go.Shelf Go.RowKit Go.Lib
theorem m6.MN{P:Program}{G:aV}{f:FuncId}{args:List aC}{σ cZ:bK}{n N:Nat}{r:aC}(h:fa P G f args σ n λji cu=>ji=r/\cu=cZ)(ah:jh N r=true)(a8:l1 N cZ=true)(m5:n<=N):m6 P G f args σ n r cZ N:=by
 intro w β ro dY aa ae aw aN bx;refine Calls.mono (h w β ro dY aa ae aw aN bx) λe w' aB=>?_;obtain⟨v,ji,cu,cS,ro',b0,rfl,⟨rfl,rfl⟩,dO,gk,aJ⟩:=aB;refine⟨v,cS,ro',rfl,dO.lower ah,⟨λid o ai=>?_,gk.inj,gk.fy,gk.lt⟩,⟨aJ.os,aJ.tape,aJ.output,aJ.size,aJ.frame,aJ.h9,aJ.hp,aJ.gG,aJ.er,λid o ai=>(rY a8 ai).1,m5⟩⟩;obtain⟨_,yl⟩:=rY a8 ai
 cases gk.dB id o ai with
 |box t cs b arr aE bc cJ ek=>exact .box t cs b arr aE bc cJ λj x aj=>(ek j x aj).lower (tu (yl t cs rfl) aj)
 |row t n es xs aE bc cJ=>exact .row t n es xs aE bc cJ|gH t n es aE=>exact .gH t n es aE|bW bU b o aE bc cJ=>exact .bW bU b o aE bc cJ
def wJ(P:Program)(G:aV)(f:FuncId)(t:TypeId)(m bytes:Nat):Prop:=
 ∀{σ:bK} {n:Nat} {y:aC} {es:List (List a7)},iQ σ m y=some es->es.length<=maxLen/\es.length*bytes<=140737488355328->
  fa P G f [y] σ n λv cu=>v= .aq n/\cu=(n,.row false t m es)::σ
section
variable {P:Program} {ρ:Ren}
theorem DK{G:aV}{m:Nat}(L:SlLaysE0.n41 P ρ)(i0:TypeInfo)(z:Value)(bytes:Nat)(hi:P.info? (ρ.t 23)=some i0)(MO:i0.zero=some z)(DL:i0.size=m)(MP:i0.bytes=bytes)(jk:z.cells.size=m)(b4:0<m)
 (z23: ∀w,(Go.sizeOf (ρ.t 23)).run P w= .ok (m) w):wJ P G (ρ.f 41) (ρ.t 23) m bytes:=by
 intro σ n y es aA Ua w β ro dY aa ae aw aN bx;have zdI:=ae 0 y rfl
 have ym:dY= #[dY.getD 0 undef]:=by
  have ao:dY.size=1:=aa;apply Array.ext
  ·simpa using ao
  ·intro i AM tv
   have:i=0:=by omega
   subst this;simp[Array.getD,ao]
 obtain⟨b,cap,pe,ow,rZ,f,kz,r0⟩:=AN aw zdI aA;obtain⟨qM,tw,tx⟩:=DM ow r0;rw[ym,pe];have hR:dy ⟨w,ro,σ,β,n,[]⟩ G ⟨[],σ,n,n⟩ ⟨#[],[]⟩ w β ro:=⟨rfl,rfl,by simp,aw,aN,⟨rfl,rfl,rfl,zZv _,λ_ _ _=>rfl,λ_ h=>.inl h,λ_ h=>h,λ_ h=>.inl h,λid _ o ai=>⟨by simp[ai],rfl⟩,bx,zZv _⟩,zZv _⟩
 have lB:aF σ n=none:=by
  cases ai:aF σ n with
  |none=>rfl|some p=>have:=bx _ _ ai;omega
 have fin: ∀(bC:Value) (w':World),w'.ownsRow w.heap.size (ρ.t 23) (m) bC es.length ((List.range (es.length*m)).map f)->Below w.heap.size w w'->
  ∃v r cZ cS ro' b0,Ending.returned bC=Ending.returned v/\(r=aC.aq n/\cZ=(n,.row false (ρ.t 23) (m) es)::σ)/\bN w' ro' cZ cS b0 r v/\hA w' ro' cZ cS b0/\Trans ⟨w,ro,σ,β,n,[]⟩ w' ro' cZ cS b0:=by
  intro bC w' iS yn
  have ea:l2 w' (ρ.t 23) (m) bC es.length ((List.range (es.length*m)).map f):=l2.HE (by
   obtain⟨dp,dP⟩:=iS
   refine⟨dp,dP.imp id λ⟨g,h6,cur,aE,_,cJ⟩=>⟨g,h6,cur,aE,Nat.zero_le _,cJ⟩⟩)
  have hw: ∀b,b<w.heap.size->w'.heap[b]? =w.heap[b]? :=λb af=>yn.block b af
  have gS:=hR.new (w':=w') n lB (zZv _) (zZv _) (.row false (ρ.t 23) (m) es) bC yn.os yn.tape yn.output yn.size hw (λb af=>by
   obtain⟨_,dP⟩:=iS
   rcases dP with⟨aE,_⟩|⟨g,h6,cur,aE,bc,_⟩
   ·rw[aE]at af
    simp[cF]at af
   ·rw[aE]at af
    simp only[cF]at af
    split at af
    ·cases af
    ·cases af
     exact bc) rfl (.row (ρ.t 23) (m) _ _ (by rw[fl];exact ea) ow λj x aj=>by
      have:=tx j x aj
      exact this.keep (λb af=>hw b (aw.lt b af)) λ_ h=>h)
  exact⟨bC,.aq n,_,jC β n bC,ro,n+1,rfl,⟨rfl,rfl⟩,.aq _ _ (Nat.lt_succ_self _) λz br b0 e2 _=>(fl _ _ _).symm,gS.heap,gS.trans⟩
 cases b with
 |none=>
  have aP:=rZ rfl;subst aP;refine Calls.mono (AnyE.slices_Clone_nil L _ _ w) λe w' ⟨he,hw⟩=>?_;subst hw;rw[he];exact fin (.slice none 0 0) w' ⟨by simp,.inl ⟨rfl,rfl⟩⟩ (Below.refl _ _)
 |some dj=>
  refine Calls.mono (zdJ L i0 z (m) bytes hi MO DL MP jk b4 z23 dj es.length cap ((List.range (es.length*m)).map f) w (by simp) Ua.1 Ua.2 (λj u aj=>?_) tw) λe w' ⟨bC,he,iS,yn⟩=>?_
  ·have dv:=(List.getElem?_eq_some_iff.1 aj).1
   simp only[List.length_map,List.length_range]at dv;have aa:=kz dj rfl j dv;simp[dv]at aj;rw[aa,aj]
  ·rw[he]
   exact fin bC w' iS yn
end
abbrev DN:=List (FuncId × TypeId × Nat × Nat)
def HF(f:FuncId):DN->Option (TypeId × Nat × Nat)
 |[]=>none|(g,r)::l=>match zZu g f with
  |true=>some r|false=>HF f l
theorem Ub{f:FuncId}{r:TypeId × Nat × Nat}: ∀{l:DN},HF f l=some r->(f,r)∈l
 |(g,q)::l,h=>by
  simp only[HF]at h
  split at h
  ·rename_i af
   cases h;rw[e9 af];exact .head _
  ·exact .tail _ (Ub h)
def MQ(l:DN):fB:=λf xs h n=>match xs with
 |[y]=>match HF f l with
  |some (t,m,bytes)=>match iQ (c7 h) m y with
   |some es=>match(Nat.ble es.length 16777216&&Nat.ble (es.length*bytes) 16777216)&&l1 (n+1) (c7 ((n,.row false t m es)::h))with
    |true=>some (.aq n,(n,.row false t m es)::h,n+1)|false=>none
   |none=>none
  |none=>none
 |_=>none
theorem zdK{P:Program}{G:aV}{l:DN}(au: ∀f t m bytes,(f,t,m,bytes)∈l->wJ P G f t m bytes):ia P G (MQ l):=by
 intro f xs h n r h' b0 hc;unfold MQ at hc
 split at hc
 ·rename_i y
  split at hc
  ·rename_i t m bytes HG
   split at hc
   ·rename_i es he
    split at hc
    ·rename_i hJ
     simp only[zZr]at hJ;cases hc;have aa:=zZq hJ.1.1;have ae:=zZq hJ.1.2;refine m6.MN (au _ _ _ _ (Ub HG) he ⟨by simp only[maxLen];omega,by omega⟩) ?_ hJ.2 (Nat.le_succ n)
     simp[jh]
    ·cases hc
   ·cases hc
  ·cases hc
 ·cases hc
def AO:eM->Nat->eM
 |[],_=>[]|(k,x)::r,id=>match zZu k id with
  |true=>AO r id|false=>(k,x)::AO r id
theorem MR: ∀(h:eM) (id:Nat),c7 (AO h id)=hM (c7 h) id
 |[],_=>rfl|(k,x)::r,id=>by
  simp only[c7,hM,AO]
  cases af:zZu k id with
  |true=>simp[e9 af,MR r id]|false=>simp[wy af,c7,MR r id]
def MS(iE pf t5:Nat):fB:=λf xs h n=>match zZu f iE,xs with
 |true,[.ptr id 0]=>match o7 h id with
  |some (.box t [_,.aq rid])=>match o7 h rid with
   |some (.row false br m es)=>match Di es,(zZu t pf&&zZu br t5)&&(zZu m 1&&l1 n (c7 (AO h rid)))with
    |some l,true=>some (.ad (.v (.string (bytesOf l))),AO h rid,n)|_,_=>none
   |_=>none
  |some (.box t [_,.ad (.v (.slice none 0 0))])=>match zZu t pf&&l1 n (c7 h)with
   |true=>some (.ad (.v (.string ⟨#[]⟩)),h,n)|false=>none
  |_=>none
 |_,_=>none
theorem zdL{P:Program}{G:aV}{iE pf t5:Nat}(yo:AP P G iE pf t5):ia P G (MS iE pf t5):=by
 intro f xs h n r h' b0 hc;unfold MS at hc
 split at hc
 ·rename_i id hf
  have hf:=e9 hf;subst hf
  split at hc
  ·rename_i t x0 rid ai
   split at hc
   ·rename_i br m es MT
    split at hc
    ·rename_i l au hJ
     simp only[zZr]at hJ;cases hc;have aO:=e9 hJ.1.1;have bz:=e9 hJ.1.2;have bd:=e9 hJ.2.1;subst aO bz bd;have he:=L1 au;subst he;refine m6.MN ?_ rfl hJ.2.2 (zZv n);rw[MR];exact yo.1 (by rw[uN,ai];rfl) (by rw[uN,MT];rfl)
    ·cases hc
   ·cases hc
  ·rename_i t x0 ai
   split at hc
   ·rename_i hJ
    simp only[zZr]at hJ;cases hc;have aO:=e9 hJ.1;subst aO;exact m6.MN (yo.2 (by rw[uN,ai];rfl)) rfl hJ.2 (zZv n)
   ·cases hc
  ·cases hc
 ·cases hc
structure fV where
 f:FuncId
 xs:List aC
 h:eM
 n:Nat
 r:aC
 h':eM
 b0:Nat
def fV.ok(P:Program)(G:aV)(e:fV):Prop:=m6 P G e.f e.xs (c7 e.h) e.n e.r (c7 e.h') e.b0
def mF:List fV->fB
 |[],_,_,_,_=>none|e::l,f,xs,h,n=>match zZu e.f f&&(zZu e.n n&&(uT e.xs xs&&AG e.h h))with
  |true=>some (e.r,e.h',e.b0)|false=>mF l f xs h n
theorem nL{P:Program}{G:aV}: ∀{l:List fV},(∀e∈l,e.ok P G)->ia P G (mF l)
 |[],_,_,_,_,_,_,_,_,hc=>by cases hc
 |e::l,au,f,xs,h,n,r,h',b0,hc=>by
  simp only[mF]at hc
  split at hc
  ·rename_i af
   simp only[zZr]at af;cases hc;have:=au e (.head _);unfold fV.ok at this;rw[e9 af.1,e9 af.2.1,yk af.2.2.1,MD af.2.2.2]at this;exact this
  ·exact nL (λe he=>au e (.tail _ he)) f xs h n r h' b0 hc
theorem fV.of{P:Program}{G:aV}{k:fB}(an:ia P G k){e:fV}(N:Nat)(h:T9 P G k N e.f e.xs e.h e.n=some (e.r,e.h',e.b0)):e.ok P G:=zdH an N _ _ _ _ _ _ _ h
end Go.aH
