/- Conditions: none. -/
import Derived.Test.YtddeffoppnlafaaGreatJCEd
open Nat renaming beq->zZu,blt->zZs,le_of_ble_eq_true->zZq
open Option renaming map_eq_some_iff->zZ3
namespace Go.aH
open Go
def hU(p q k:Nat):Nat:=
 match zZu k p with
 |true=>q|false=>match zZu k q with
  |true=>p|false=>k
theorem oC(p q k:Nat):hU p q (hU p q k)=k:=by
 unfold hU
 cases aa:zZu k p with
 |true=>
  have aa:=e9 aa;subst aa;simp only
  cases ae:zZu q k with
  |true=>exact e9 ae|false=>simp
 |false=>
  simp only
  cases ae:zZu k q with
  |true=>
   have ae:=e9 ae;subst ae;simp
  |false=>simp[aa,ae]
theorem AY{p q k N:Nat}(ar:p<N)(aB:q<N)(an:k<N):hU p q k<N:=by
 unfold hU
 split
 ·exact aB
 ·split
  ·exact ar
  ·exact an
theorem zd5{p q k N:Nat}(ar:p<N)(aB:q<N)(an:hU p q k<N):k<N:=by
 have:=AY ar aB an
 rwa[oC]at this
theorem zd6{p q k N:Nat}(ar:N<=p)(aB:N<=q)(an:k<N):hU p q k=k:=by
 unfold hU
 split
 ·rename_i h
  have:=e9 h;omega
 ·split
  ·rename_i h
   have:=e9 h;omega
  ·rfl
mutual
def AZ(p q:Nat):aC->aC
 | .agg cs=>.agg (qN p q cs)| .tuple cs=>.tuple (qN p q cs)| .ptr k o=>.ptr (hU p q k) o| .du k i o=>.du (hU p q k) i o| .aq k=>.aq (hU p q k)| .fn f a b=>.fn f (qN p q a) (qN p q b)| .ref k=>.ref (hU p q k)| .eb k n=>.eb (hU p q k) n|x=>x
def qN(p q:Nat):List aC->List aC
 |[]=>[]|x::r=>AZ p q x::qN p q r
end
theorem H2(p q:Nat): ∀l:List aC,qN p q l=l.map (AZ p q)
 |[]=>rfl|x::r=>by simp[qN,H2 p q r]
theorem A0(p q:Nat)(l:List aC):(qN p q l).length=l.length:=by simp[H2]
theorem A1(p q:Nat){l:List aC}{j:Nat}{x:aC}(h:(qN p q l)[j]? =some x): ∃y,l[j]? =some y/\x=AZ p q y:=by
 rw[H2,List.getElem?_map]at h;obtain⟨y,aa,ae⟩:=zZ3.1 h;exact⟨y,aa,ae.symm⟩
def tC(p q:Nat):ey->ey
 | .box t cs=>.box t (qN p q cs)|o=>o
def wS(p q:Nat):bK->bK
 |[]=>[]|(k,o)::r=>(hU p q k,tC p q o)::wS p q r
theorem yx(p q:Nat): ∀(σ:bK) (k:Nat),aF (wS p q σ) k=(aF σ (hU p q k)).map (tC p q)
 |[],_=>rfl|(j,o)::r,k=>by
  simp only[wS,aF]
  by_cases h:hU p q j=k
  ·have ae:j=hU p q k:=by rw[<-h,oC]
   rw[if_pos h,if_pos ae];rfl
  ·have ae: ¬j=hU p q k:=λe=>h (by rw[e,oC])
   rw[if_neg h,if_neg ae];exact yx p q r k
section
variable {w:World} {ro:Nat->Prop} {σ:bK} {β:Nat->Value} {N p q:Nat}
theorem bN.hU(ar:p<N)(aB:q<N){x:aC}{c:Value}(h:bN w ro σ β N x c):bN w ro (wS p q σ) (λk=>β (hU p q k)) N (AZ p q x) c:=by
 induction h with
 |ad x c h=>exact .ad x c h|agg cs c aa _ bb=>
  refine .agg _ c (by rw[A0];exact aa) λj x aj=>?_
  obtain⟨y,aA,rfl⟩:=A1 p q aj;exact bb j y aA
 |tuple cs c aa _ bb=>
  refine .tuple _ c (by rw[A0];exact aa) λj x aj=>?_
  obtain⟨y,aA,rfl⟩:=A1 p q aj;exact bb j y aA
 |ptr id off c au h=>
  refine .ptr _ off c (AY ar aB au) λt cs ai=>?_;rw[yx,oC]at ai;obtain⟨o,aa,ae⟩:=zZ3.1 ai
  cases o with
  |box br cs'=>
   simp only[oC];exact h br cs' aa
  |_=>simp[tC]at ae
 |eb id off c au h=>
  refine .eb _ off c (AY ar aB au) λt cs ai=>?_;rw[yx,oC]at ai;obtain⟨o,aa,ae⟩:=zZ3.1 ai
  cases o with
  |box br cs'=>
   simp only[oC];exact h br cs' aa
  |_=>simp[tC]at ae
 |du id i off c au h=>
  refine .du _ i off c (AY ar aB au) λz t n es ai=>?_;rw[yx,oC]at ai;obtain⟨o,aa,ae⟩:=zZ3.1 ai
  cases o with
  |row h5 br b0 e2=>
   simp only[tC,ey.row.injEq]at ae;obtain⟨rfl,rfl,rfl,rfl⟩:=ae;simp only[oC];exact h _ _ _ _ aa
  |_=>simp[tC]at ae
 |aq id c au h=>
  refine .aq _ c (AY ar aB au) λz t n es ai=>?_;rw[yx,oC]at ai;obtain⟨o,aa,ae⟩:=zZ3.1 ai
  cases o with
  |row h5 br b0 e2=>
   simp only[oC];exact h _ _ _ _ aa
  |_=>simp[tC]at ae
 |fn f a b c d aa ae _ _ h7 h8=>
  refine .fn f _ _ c d (by rw[A0];exact aa) (by rw[A0];exact ae) (λj x aj=>?_) λj x aj=>?_
  ·obtain⟨y,aA,rfl⟩:=A1 p q aj
   exact h7 j y aA
  ·obtain⟨y,aA,rfl⟩:=A1 p q aj
   exact h8 j y aA
 |ref id c au h=>
  refine .ref _ c (AY ar aB au) λbU ai=>?_;rw[yx,oC]at ai;obtain⟨o,aa,ae⟩:=zZ3.1 ai
  cases o with
  |bW lv=>
   simp only[oC];exact h _ aa
  |_=>simp[tC]at ae
 |top c=>exact .top c
theorem Na(o:ey):(tC p q o).live=o.live:=by cases o<;>rfl
end
theorem b5.hU{s:aS}{p q:Nat}(ar:p<s.next)(aB:q<s.next)(zoF:s.base<=p)(zoG:s.base<=q):b5 s ⟨qN p q s.dn,wS p q s.heap,s.next,s.base⟩:=by
 intro E G a w ⟨β,ro,h⟩
 have back: ∀{k:Nat} {o:ey},aF (wS p q s.heap) k=some o->∃ct,aF s.heap (aH.hU p q k)=some ct/\o=tC p q ct:=λ{k o} ai=>by
  rw[yx]at ai;obtain⟨ct,aa,ae⟩:=zZ3.1 ai;exact⟨ct,aa,ae.symm⟩
 refine⟨λk=>β (aH.hU p q k),ro,h.defers,by rw[A0];exact h.size,λi x hx=>?_,⟨λk o ai=>?_,λk bl o ct b ai ee au kW af hB=>?_,λb af=>?_,h.heap.lt⟩,h.ix,?_,h.base⟩
 ·obtain⟨y,aA,rfl⟩:=A1 p q hx
  exact(h.slot i y aA).hU ar aB
 ·obtain⟨ct,aa,rfl⟩:=back ai
  cases h.heap.dB _ _ aa with
  |box t cs b arr aE bc cJ ek=>
   refine .box t _ b arr aE bc (by rw[A0];exact cJ) λj x aj=>?_
   obtain⟨y,aA,rfl⟩:=A1 p q aj;exact(ek j y aA).hU ar aB
  |row t n es xs aE bc cJ=>exact .row t n es xs aE bc cJ|gH t n es aE=>exact .gH t n es aE|bW bU b o aE bc cJ=>exact .bW bU b o aE bc cJ
 ·obtain⟨p0,aa,rfl⟩:=back ai
  obtain⟨H3,ae,rfl⟩:=back ee;rw[Na]at au kW;have:=h.heap.inj _ _ _ _ b aa ae au kW af hB;have:=congrArg (aH.hU p q) this
  rwa[oC,oC]at this
 ·rintro⟨k,o,ai,au,bp⟩
  obtain⟨p0,aa,rfl⟩:=back ai;rw[Na]at au;exact h.heap.fy b af ⟨_,p0,aa,au,bp⟩
 ·have t:=h.trans
  have zoH:=h.base;refine⟨t.os,t.tape,t.output,t.size,t.frame,t.h9,t.hp,?_,λid bq o ai=>?_,λid o ai=>?_,t.le⟩
  ·rintro b ⟨k,o,ai,au,bp⟩
   obtain⟨p0,aa,rfl⟩:=back ai;rw[Na]at au;exact t.gG b ⟨_,p0,aa,au,bp⟩
  ·obtain⟨p0,aa,rfl⟩:=back ai
   have ao:aH.hU p q id=id:=zd6 (N:=E.n) (by omega) (by omega) bq
   rw[ao]at aa;simp only[ao];exact t.er id bq p0 aa
  ·obtain⟨p0,aa,rfl⟩:=back ai
   exact zd5 ar aB (t.new _ _ aa)
def jf.hU(p q:Nat):jf->jf
 | .box t cs=>.box t (qN p q cs)|o=>o
def H4(p q:Nat):eM->eM
 |[]=>[]|(k,o)::r=>(aH.hU p q k,o.hU p q)::H4 p q r
theorem Uw(p q:Nat): ∀h:eM,c7 (H4 p q h)=wS p q (c7 h)
 |[]=>rfl|(k,o)::r=>by
  simp only[H4,c7,wS,Uw p q r]
  cases o<;>rfl
def Nb(p q:Nat)(S:bS):bS:=
 match(zZs p S.n&&zZs q S.n)&&(Nat.ble S.b p&&Nat.ble S.b q)with
 |true=>S.up (S.l.map (AZ p q)) (H4 p q S.h) S.n|false=>S
theorem zd7(p q:Nat)(S:bS):b5 S.den (Nb p q S).den:=by
 unfold Nb
 split
 ·rename_i hc
  simp only[Bool.and_eq_true]at hc;have:=b5.hU (s:=S.den) (p:=p) (q:=q) (fz hc.1.1) (fz hc.1.2) (zZq hc.2.1) (zZq hc.2.2);rw[lA,LW (AZ p q) rfl,Uw,<-H2];exact this
 ·exact b5.refl _
def A2(h:eM):List Nat->eM
 |[]=>[]|k::r=>match o7 h k with
  |some o=>(k,o)::A2 h r|none=>A2 h r
theorem Nc(h:eM): ∀(l:List Nat) (id:Nat) (o:ey),aF (c7 (A2 h l)) id=some o->aF (c7 h) id=some o
 |k::r,id,o,ai=>by
  simp only[A2]at ai
  split at ai
  ·rename_i x hx
   simp only[c7,aF]at ai
   split at ai
   ·rename_i an
    subst an;rw[uN,hx];exact ai
   ·exact Nc h r id o ai
  ·exact Nc h r id o ai
theorem zd8(S:bS)(l:List Nat):b5 S.den (S.up S.l (A2 S.h l) S.n).den:=by
 intro E G a w ⟨β,ro,h⟩;rw[lA];have ao:=Nc S.h l;exact⟨β,ro,h.defers,h.size,λi x hx=>(h.slot i x hx).sub ao,h.heap.sub ao,h.ix,h.trans.sub ao,h.base⟩
mutual
def MK:aC->List Nat
 | .agg cs=>A3 cs| .tuple cs=>A3 cs| .ptr id _=>[id]| .du id _ _=>[id]| .aq id=>[id]| .fn _ p q=>A3 p++A3 q| .ref id=>[id]| .eb id _=>[id]|_=>[]
def A3:List aC->List Nat
 |[]=>[]|x::r=>MK x++A3 r
end
def jf.refs:jf->List Nat
 | .box _ cs=>A3 cs|_=>[]
def AK(x:Nat):List Nat->Bool
 |[]=>false|y::r=>match zZu x y with
  |true=>true|false=>AK x r
def reach(h:eM)(n:Nat):Nat->List Nat->List Nat->List Nat
 |0,_,acc=>acc|_+1,[],acc=>acc|k+1,x::r,acc=>match zZs x n||AK x acc with
  |true=>reach h n k r acc|false=>match o7 h x with
   |some o=>reach h n k (o.refs++r) (x::acc)|none=>reach h n k r acc
def HB(n:Nat):eM->List Nat
 |[]=>[]|(k,o)::r=>match zZs k n with
  |true=>o.refs++HB n r|false=>HB n r
def Nd(S:bS):List Oper->List Nat
 |[]=>[]|o::r=>match o.dst with
  |some d=>MK (S.at d)++Nd S r|none=>Nd S r
def H5:Nat->List Nat->Nat->bS->bS
 |0,_,_,S=>S|_+1,[],_,S=>S
 |m+1,x::r,k,S=>H5 m (r.map (hU x k)) (k+1) (match zZu x k with
  |true=>S
  |false=>Nb x k S)
theorem Nf: ∀(m:Nat) (l:List Nat) (k:Nat) (S:bS),b5 S.den (H5 m l k S).den
 |0,_,_,_=>b5.refl _|_+1,[],_,_=>b5.refl _|m+1,x::r,k,S=>by
  simp only[H5]
  split
  ·exact Nf m _ _ _
  ·exact(zd7 x k S).trans (Nf m _ _ _)
def Ng(n:Nat):eM->List Nat
 |[]=>[]|(k,_)::r=>match zZs k n with
  |true=>k::Ng n r|false=>Ng n r
def Ux(n:Nat):Nat->List Nat
 |0=>[]|k+1=>(n+k)::Ux n k
def canon(n:Nat)(ops:List Oper)(S:bS):bS:=
 match zZu n S.n with
 |true=>S|false=>match(reach S.h n 100000 (Nd S ops++HB n S.h) []).reverse with
  |ids=>match H5 ids.length ids n S with
   |aM=>aM.up aM.l (A2 aM.h (Ux n ids.length++Ng n aM.h)) aM.n
theorem M9(n:Nat)(ops:List Oper)(S:bS):b5 S.den (canon n ops S).den:=by
 unfold canon
 split
 ·exact b5.refl _
 ·exact(Nf _ _ _ _).trans (zd8 _ _)
end Go.aH
