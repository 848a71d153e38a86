/- The reference's Decode asks nothing more. Conditions: none. -/
import Derived.Test.YtddeffoppnlafaaGreatKYi
namespace Go.aK
open Go Go.aK Go.fb
theorem zbm{x:ByteArray}(h:cD x):Fs x:=by
 have aS:cT ⟨x,0,0,true⟩:=XD h
 have ab:cT (bY ⟨x,0,0,true⟩).2:=eR aS
 have ae:cT (hI (bY ⟨x,0,0,true⟩).2).2:=iE ab
 unfold Fs
 intro v1
 have aD:v1=((bY ⟨x,0,0,true⟩).2,(bY ⟨x,0,0,true⟩).1):=fT aS
 refine⟨jY aS,?_⟩
 intro v4
 have dU:v4=((hI (bY ⟨x,0,0,true⟩).2).2,(hI (bY ⟨x,0,0,true⟩).2).1):=by show gq v1.1 60=_;rw[aD];exact lf ab
 refine⟨by rw[aD];exact su ab,?_⟩
 intro ba
 refine⟨by rw[dU];exact tU ae,?_⟩
 intro aW
 refine Aw ek.lK.eX (fun q T=>let b3:=uI q;(Bz q)∧T [b3.2] b3.1) (fun q T aG dm=>by simp only[ek.lK.eq aG];exact⟨ek.lK.ok aG,dm⟩) 104 (by decide) aW (fun i l q aG=>?_) ae (by show gT v4.1 256=_;rw[dU])
 unfold aW
 intro b5
 have DS:b5=((n5 q).2,(n5 q).1):=ek.texts.eq (q:=q) aG
 have aM:=ek.texts.eX aG
 refine⟨ek.texts.ok (q:=q) aG,?_⟩
 intro b3
 refine⟨by rw[DS];exact tU aM,?_⟩
 intro fm
 refine Aw ek.hj.eX (fun q T=>let b3:=uJ q;(BB q)∧T [b3.2] b3.1) (fun q T aG dm=>by simp only[ek.hj.eq aG];exact⟨ek.hj.ok aG,dm⟩) 80 (by decide) fm (fun i l q aG=>?_) aM (by show gT b5.1 256=_;rw[DS])
 unfold fm
 intro v28
 refine⟨tU (q:=q) aG,?_⟩
 intro ha
 refine Aw (Qg (c:=IntKind.wrap .u64)) (fun q T=>let ov:=gq q (60:Int);(lT q (60:Int))∧let ow:=eb ov.1;(hO ov.1)∧let v51:=eb ow.1;(hO ow.1)∧T [⟨ov.2,⟨ow.2,(IntKind.wrap .u64 v51.2)⟩⟩] v51.1) (fun q T aG dm=>by
  have g1:=iE (n:=60) aG
  have g2:=eR g1
  simp only[lf aG,fT g1,fT g2]
  exact⟨su aG,jY g1,jY g2,dm⟩) 32 (by decide) ha (fun i l q aG=>?_) (q0:=q) aG rfl
 unfold ha
 intro v37
 have DT:v37=((ih q 20000).2,(ih q 20000).1):=lf (q:=q) aG
 have dW:=iE (n:=20000) aG
 refine⟨su (q:=q) aG,?_⟩
 intro v40
 refine⟨by rw[DT];exact tU dW,?_⟩
 intro oq
 refine Aw Qh (fun q T=>let ou:=gq q (60:Int);(lT q (60:Int))∧let j7:=qn ou.1;(wA ou.1)∧T [⟨ou.2,j7.2⟩] j7.1) (fun q T aG dm=>by
  have g1:=iE (n:=60) aG
  simp only[lf aG,ek.items.eq g1]
  exact⟨su aG,ek.items.ok g1,dm⟩) 40 (by decide) oq (fun i l q aG=>?_) dW (by show gT v37.1 256=_;rw[DT])
 unfold oq
 intro v49
 have Io:v49=((bY q).2,(bY q).1):=fT (q:=q) aG
 refine⟨jY (q:=q) aG,?_⟩
 rw[Io]
 exact ek.ints.ok (eR aG)
def IA(q:bG × Rd):bG × Int:=if sy q.2=0 then(q.1,0)else(dv,sy q.2)
theorem YN{x:ByteArray}(h:cD x):sT x=IA (ss (IntKind.wrap .u64) (fun _=>true) 10 0 dv (vL x)):=by
 rw[ziV h]
 unfold IA dv
 rfl
theorem zbj{x:ByteArray}(h:cD x):sT x=yx x:=by
 rw[YN h,ziI h]
 obtain⟨g1,g2⟩:=(eQ.Xt (IntKind.wrap .u64) (fun _=>true) 10 0 dv).Ig (vL x) (Ay x) (XE h)
 generalize ss (IntKind.wrap .u64) (fun _=>true) 10 0 dv (vL x)=a at g1 g2⊢
 generalize Au (IntKind.wrap .u64) (fun _=>true) 10 0 dv (Ay x)=b at g1 g2⊢
 unfold IA Az
 rw[zjo g1]
 by_cases aT:sv b.2=0
 ·rw[if_pos aT,if_pos aT,g2 (by
   rw[lL g1]
   by_cases he:dI b.2=0
   ·exact he
   ·exfalso
    unfold sv at aT;rw[show(dI b.2 != 0)=true by simpa using he]at aT
    exact he aT)]
 ·rw[if_neg aT,if_neg aT]
end Go.aK
namespace Go.aK
open Go Go.aK Go.fb
theorem ub{R:Type}{b:Nat→Unit→Step R Unit}: ∀(n k:Nat),(∀i,b i ()= .bM ())→bJ b k n ()= .inr ()
 |0,_,_=>rfl
 |n+1,k,h=>by
  simp only[bJ,h k];exact ub n (k+1) h
theorem IB(a:ByteArray):gB a a=true:=Yp.2 rfl
theorem YO(a:ByteArray):iS .neq a a=false:=by
 show(!(gB a a))=false
 rw[IB];rfl
theorem Sh(a:ByteArray):iS .eql a a=true:=IB a
theorem YP(l:List bk):uL l l=true:=by
 unfold uL
 simp only[bne_self_eq_false,cond_false]
 rw[ub _ _ fun i=>by simp only[beq_self_eq_true,IB,cond_true,Bool.not_true,cond_false]]
 rfl
theorem IC(l:List bk):BS l l:=fun _=>⟨fun _ _=>True,trivial,fun i _ hi _=>⟨⟨by omega,by rw[Int.toNat_natCast]at hi;omega⟩,fun _=>trivial⟩⟩
theorem YQ(l:List ByteArray):m32 l l=true:=by
 unfold m32
 simp only[bne_self_eq_false,cond_false]
 rw[ub _ _ fun i=>by simp only[YO,cond_false]]
 rfl
theorem QK(l:List ByteArray):FM l l:=fun _=>⟨fun _ _=>True,trivial,fun i _ hi _=>⟨⟨by omega,by rw[Int.toNat_natCast]at hi;omega⟩,fun _=>trivial⟩⟩
theorem zjF(l:List Int):BR l l=true:=by
 unfold BR
 simp only[bne_self_eq_false,cond_false]
 rw[ub _ _ fun i=>by simp only[bne_self_eq_false,cond_false]]
 rfl
theorem zjG(l:List Int):Kd l l:=fun _=>⟨fun _ _=>True,trivial,fun i _ hi _=>⟨⟨by omega,by rw[Int.toNat_natCast]at hi;omega⟩,fun _=>trivial⟩⟩
theorem zjH(l:List cG):BO l l=true:=by
 unfold BO
 simp only[bne_self_eq_false,cond_false]
 rw[ub _ _ fun i=>by simp only[beq_self_eq_true,cond_true,Bool.not_true,cond_false]]
 rfl
theorem zjI(l:List cG):Kb l l:=fun _=>⟨fun _ _=>True,trivial,fun i _ hi _=>⟨⟨by omega,by rw[Int.toNat_natCast]at hi;omega⟩,fun _=>trivial⟩⟩
theorem zjJ(b:Bool):fN.den (.pe false) b b=true:=by cases b<;>rfl
theorem zjK(x:bC):BP x x=true:=by
 unfold BP
 have ag:fN.den (.pe false) x.home x.home=true:=zjJ _
 simp only[Sh,beq_self_eq_true,ag,Bool.and_self,cond_true,zjH,YQ]
theorem zjL(x:bC):FN x x:=by
 unfold FN
 dsimp only
 exact⟨fun _=>⟨zjI _,fun _=>QK _⟩,fun _ _=>QK _⟩
theorem zjM(l:List bC):BQ l l=true:=by
 unfold BQ
 simp only[bne_self_eq_false,cond_false,zjK,Bool.not_true]
 rw[ub _ _ fun i=>rfl]
 rfl
theorem zjN(l:List bC):Kc l l:=fun _=>⟨fun _ _=>True,trivial,fun i _ hi _=>⟨⟨by omega,by rw[Int.toNat_natCast]at hi;omega⟩,zjL _,fun _=>trivial⟩⟩
theorem zjO(x:bS):BT x x=true:=by
 unfold BT
 simp only[beq_self_eq_true,Bool.and_self,cond_true,YP]
theorem zjP(x:bS):FO x x:=by
 unfold FO
 dsimp only
 exact⟨fun _=>⟨IC _,fun _=>IC _⟩,fun _ _=>IC _⟩
theorem zbr(x:bG):BU x x=true:=by
 unfold BU
 simp only[bne_self_eq_false,YO,Bool.or_self,cond_false,zjM,YQ,zjF,Bool.not_true,zjO,YP]
 rw[ub _ _ fun i=>rfl,Sum.elim_inr,ub _ _ fun i=>by simp only[IB,beq_self_eq_true,cond_true,Bool.not_true,cond_false],Sum.elim_inr,ub _ _ fun i=>rfl]
 rfl
theorem zbp{x:bG}(ab:x.fg.length≤256)(ae:x.eB.length≤256):FP x x:=by
 unfold FP
 intro cq bp
 have H: ∀v,bp v:=by
  intro v;unfold bp;intro v11 cu
  have YR: ∀v,cu v:=by
   intro v;unfold cu;intro cn gj
   have YS: ∀v,gj v:=by
    intro v;unfold gj;intro _ cv v21 v25 _ aW;refine⟨fun _ _=>True,trivial,fun i _ hi _=>⟨⟨Int.natCast_nonneg i,?_⟩,zjP _,fun _=>trivial⟩,fun _ _=>?_⟩
    ·have hi:i<Int.toNat (x.fY.length:Int):=hi
     rw[Int.toNat_natCast]at hi;omega
    ·unfold aW
     refine⟨⟨Int.natCast_nonneg _,by show(x.fg.length:Int)<_;omega⟩,?_⟩
     intro fm;refine⟨fun _ _=>True,trivial,fun i _ hi _=>⟨⟨Int.natCast_nonneg i,?_⟩,fun _=>trivial⟩,fun _ _=>?_⟩
     ·have hi:i<Int.toNat (x.fg.length:Int):=hi
      rw[Int.toNat_natCast]at hi;omega
     ·unfold fm
      refine⟨⟨Int.natCast_nonneg _,by show(x.eB.length:Int)<_;omega⟩,fun _ _=>True,trivial,fun i _ hi _=>?_⟩
      have hi:i<Int.toNat (x.eB.length:Int):=hi
      have ag:(0:Int)≤(i:Int)∧(i:Int)<(x.eB.length:Int):=⟨Int.natCast_nonneg i,by rw[Int.toNat_natCast]at hi;omega⟩
      exact⟨ag,fun _=>ag,fun _ _=>trivial,fun _=>⟨IC _,fun _=>trivial⟩⟩
   exact⟨fun _=>YS _,fun _=>⟨zjG _,YS _⟩⟩
  exact⟨fun _=>YR _,fun _=>⟨QK _,YR _⟩⟩
 exact⟨fun _=>H _,fun _=>⟨zjN _,H _⟩⟩
theorem YT{α:Type}{R:Rd→α × Rd}(r:Rd):(lM 256 R r).1.length≤256:=by
 have ab:=(Iq (r:=r)).1
 have ae:=XN (R:=R) (cH r 256).1.toNat [] (r:=(cH r 256).2)
 have aw:(lM 256 R r).1=(lg R (cH r 256).1.toNat [] (cH r 256).2).1:=rfl
 rw[aw]
 simp only[List.length_nil]at ae
 omega
theorem zjQ(c:Int→Int)(i:Nat){s:bG}(ab:s.fg.length≤256)(ae:s.eB.length≤256)(r:Rd):(sr c i s r).1.fg.length≤256∧(sr c i s r).1.eB.length≤256:=by
 unfold sr
 split
 ·exact⟨ab,ae⟩
 ·exact⟨ab,ae⟩
 ·exact⟨ab,ae⟩
 ·exact⟨ab,ae⟩
 ·exact⟨ab,ae⟩
 ·exact⟨YT r,ae⟩
 ·exact⟨ab,ae⟩
 ·exact⟨ab,YT r⟩
 ·exact⟨ab,ae⟩
 ·exact⟨ab,ae⟩
theorem YU(c:Int→Int): ∀(n i:Nat) {s:bG},s.fg.length≤256→s.eB.length≤256→∀r,(ss c (fun _=>true) n i s r).1.fg.length≤256∧(ss c (fun _=>true) n i s r).1.eB.length≤256
 |0,_,_,ab,ae,_=>⟨ab,ae⟩
 |n+1,i,s,ab,ae,r=>by
  obtain⟨g1,g2⟩:=zjQ c i ab ae r;exact YU c n (i+1) g1 g2 _
theorem zbk{x:ByteArray}(h:cD x):(sT x).1.fg.length≤256∧(sT x).1.eB.length≤256:=by
 rw[YN h]
 have:=YU (IntKind.wrap .u64) 10 0 (s:=dv) (Nat.zero_le _) (Nat.zero_le _) (vL x)
 unfold IA
 split
 ·exact this
 ·exact⟨Nat.zero_le _,Nat.zero_le _⟩
end Go.aK
