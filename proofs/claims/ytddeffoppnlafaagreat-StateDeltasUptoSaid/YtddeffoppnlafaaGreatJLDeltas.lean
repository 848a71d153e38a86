/- Conditions: none. -/
import Derived.Test.YtddeffoppnlafaaGreatJYw
import Derived.Test.YtddeffoppnlafaaGreatJVi
open List renaming mem_of_getElem?->zZ4
namespace Go.aH
open Go Go.aH Go.eT
theorem zfd{x:aY}(aa:x.eW.length<=256)(ae:x.eh.length<=256)(r:Rd):(yz x r).1.eW.length<=256/\(yz x r).1.eh.length<=256:=by
 have aP:(dD:aY).eW.length<=256/\(dD:aY).eh.length<=256:=⟨Nat.zero_le _,Nat.zero_le _⟩;unfold yz
 cases (cl (bk r).2 != 0)with
 |true=>exact aP|false=>
  cases na (bk r).1 with
  |true=>exact aP|false=>
   simp only[cond_false];unfold p1
   split
   ·have ai:=Nk (IntKind.wrap .u64) (et (bk r).1) 10 0 aa ae (bk r).2
    unfold H6 bu;generalize r3 (IntKind.wrap .u64) (et (bk r).1) 10 0 x (bk r).2=y at ai⊢
    cases et (bk r).1 10 with
    |true=>exact ai|false=>exact ai
   ·exact aP
theorem zfe{x y:aY}{b:ByteArray}(h:tE jY ⟨.st .aY,x⟩)(h':tE jY ⟨.st .aY,y⟩)(af:jl b):A5 x y b/\H7 x y b=true:=by
 have a8: ∀(i:Nat) (d:aK),(hN .aY x)[i]? =some d->hr jY d:=λi d hi=>h d (zZ4 hi);have gk: ∀(i:Nat) (d:aK),(hN .aY y)[i]? =some d->hr jY d:=λi d hi=>h' d (zZ4 hi);have zff:r4 x:=UP (p2 (a8 4 _ rfl)).1 (p2 (a8 7 _ rfl)).1;have zfg:r4 y:=UP (p2 (gk 4 _ rfl)).1 (p2 (gk 7 _ rfl)).1;have au:b7 b:=by unfold jl at af;unfold b7;omega
 have he:wT x b=A6 x b:=(UQ au).trans ((zfh au x).trans (zfi au).symm)
 have core:r5 x=true->r5 y=true->DV x b/\DW x b/\DX x y/\DY x y/\A7 x y=A8 x y/\DZ (wT x b).1 (wT x b).1:=λcw a2=>by
  have s1:=UR h (US cw);have s2:=UR h' (US a2);obtain⟨g1,g2⟩:=zfd (x:=x) (by have:=s1.2.2.2.2.1.1;omega) (by have:=s1.2.2.2.2.2.1.1;omega) (kC b)
  exact⟨zfj s1 au,zfk s1.2.1.1 au,zfl s1 s2,zfm s1 s2,(zfn s1 s2).trans (zfo s1 s2).symm,by rw[UQ au];exact zfp g1 g2⟩
 refine⟨⟨zff,λ_=>⟨λ_=>trivial,λhc=>by simp at hc⟩,λhx=>⟨zfg,λ_=>trivial,λhc=>?_⟩⟩,?_⟩
 ·simp only[Bool.or_eq_false_iff,Bool.not_eq_false']at hc
  obtain⟨dp,dP,hT,u0,A9,D0⟩:=core hc.1.1 hc.1.2;refine⟨dp,dP,hT,u0,λ_=>⟨?_,λ_=>trivial⟩,λ_ _=>trivial⟩;rw[<-he];exact D0
 ·unfold H7
  cases hx:r5 x with
  |false=>rfl|true=>
   cases aA:r5 y with
   |false=>rfl|true=>
    obtain⟨_,_,_,_,A9,_⟩:=core hx aA;simp only[Bool.not_true,cond_false,Bool.or_self,Bool.false_or]
    cases decide ((ByteArray.size b:Int)>5000)with
    |true=>rfl|false=>
     simp only[cond_false,<-he,A9,UT,cond_true,zfq,beq_self_eq_true,Bool.and_self];rfl
theorem zfr: ∀x,(∀d∈eH u1.ps x,tE 1048576 d)->p3 u1.pre x/\oF u1.rs (u1.m x)=yA true:=by
 intro x h;have aa:tE jY ⟨.st .aY,x.1⟩:=h _ (zZ4 (i:=0) rfl);have ae:tE jY ⟨.st .aY,x.2.1⟩:=h _ (zZ4 (i:=1) rfl);have aw:hr jY ⟨.str,x.2.2⟩:=h _ (zZ4 (i:=2) rfl);obtain⟨cw,a2⟩:=zfe aa ae (tF aw);refine⟨cw,?_⟩;show yA (H7 x.1 x.2.1 x.2.2)=yA true;rw[a2]
end Go.aH
