/- What script.Parse and script.Read ask. Conditions: none. -/
import Derived.Test.YtmkpmgfieagphaaDoorKLj
namespace Go.aG
open Go Go.du
theorem IP(z:Int):vB z:=by
 unfold vB
 decide
theorem IQ(l:List Int)(v:Int):(List.append l [v]).length=l.length+1:=by
 show(l++[v]).length=_
 rw[List.length_append]
 rfl
theorem QF{x:ByteArray}(hx:bD x):vC x:=by
 unfold bD at hx
 unfold vC
 intro v1 h
 have h:(bK .rem .i64 (x.size:Int) 2 != 0)=false:=h
 have h:(x.size:Int).tmod 2=0:=by simpa[bK]using h
 have aH:bK .quo .i64 (x.size:Int) 2=((x.size/ 2:Nat):Int):=by
  show IntKind.wrap .i64 ((x.size:Int).tdiv 2)=_;rw[Int.tdiv_eq_ediv_of_nonneg (by omega),eM _ (by omega) (by omega)]
  omega
 refine⟨?_,fun d=>0≤d.1∧d.1≤(x.size:Int)∧d.1%2=0∧(d.2.length:Int)≤d.1,fun d=>x.size-d.1.toNat,⟨Int.le_refl _,by show(0:Int)≤_;omega,rfl,Int.le_refl _⟩,?_,?_⟩
 ·show 0≤(0:Int)∧(0:Int)≤bK .quo .i64 (x.size:Int) 2∧bK .quo .i64 (x.size:Int) 2≤(maxLen:Int)∧(1:Int)*bK .quo .i64 (x.size:Int) 2≤281474976710656
  rw[aH];unfold maxLen;omega
 ·show x.size-Int.toNat 0<18446744073709551616
  omega
 ·intro d0 hd
  obtain⟨d1,d2,d3,d4⟩:=hd;intro bz
  have bz:d0.1<(x.size:Int):=of_decide_eq_true bz
  rw[Int.tmod_eq_emod_of_nonneg (by omega)]at h
  have cY:IntKind.wrap .i64 (d0.1+1)=d0.1+1:=eM _ (by omega) (by omega)
  have c0:IntKind.wrap .i64 (d0.1+2)=d0.1+2:=eM _ (by omega) (by omega)
  refine⟨⟨d1,bz⟩,?_,IP _,IP _,fun _=>⟨⟨?_,?_⟩,⟨?_,?_,?_,?_⟩,?_⟩⟩
  ·show 0≤IntKind.wrap .i64 (d0.1+1)∧IntKind.wrap .i64 (d0.1+1)<_
   rw[cY];omega
  ·show d0.2.length+1≤maxLen
   unfold maxLen;omega
  ·show(d0.2.length+1)*1≤_
   omega
  ·show 0≤IntKind.wrap .i64 (d0.1+2)
   rw[c0];omega
  ·show IntKind.wrap .i64 (d0.1+2)≤_
   rw[c0];omega
  ·show IntKind.wrap .i64 (d0.1+2)%2=0
   rw[c0];omega
  ·show((List.append d0.2 [_]).length:Int)≤IntKind.wrap .i64 (d0.1+2)
   rw[c0,IQ];omega
  ·show x.size-(IntKind.wrap .i64 (d0.1+2)).toNat<x.size-d0.1.toNat
   rw[c0];omega
theorem QG{x:ByteArray}(hx:bD x):(j4 x).1.size≤x.size+1:=by
 unfold bD at hx
 unfold j4
 dsimp only
 cases ((bK .rem .i64 (x.size:Int) (2:Int)) != 0)with
 |true=>exact Nat.zero_le _
 |false=>
  simp only[cond_false];refine IM (Q:=fun r:ByteArray × Int=>r.1.size≤x.size+1) (fun r ae=>?_) (fun c hc=>?_)
  ·have:r=(⟨#[]⟩,4):=by
    refine Qt (Q:=fun r=>r=(⟨#[]⟩,4)) ?_ _ _ _ ae
    intro a r h;revert h;simp only[cond_eq_ite]
    repeat' split
    ·intro h;cases h;rfl
    ·intro h;cases h
    ·intro h;cases h
   rw[this];exact Nat.zero_le _
  ·have:0≤c.1∧c.1≤(x.size:Int)+1∧(c.2.length:Int)≤c.1:=by
    refine Qu (I:=fun c:Int × List Int=>0≤c.1∧c.1≤(x.size:Int)+1∧(c.2.length:Int)≤c.1) ?_ _ _ _ ⟨Int.le_refl _,by show(0:Int)≤_;omega,Int.le_refl _⟩ hc
    intro a aI;obtain⟨bN,a2,a3⟩:=aI
    cases bz:decide (a.1<(x.size:Int))with
    |false=>
     simp only[cond_false];refine⟨fun aW h=>(by cases h),fun aW h=>?_⟩
     cases h;exact⟨bN,a2,a3⟩
    |true=>
     have bz:=of_decide_eq_true bz
     simp only[cond_true]
     have c0:IntKind.wrap .i64 (a.1+2)=a.1+2:=eM _ (by omega) (by omega)
     rw[c0];simp only[cond_eq_ite]
     split
     ·exact⟨fun aW h=>(by cases h),fun aW h=>(by cases h)⟩
     ·refine⟨fun aW h=>?_,fun aW h=>(by cases h)⟩
      cases h;refine⟨?_,?_,?_⟩
      ·show 0≤a.1+2;omega
      ·show a.1+2≤_;omega
      ·show((List.append a.2 [_]).length:Int)≤a.1+2
       rw[IQ];omega
   show(bytesOf c.2).size≤_;rw[vi];omega
theorem bD.str{x:ByteArray}(h:bD x){a b:Option Int}:bD (bh x a b):=by
 unfold bD at h⊢
 have:=yz (b:=x) (a:=a) (c:=b)
 omega
theorem p4{x:ByteArray}(hx:bD x){v:Int}(h:(decide (v≥0))=true)(av:v<(x.size:Int)):eE x.size none (some v)∧eE x.size (some (IntKind.wrap .i64 (v+1))) none:=by
 unfold bD at hx
 have h:v≥0:=of_decide_eq_true h
 have w:IntKind.wrap .i64 (v+1)=v+1:=eM _ (by omega) (by omega)
 rw[w]
 exact⟨⟨h,by omega⟩,⟨by omega,by omega⟩⟩
theorem yP{x:ByteArray}(c:UInt8)(h:bm .eql (⟨#[c]⟩:ByteArray) x=true):(0:Int)<(x.size:Int):=by
 have h:bR (⟨#[c]⟩:ByteArray) x=true:=h
 rw[sZ]at h
 rw[←h]
 exact Int.zero_lt_one
theorem IS{x:ByteArray}(hx:bD x):rB x:=by
 unfold rB
 intro b8
 have eL: ∀a b c,bD b→b8 a b c:=by
  intro a b c ad
  have eN: ∀v:Int,v<(b.size:Int)→((decide (v≥0))=true→(eE (ByteArray.size b) none (some v))∧(eE (ByteArray.size b) (some (IntKind.wrap .i64 (v+(1:Int)))) none)∧jD a)∧((decide (v≥0))=false→jD a):=by
   intro v av;exact⟨fun h=>⟨(p4 ad h av).1,(p4 ad h av).2,nY _⟩,fun _=>nY _⟩
  exact⟨fun h=>eN 0 (yP _ h),fun _=>⟨by decide,eN _ (p2 _ _).2⟩⟩
 have eN: ∀v:Int,v<(x.size:Int)→((decide (v≥0))=true→(eE (ByteArray.size x) none (some v))∧(eE (ByteArray.size x) (some (IntKind.wrap .i64 (v+(1:Int)))) none)∧b8 (bh x none (some v)) (bh x (some (IntKind.wrap .i64 (v+(1:Int)))) none) true)∧((decide (v≥0))=false→b8 x (⟨#[]⟩:ByteArray) false):=by
  intro v av;exact⟨fun h=>⟨(p4 hx h av).1,(p4 hx h av).2,eL _ _ true hx.str⟩,fun _=>eL _ _ false (Nat.zero_le _)⟩
 exact⟨fun h=>eN 0 (yP _ h),fun _=>⟨by decide,eN _ (p2 _ _).2⟩⟩
structure Ci (r:Int × ByteArray × ByteArray × Bool):Prop where
 d:dK r.1
 c:bD r.2.1
 n:bD r.2.2.1
noncomputable def oU{α:Type}(c:UInt8)(x:ByteArray)(K:ByteArray→ByteArray→Bool→α):α:=
 bif bm .eql (⟨#[c]⟩:ByteArray) x then(bif decide ((0:Int)≥0)then K (bh x none (some 0)) (bh x (some (IntKind.wrap .i64 ((0:Int)+(1:Int)))) none) true else K x (⟨#[]⟩:ByteArray) false)
 else(bif decide (eA x (aK (⟨#[c]⟩:ByteArray) 0)≥0)then K (bh x none (some (eA x (aK (⟨#[c]⟩:ByteArray) 0)))) (bh x (some (IntKind.wrap .i64 (eA x (aK (⟨#[c]⟩:ByteArray) 0)+(1:Int)))) none) true else K x (⟨#[]⟩:ByteArray) false)
theorem Cj{α:Type}{Q:α→Prop}{c:UInt8}{x:ByteArray}{K:ByteArray→ByteArray→Bool→α}(hx:bD x)(h: ∀a b f,bD a→bD b→Q (K a b f)):Q (oU c x K):=by
 have e:bD (⟨#[]⟩:ByteArray):=Nat.zero_le _
 unfold oU
 simp only[cond_eq_ite]
 repeat' split
 ·exact h _ _ _ hx.str hx.str
 ·exact h _ _ _ hx e
 ·exact h _ _ _ hx.str hx.str
 ·exact h _ _ _ hx e
theorem IT(x:ByteArray):iz x=oU 46 x fun a r f=>oU 46 r fun b c g=>((fv a).1,b,c,((f&&g)&&(fv a).2)):=by
 kernel_rfl
theorem IU{x:ByteArray}(hx:bD x):Ci (iz x):=by
 rw[IT]
 exact Cj (Q:=Ci) hx fun a r f _ ae=>Cj (Q:=Ci) ae fun b c g ad hc=>⟨p3 _,ad,hc⟩
theorem rC(r:Rd):dK (cR r).1:=by
 unfold cR
 simp only[cond_eq_ite]
 repeat' split
 ·exact cg
 ·exact cg
 ·exact yL _
theorem vD(r:Rd)(n:Int)(h:0≤n)(hn:n≤20000):bD (jZ r n).1:=by
 have:=vw r n h
 unfold bD
 omega
theorem QH(r:Rd):p0 (pU r).1:=by
 have e:bD (⟨#[]⟩:ByteArray):=Nat.zero_le _
 have aa:p0 (ve r):=by
  unfold ve;simp only[cond_eq_ite]
  repeat' split
  ·exact⟨rC _,rC _,e⟩
  ·exact⟨rC _,cg,vD _ _ (by decide) (by decide)⟩
  ·exact⟨rC _,cg,e⟩
 unfold pU
 simp only[cond_eq_ite]
 split
 ·exact⟨cg,cg,e⟩
 ·exact aa
theorem QI(s:ByteArray):mQ (j2 s).1:=by
 have e:bD (⟨#[]⟩:ByteArray):=Nat.zero_le _
 have bl:mQ yr:=⟨cg,cg,cg,e,e,e,⟨cg,cg,e⟩,e⟩
 have ho:bD (lr s).1:=by
  unfold lr;exact vD _ _ (by decide) (by decide)
 have hd:mQ (gH s):=by
  unfold gH;generalize lr s=d8 at ho⊢;exact⟨rC _,rC _,rC _,vD _ _ (by decide) (by decide),vD _ _ (by decide) (by decide),vD _ _ (by decide) (by decide),QH _,ho⟩
 unfold j2
 repeat' split
 all_goals first|exact bl|exact hd
theorem IV{x:ByteArray}(hx:bD x):dF (j4 x).1:=by
 have:=QG hx
 unfold bD at hx
 unfold dF
 omega
set_option maxRecDepth 4000 in
theorem QJ{k:Int}{x:ByteArray}(hx:bD x):yQ k x:=by
 unfold yQ
 intro b8
 have eL: ∀a b,bD a→bD b→b8 a b:=by
  intro a b aI ad
  have eN: ∀v:Bool,(v=true→(vA b)∧rB a)∧(v=false→((k==3)=true→rB x)∧((k==3)=false→((k==12)=true→(vC b)∧sU (j4 b).1)∧((k==12)=false→
   ((k==8)=true→((k==8)=true→(jD a)∧jD b)∧((k==8)=false→(k==14)=false→jD x))∧((k==8)=false→((k==9)=true→(jD a)∧jD b)∧((k==9)=false→(k==14)=false→jD x))))):=by
   intro v;exact⟨fun _=>⟨QD ad,IS aI⟩,fun _=>⟨fun _=>IS hx,fun _=>⟨fun _=>⟨QF ad,Is (IV ad)⟩,fun _=>⟨fun _=>⟨fun _=>⟨nY _,nY _⟩,fun _ _=>nY _⟩,fun _=>⟨fun _=>⟨nY _,nY _⟩,fun _ _=>nY _⟩⟩⟩⟩⟩
  exact⟨fun _=>eN _,fun _=>eN _⟩
 have eN: ∀v:Int,v<(x.size:Int)→((decide (v≥0))=true→(eE (ByteArray.size x) none (some v))∧(eE (ByteArray.size x) (some (IntKind.wrap .i64 (v+(1:Int)))) none)∧b8 (bh x none (some v)) (bh x (some (IntKind.wrap .i64 (v+(1:Int)))) none))∧((decide (v≥0))=false→b8 x (⟨#[]⟩:ByteArray)):=by
  intro v av;exact⟨fun h=>⟨(p4 hx h av).1,(p4 hx h av).2,eL _ _ hx.str hx.str⟩,fun _=>eL _ _ hx (Nat.zero_le _)⟩
 exact⟨fun h=>eN 0 (yP _ h),fun _=>⟨by decide,eN _ (p2 _ _).2⟩⟩
noncomputable def mR(k:Int)(x a b:ByteArray):aT × Bool:=
 bif((k==2)||(k==13))then((⟨k,0,0,⟨(iz a).1,(iz a).2.1,(iz a).2.2.1⟩,⟨(kr b).1.kind,(kr b).1.n,(kr b).1.s⟩,⟨0,⟨#[]⟩,⟨#[]⟩⟩,⟨⟨#[]⟩,⟨0,0,⟨0,⟨#[]⟩,⟨#[]⟩⟩,⟨#[]⟩,⟨0,0,⟨#[]⟩⟩,⟨#[]⟩⟩⟩⟩:aT),((iz a).2.2.2&&((kr b).2==0)))
 else bif(k==3)then((⟨k,0,0,⟨0,⟨#[]⟩,⟨#[]⟩⟩,⟨0,0,⟨#[]⟩⟩,⟨(iz x).1,(iz x).2.1,(iz x).2.2.1⟩,⟨⟨#[]⟩,⟨0,0,⟨0,⟨#[]⟩,⟨#[]⟩⟩,⟨#[]⟩,⟨0,0,⟨#[]⟩⟩,⟨#[]⟩⟩⟩⟩:aT),(iz x).2.2.2)
 else bif(k==12)then((⟨k,0,0,⟨0,⟨#[]⟩,⟨#[]⟩⟩,⟨0,0,⟨#[]⟩⟩,⟨0,⟨#[]⟩,⟨#[]⟩⟩,⟨a,(iP (j4 b).1).1⟩⟩:aT),(((j4 b).2==0)&&((iP (j4 b).1).2==0)))
 else bif((k==8)||(k==9))then((⟨k,(fv a).1,(fv b).1,⟨0,⟨#[]⟩,⟨#[]⟩⟩,⟨0,0,⟨#[]⟩⟩,⟨0,⟨#[]⟩,⟨#[]⟩⟩,⟨⟨#[]⟩,⟨0,0,⟨0,⟨#[]⟩,⟨#[]⟩⟩,⟨#[]⟩,⟨0,0,⟨#[]⟩⟩,⟨#[]⟩⟩⟩⟩:aT),((fv a).2&&(fv b).2))
 else bif(k==14)then((⟨k,0,0,⟨0,⟨#[]⟩,⟨#[]⟩⟩,⟨0,0,⟨#[]⟩⟩,⟨0,⟨#[]⟩,⟨#[]⟩⟩,⟨⟨#[]⟩,⟨0,0,⟨0,⟨#[]⟩,⟨#[]⟩⟩,⟨#[]⟩,⟨0,0,⟨#[]⟩⟩,⟨#[]⟩⟩⟩⟩:aT),true)
 else((⟨k,(fv x).1,0,⟨0,⟨#[]⟩,⟨#[]⟩⟩,⟨0,0,⟨#[]⟩⟩,⟨0,⟨#[]⟩,⟨#[]⟩⟩,⟨⟨#[]⟩,⟨0,0,⟨0,⟨#[]⟩,⟨#[]⟩⟩,⟨#[]⟩,⟨0,0,⟨#[]⟩⟩,⟨#[]⟩⟩⟩⟩:aT),(fv x).2)
theorem QK{k:Int}{x a b:ByteArray}(aj:dK k)(hx:bD x)(aI:bD a)(ad:bD b):gF (mR k x a b).1:=by
 have e:bD (⟨#[]⟩:ByteArray):=Nat.zero_le _
 have p5:mQ ⟨0,0,⟨0,⟨#[]⟩,⟨#[]⟩⟩,⟨#[]⟩,⟨0,0,⟨#[]⟩⟩,⟨#[]⟩⟩:=⟨cg,cg,cg,e,e,e,⟨cg,cg,e⟩,e⟩
 have yR:=IU aI
 have de:=IU hx
 have l4:=QE b
 have IW:=p3 a
 have s5:=p3 b
 have rD:=p3 x
 have q:mQ (iP (j4 b).1).1:=by
  rw[yt (IV ad)];exact QI _
 unfold mR
 generalize iP (j4 b).1=Q at q⊢
 generalize iz a=A at yR⊢
 generalize iz x=X at de⊢
 generalize kr b=V at l4⊢
 generalize fv a=Yj at IW⊢
 generalize fv b=Yk at s5⊢
 generalize fv x=Yl at rD⊢
 generalize j4 b=H
 cases ((k==2)||(k==13))
 ·cases (k==3)
  ·cases (k==12)
   ·cases ((k==8)||(k==9))
    ·cases (k==14)
     ·exact⟨aj,rD,cg,cg,e,e,⟨cg,cg,e⟩,cg,e,e,e,p5⟩
     ·exact⟨aj,cg,cg,cg,e,e,⟨cg,cg,e⟩,cg,e,e,e,p5⟩
    ·exact⟨aj,IW,s5,cg,e,e,⟨cg,cg,e⟩,cg,e,e,e,p5⟩
   ·exact⟨aj,cg,cg,cg,e,e,⟨cg,cg,e⟩,cg,e,e,aI,q⟩
  ·exact⟨aj,cg,cg,cg,e,e,⟨cg,cg,e⟩,de.d,de.c,de.n,e,p5⟩
 ·exact⟨aj,cg,cg,yR.d,yR.c,yR.n,⟨l4.k,l4.n,l4.s⟩,cg,e,e,e,p5⟩
theorem IX(k:Int)(x:ByteArray):m12 k x=oU 32 x fun a b _=>mR k x a b:=by
 unfold m12 oU mR
 dsimp only
 generalize kr=f1
 generalize iz=f2
 generalize j4=f3
 generalize fv=f4
 generalize iP=f5
 cases bm .eql (⟨#[32]⟩:ByteArray) x
 ·simp only[cond_false]
  cases decide (eA x (aK (⟨#[32]⟩:ByteArray) 0)≥0)
  ·simp only[cond_false]
   cases (k==2)
   ·cases (k==13)
    ·cases (k==3)
     ·cases (k==12)
      ·cases (k==8)
       ·cases (k==9)
        ·cases (k==14)<;>rfl
        ·rfl
       ·rfl
      ·rfl
     ·rfl
    ·rfl
   ·rfl
  ·simp only[cond_true]
   cases (k==2)
   ·cases (k==13)
    ·cases (k==3)
     ·cases (k==12)
      ·cases (k==8)
       ·cases (k==9)
        ·cases (k==14)<;>rfl
        ·rfl
       ·rfl
      ·rfl
     ·rfl
    ·rfl
   ·rfl
 ·simp only[cond_true]
  cases decide ((0:Int)≥0)
  ·simp only[cond_false]
   cases (k==2)
   ·cases (k==13)
    ·cases (k==3)
     ·cases (k==12)
      ·cases (k==8)
       ·cases (k==9)
        ·cases (k==14)<;>rfl
        ·rfl
       ·rfl
      ·rfl
     ·rfl
    ·rfl
   ·rfl
  ·simp only[cond_true]
   cases (k==2)
   ·cases (k==13)
    ·cases (k==3)
     ·cases (k==12)
      ·cases (k==8)
       ·cases (k==9)
        ·cases (k==14)<;>rfl
        ·rfl
       ·rfl
      ·rfl
     ·rfl
    ·rfl
   ·rfl
theorem IY{k:Int}{x:ByteArray}(aj:dK k)(hx:bD x):gF (m12 k x).1:=by
 rw[IX]
 exact Cj (Q:=fun r:aT × Bool=>gF r.1) hx fun a b _ aI ad=>QK aj hx aI ad
end Go.aG
namespace Go.aG
open Go Go.du
theorem BO{x:ByteArray}(hx:bD x):nZ x:=by
 unfold nZ
 intro b8
 have eL: ∀a b,bD b→b8 a b:=by
  intro a b ad;exact⟨fun _ _=>True,trivial,fun i d _ _=>⟨fun _=>trivial,fun _=>⟨QJ ad,vb (IY (yL _) ad),fun _=>trivial⟩⟩⟩
 have eN: ∀v:Int,v<(x.size:Int)→((decide (v≥0))=true→(eE (ByteArray.size x) none (some v))∧(eE (ByteArray.size x) (some (IntKind.wrap .i64 (v+(1:Int)))) none)∧b8 (bh x none (some v)) (bh x (some (IntKind.wrap .i64 (v+(1:Int)))) none))∧((decide (v≥0))=false→b8 x (⟨#[]⟩:ByteArray)):=by
  intro v av;exact⟨fun h=>⟨(p4 hx h av).1,(p4 hx h av).2,eL _ _ hx.str⟩,fun _=>eL _ _ (Nat.zero_le _)⟩
 exact⟨fun h=>eN 0 (yP _ h),fun _=>⟨by decide,eN _ (p2 _ _).2⟩⟩
theorem yS{x:ByteArray}{v:Int}:((bh x (some v) none).size:Int)=(x.size-v.toNat:Nat):=by
 show((ByteArray.extract x v.toNat x.size).size:Int)=_
 rw[ByteArray.size_extract]
 omega
def Ck(n:Nat)(d:Int × ByteArray × Bool × List aT × Bool × Int):Nat:=bif d.2.2.1 then(bif d.2.2.2.2.1 then 1 else 2+(n-d.2.2.2.2.2.toNat))else 0
structure Cl (x:ByteArray) (d:Int × ByteArray × Bool × List aT × Bool × Int):Prop where
 line:bD d.2.1
 pos:d.2.2.2.2.1=false→0≤d.2.2.2.2.2∧d.2.2.2.2.2≤(x.size:Int)
 cnt:0≤d.1∧d.1+(Ck x.size d:Int)≤(x.size:Int)+3
 len:(d.2.2.2.1.length:Int)≤d.1
theorem yT{x line:ByteArray}{cnt pos:Int}{ok done:Bool}{al:List aT}(aa:bD line)(af:done=false→0≤pos∧pos≤(x.size:Int))(ar:0≤cnt)(aQ:cnt+((bif ok then(bif done then 1 else 2+(x.size-pos.toNat))else 0:Nat):Int)≤(x.size:Int)+3)(bx:(al.length:Int)≤cnt):
 Cl x (cnt,line,ok,al,done,pos):=⟨aa,af,⟨ar,aQ⟩,bx⟩
theorem BN(x:ByteArray):s6 x:=by
 unfold s6
 intro ah
 have ah: ¬(x.size:Int)>1048576:=of_decide_eq_false ah
 have hx:bD x:=by unfold bD;omega
 intro aM
 have eL: ∀(l:ByteArray) (b:Bool) (v:Int),bD l→(b=false→0≤v∧v≤(x.size:Int))→aM l b v:=by
  intro l b v an av;refine⟨Cl x,Ck x.size,yT an av (Int.le_refl _) ?_ (Int.le_refl _),?_,?_⟩
  ·show(0:Int)+((bif b then 1 else 2+(x.size-v.toNat):Nat):Int)≤_
   cases b<;>simp only[cond_true,cond_false]<;>omega
  ·show(bif b then 1 else 2+(x.size-v.toNat):Nat)<18446744073709551616
   cases b<;>simp only[cond_true,cond_false]<;>omega
  ·intro d0 hd iR
   obtain⟨cnt,line,ok,rE,done,pos⟩:=d0
   have iR:ok=true:=iR
   subst iR
   have g1:bD line:=hd.line
   have g2:done=false→0≤pos∧pos≤(x.size:Int):=hd.pos
   have g3:0≤cnt:=hd.cnt.1
   have g4:cnt+((bif done then 1 else 2+(x.size-pos.toNat):Nat):Int)≤(x.size:Int)+3:=hd.cnt.2
   have g5:(rE.length:Int)≤cnt:=hd.len
   clear hd
   have hc:cnt≤(x.size:Int)+2:=by
    cases done<;>simp only[cond_true,cond_false]at g4<;>omega
   have cY:IntKind.wrap .i64 (cnt+1)=cnt+1:=eM _ (by omega) (by omega)
   intro b8
   have vx: ∀(k:Int) (al:List aT),k=cnt+1→(al.length:Int)≤cnt+1→b8 k al:=by
    intro k al aj an;subst aj
    cases done with
    |true=>
     have g4:cnt+((1:Nat):Int)≤(x.size:Int)+3:=g4
     exact⟨fun _=>⟨yT (Nat.zero_le _) (fun h=>(by cases h)) (by omega) (by show cnt+1+((0:Nat):Int)≤_;omega) an,show 0<1 by decide⟩,fun h=>(by cases h)⟩
    |false=>
     obtain⟨lz,kV⟩:=g2 rfl
     have g4:cnt+((2+(x.size-pos.toNat):Nat):Int)≤(x.size:Int)+3:=g4
     have ae:=p2 (bh x (some pos) none) 10
     rw[yS]at ae;refine⟨fun h=>(by cases h),fun _=>⟨⟨lz,kV⟩,fun _=>⟨⟨lz,kV⟩,?_⟩,fun hn=>?_⟩⟩
     ·exact⟨yT (line:=bh x (some pos) none) hx.str (fun h=>(by cases h)) (by omega) (by show cnt+1+((1:Nat):Int)≤_;omega) an,show 1<2+(x.size-pos.toNat)by omega⟩
     ·have hn: ¬eA (bh x (some pos) none) 10<0:=of_decide_eq_false hn
      have e:iA (bh x (some pos) none) 10=eA (bh x (some pos) none) 10:=rfl
      show eE x.size (some pos) (some (IntKind.wrap .i64 (pos+iA (bh x (some pos) none) 10)))∧Cl x (cnt+1,bh x (some pos) (some (IntKind.wrap .i64 (pos+iA (bh x (some pos) none) 10))),true,al,false,IntKind.wrap .i64 (pos+IntKind.wrap .i64 (iA (bh x (some pos) none) 10+1)))∧Ck x.size (cnt+1,bh x (some pos) (some (IntKind.wrap .i64 (pos+iA (bh x (some pos) none) 10))),true,al,false,IntKind.wrap .i64 (pos+IntKind.wrap .i64 (iA (bh x (some pos) none) 10+1)))<2+(x.size-pos.toNat);rw[e];generalize eA (bh x (some pos) none) 10=q at ae hn⊢
      have c0:IntKind.wrap .i64 (pos+q)=pos+q:=eM _ (by omega) (by omega)
      have jE:IntKind.wrap .i64 (q+1)=q+1:=eM _ (by omega) (by omega)
      have rF:IntKind.wrap .i64 (pos+(q+1))=pos+(q+1):=eM _ (by omega) (by omega)
      rw[c0,jE,rF];exact⟨⟨lz,by omega,by omega⟩,yT (line:=bh x (some pos) (some (pos+q))) hx.str (fun _=>⟨by omega,by omega⟩) (by omega) (by show cnt+1+((2+(x.size-(pos+(q+1)).toNat):Nat):Int)≤_;omega) an,show 2+(x.size-(pos+(q+1)).toNat)<2+(x.size-pos.toNat)by omega⟩
   refine⟨fun h=>⟨Int.le_refl _,rz h⟩,fun _=>vx _ rE cY (show(rE.length:Int)≤cnt+1 by omega),fun _=>⟨BO g1,fun _=>⟨⟨?_,?_⟩,vx _ _ cY ?_⟩⟩⟩
   ·show rE.length+1≤maxLen
    unfold maxLen;omega
   ·show(rE.length+1)*272≤_
    omega
   ·show((rE++[(m5 line).1]).length:Int)≤cnt+1
    rw[List.length_append];show((rE.length+1:Nat):Int)≤cnt+1;omega
 have ae:=p2 (bh x (some 0) none) 10
 rw[yS]at ae
 refine⟨⟨Int.le_refl _,by show(0:Int)≤_;omega⟩,fun _=>⟨⟨Int.le_refl _,by show(0:Int)≤_;omega⟩,eL _ _ _ hx.str (fun h=>by cases h)⟩,fun hn=>?_⟩
 have hn: ¬eA (bh x (some 0) none) 10<0:=of_decide_eq_false hn
 have e:iA (bh x (some 0) none) 10=eA (bh x (some 0) none) 10:=rfl
 show eE x.size (some (0:Int)) (some (IntKind.wrap .i64 ((0:Int)+iA (bh x (some 0) none) 10)))∧aM (bh x (some 0) (some (IntKind.wrap .i64 ((0:Int)+iA (bh x (some 0) none) 10)))) false (IntKind.wrap .i64 ((0:Int)+IntKind.wrap .i64 (iA (bh x (some 0) none) 10+1)))
 rw[e]
 generalize eA (bh x (some 0) none) 10=q at ae hn⊢
 have c0:IntKind.wrap .i64 (0+q)=q:=by rw[eM _ (by omega) (by omega)];omega
 have jE:IntKind.wrap .i64 (q+1)=q+1:=eM _ (by omega) (by omega)
 have rF:IntKind.wrap .i64 (0+(q+1))=q+1:=by rw[eM _ (by omega) (by omega)];omega
 rw[c0,jE,rF]
 exact⟨⟨Int.le_refl _,by omega,by omega⟩,eL _ _ _ hx.str (fun _=>⟨by omega,by omega⟩)⟩
theorem Cm{x:ByteArray}(h:x.size≤1000):bD x:=by unfold bD;omega
theorem yg:n1:=by
 have e:bD (⟨#[]⟩:ByteArray):=Nat.zero_le _
 have s: ∀k:Int, -10≤k→k≤20→dK k:=fun k aa af=>oR (by omega) (by omega)
 have p5:mQ ⟨0,0,⟨0,⟨#[]⟩,⟨#[]⟩⟩,⟨#[]⟩,⟨0,0,⟨#[]⟩⟩,⟨#[]⟩⟩:=⟨cg,cg,cg,e,e,e,⟨cg,cg,e⟩,e⟩
 have an: ∀i:Nat,(List.getD ([⟨#[116,105,99,107,32,48,53]⟩,⟨#[116,105,99,107]⟩,⟨#[84,105,99,107,32,53]⟩,⟨#[115,101,110,115,101,32,49,46,118,97,108,118,101,46,111,112,101,110,32,110,111,110,101]⟩]:List ByteArray) i (ed .str)).size≤1000:=by
  intro i
  match i with
  |0=>decide
  |1=>decide
  |2=>decide
  |3=>decide
  |_+4=>exact Nat.zero_le _
 unfold n1
 refine⟨vb ⟨s _ (by decide) (by decide),cg,cg,s _ (by decide) (by decide),Cm (by decide),Cm (by decide),⟨s _ (by decide) (by decide),s _ (by decide) (by decide),e⟩,cg,e,e,e,p5⟩,fun _=>⟨vb ⟨s _ (by decide) (by decide),s _ (by decide) (by decide),cg,cg,e,e,⟨cg,cg,e⟩,cg,e,e,e,p5⟩,fun _=>⟨fun _ _=>True,trivial,fun i d _ _=>⟨BO (Cm (an _)),fun _=>trivial⟩,fun _ _=>BN _⟩⟩⟩
theorem Pm:m4=true:=by kernel_rfl
end Go.aG
